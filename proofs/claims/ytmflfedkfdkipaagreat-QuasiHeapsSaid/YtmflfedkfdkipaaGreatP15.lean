import Derived.Shelf.GgSortFunc.RowK
import Derived.Test.YtmflfedkfdkipaaGreatP14
set_option linter.all false
open List Go.IntKind
open Nat hiding beq_eq
namespace Go.Vx
open Go Go.Rx Go.Proofs Go.Sort
def z4p{m:Nm}{s:S}{w:Jb}(h:fW m s w)(e:Ie Obj):bJ m s w m s (grow w e):=by
 have d:∀b,b<w.heap.size->(grow w e).heap[b]? = w.heap[b]?:=fun b a=>by simp only[Sort.grow];rw[qcL a]
 refine⟨aJ.refl _ _,zF _,fun g f=>?_,fun _ h=>.inl h,fun b a _=>d b a,by simp[Sort.grow],rfl,rfl,rfl⟩;have c:=h g f;exact⟨fun i b a=>(c.ok i b a).world (d _<|c.size a),c.inj,c.bd⟩
section
variable{a:Type}[Inhabited a]{enc:a->X I}{k:Nat}(b:∀x,(enc x).length=k)(c:0<k)
include b c
def qvr:∀(d:X a)(t:Nat),t<d.length*k->((d.map enc).flatten)[t]? = some ((enc d.toArray[t/k]!)[t%k]!)
 |[],t,h=>by simp at h
 |x::d,t,h=>by
  simp only[zQ,Wx];have f:=b x;obtain e |KY:=XL t k;rw[kl ag,div_eq_of_lt e,vg e];simp[f,e];rw[kq ag,f,qvr d (t-k) (by simp only[zO,eF]at h;omega)];have g:t/k=(t-k)/k+1:=by have:=sub_mul_div t k 1;rw[Nat.mul_one]at this;have j:1<=t/k:=(one_le_div_iff c).2 KY;omega
  have i:t%k=(t-k)%k:=by rw[mod_eq_sub_mod KY]
  rw[g,i];simp
omit [Inhabited a] c in
def Mt(d:X a):((d.map enc).flatten).length=d.length*k:=by induction d with|nil=>simp|cons x d e=>simp only[zQ,Wx,zU,b,e,zO,eF];omega
def qvp(d:X a):flatK enc k d.toArray=((d.map enc).flatten).toArray:=by
 apply TS;intro t;by_cases e:t<d.length*k;have f:(((d.map enc).flatten).toArray)[t]? = some ((enc d.toArray[t/k]!)[t%k]!):=by rw[vv];exact qvr b c d t e
 rw[f];have g:t<(flatK enc k d.toArray).size:=by simpa using e
 rw[qcO g];have:=get_flatK enc k d.toArray t (by simpa using e);rw[OP _ t g]at this;rw[this];have f:(((d.map enc).flatten).toArray)[t]? = none:=by rw[vv];exact Xi (by rw[Mt b];omega)
 rw[f];exact Ac (by simpa using qcv e)
end
def Um:∀{a b:X U}{c d:X I},eE a=some c->eE b=some d->eE (a++b)=some (c++d)
 |[],b,c,d,h,e=>by simp only[eE,zA]at h;subst h;simpa using e
 |u::a,b,c,d,h,e=>by simp only[eE]at h;rcases g:cK u with _|v;simp[g]at h;simp only[g]at h;rcases f:eE a with _|vs;simp[f]at h;simp only[f,zA]at h;subst h;simp only[fV,eE,g,Um f e]
def qn0{a:Type}{encU:a->X U}{enc:a->X I}(h:∀x,eE (encU x)=some (enc x)):∀b:X a,eE ((b.map encU).flatten)=some ((b.map enc).flatten)
 |[]=>rfl|x::b=>by simp only[zQ,Wx];exact Um (h x) (qn0 h b)
def pj{a:Type}{encU:a->X U}(h:∀x,I5 (encU x)=true):∀b:X a,I5 ((b.map encU).flatten)=true
 |[]=>rfl|x::b=>by simp only[zQ,Wx];exact NG (h x) (pj h b)
def qsu{a:Type}{enc:a->X I}(h:∀m x,aF m (enc x)=enc x)(m:Nm):∀b:X a,aF m ((b.map enc).flatten)=(b.map enc).flatten
 |[]=>by simp[aF]
 |x::b=>by simp only[zQ,Wx];have c:=qsu h m b;have d:=h m x;rw[lM]at c d ⊢;rw[LY,c,d]
def qsf(pre c b a:X I)(h:b.length=c.length):putCells id pre.length b.toArray (pre++c++a).toArray=(pre++b++a).toArray:=by
 apply TS;intro t;simp only[putCells,Array.getElem?_mapIdx,vv,mm,id];obtain d |d:=XL t pre.length;rw[zT,zT,kl d,kl d];simp[d,show ¬ pre.length<=t by omega];rcases XL t (pre.length+c.length)with g |g;have e:(pre++c++a)[t]? = some (c[t-pre.length]' ag):=by rw[zT,kq d,kl ag];exact hF ag
 have f:(pre++b++a)[t]? = some (b[t-pre.length]' ag):=by rw[zT,kq d,kl ag];exact hF ag
 rw[e,f];simp only[zM];rw[kh ⟨d,by omega⟩];rw[OP _ _ (by simp;omega)];simp;have e:(pre++c++a)[t]? = a[t-pre.length-c.length]?:=by rw[zT,kq d,kq ag]
 have f:(pre++b++a)[t]? = a[t-pre.length-c.length]?:=by rw[zT,kq d,kq ag,h]
 rw[e,f];obtain _|v:=a[t-pre.length-c.length]?;rfl;simp only[zM];rw[iy ag]
end Go.Vx
