import Derived.Shelf.GgSortFunc.RowK
import Derived.Shelf.SlSortCmp.WholeK
import Derived.Test.YtmflfedkfdkipaaGreatP14
set_option linter.all false
namespace Go.Vx
open Go Go.Rx Go.Proofs Go.Sort
def z1k{m:Nm}{s:S}{w:Tz}(h:fN m s w)(os:Bo Obj):bQ m s w m s (grow w os):=by
 have mA:∀b,b<w.heap.size->(grow w os).heap[b]? = w.heap[b]?:=fun b hb=>by simp only[Sort.grow];rw[Array.getElem?_append_left hb]
 refine⟨aJ.refl _ _,zF _,fun m' ha=>?_,fun _ h=>.inl h,fun b hb _=>mA b hb,by simp[Sort.grow],rfl,rfl,rfl⟩;have hf:=h m' ha;exact⟨fun i b hb=>(hf.ok i b hb).world (mA _ (hf.size hb)),hf.inj,hf.bd⟩
section
variable{v11:Type}[Inhabited v11]{enc:v11->Z A}{k:Nat}(hk:∀x,(enc x).length=k)(CX:0<k)
include hk CX
def qto:∀(ds:Z v11)(t:Nat),t<ds.length*k->((ds.map enc).flatten)[t]? = some ((enc ds.toArray[t/k]!)[t%k]!)
 |[],t,h=>by simp at h
 |x::ds,t,h=>by
  simp only[zQ,List.flatten_cons];have hx:=hk x;rcases Nat.lt_or_ge t k with aH |AY;rw[List.getElem?_append_left (by omega),Nat.div_eq_of_lt aH,Nat.mod_eq_of_lt aH];simp[hx,aH];rw[List.getElem?_append_right (by omega),hx,qto ds (t-k) (by simp only[zO,Nat.succ_mul]at h;omega)];have e1:t/k=(t-k)/k+1:=by have:=Nat.sub_mul_div t k 1;rw[Nat.mul_one]at this;have h1:1<=t/k:=(Nat.one_le_div_iff CX).2 AY;omega
  have e2:t%k=(t-k)%k:=by rw[Nat.mod_eq_sub_mod AY]
  rw[e1,e2];simp
omit [Inhabited v11] CX in
def qo(ds:Z v11):((ds.map enc).flatten).length=ds.length*k:=by induction ds with|nil=>simp|cons x ds ih=>simp only[zQ,List.flatten_cons,zU,hk,ih,zO,Nat.succ_mul];omega
def qtn(ds:Z v11):flatK enc k ds.toArray=((ds.map enc).flatten).toArray:=by
 apply Array.ext_getElem?;intro t;by_cases ht:t<ds.length*k;have e0:(((ds.map enc).flatten).toArray)[t]? = some ((enc ds.toArray[t/k]!)[t%k]!):=by rw[List.getElem?_toArray];exact qto hk CX ds t ht
 rw[e0];have hs:t<(flatK enc k ds.toArray).size:=by simpa using ht
 rw[Array.getElem?_eq_getElem hs];have:=get_flatK enc k ds.toArray t (by simpa using ht);rw[getElem!_pos _ t hs]at this;rw[this];have e0:(((ds.map enc).flatten).toArray)[t]? = none:=by rw[List.getElem?_toArray];exact List.getElem?_eq_none (by rw[qo hk];omega)
 rw[e0];exact Array.getElem?_eq_none (by simpa using Nat.le_of_not_lt ht)
end
def qua{v11:Type}{encU:v11->Z U}(h:∀x,okL (encU x)=true):∀ds:Z v11,okL ((ds.map encU).flatten)=true
 |[]=>rfl|x::ds=>by simp only[zQ,List.flatten_cons];exact MJ (h x) (qua h ds)
def qq9(pre fl fl' rest:Z A)(hl:fl'.length=fl.length):putCells id pre.length fl'.toArray (pre++fl++rest).toArray=(pre++fl'++rest).toArray:=by
 apply Array.ext_getElem?;intro t;simp only[putCells,Array.getElem?_mapIdx,List.getElem?_toArray,List.size_toArray,id];rcases Nat.lt_or_ge t pre.length with h1 |h1;rw[zT,zT,List.getElem?_append_left h1,List.getElem?_append_left h1];simp[h1,show ¬ pre.length<=t by omega];rcases Nat.lt_or_ge t (pre.length+fl.length)with h2 |h2;have e1:(pre++fl++rest)[t]? = some (fl[t-pre.length]'(by omega)):=by rw[zT,List.getElem?_append_right h1,List.getElem?_append_left (by omega)];exact List.getElem?_eq_getElem (by omega)
 have e2:(pre++fl'++rest)[t]? = some (fl'[t-pre.length]'(by omega)):=by rw[zT,List.getElem?_append_right h1,List.getElem?_append_left (by omega)];exact List.getElem?_eq_getElem (by omega)
 rw[e1,e2];simp only[zM];rw[if_pos ⟨h1,by omega⟩];rw[getElem!_pos _ _ (by simp;omega)];simp;have e1:(pre++fl++rest)[t]? = rest[t-pre.length-fl.length]?:=by rw[zT,List.getElem?_append_right h1,List.getElem?_append_right (by omega)]
 have e2:(pre++fl'++rest)[t]? = rest[t-pre.length-fl.length]?:=by rw[zT,List.getElem?_append_right h1,List.getElem?_append_right (by omega),hl]
 rw[e1,e2];rcases rest[t-pre.length-fl.length]? with _|v;rfl;simp only[zM];rw[if_neg (by omega)]
def aV.of_same{P:Uz}{f:FuncId}{us:Z U}{vs:Z A}{u:U}{cv:A}(hv:mR us=some vs)(hr:∀m,aE m vs=vs)(hu:toV u=some cv)(CT:∀m,ren m cv=cv)(h:∀w,Calls P f vs.toArray w fun e w'=>e=.returned cv/\w'=w)(X:Sg):aV P f us X (fun u' X'=>u'=u/\X'=X):=fun F x ws m w cargs hx hh fP he eG cJ=>by
 have:=(Ff us vs hv x ws).1 he;subst this;have F?:cargs=ws:=by rw[<-cJ.at,hr]
 subst F?;refine(h w).mono ?_;rintro e w' ⟨rfl,rfl⟩;exact⟨x,m,u,cv,cv,rfl,⟨rfl,hx⟩,bQ.refl eG,fun m' _=>CT m',hh,fP,(vF u cv hu x cv).2 rfl,Ke.refl _ _,zF _⟩
def IW{v11:Type}(lt:v11->v11->BQ)(x:v11):Z v11->Z v11
 |[]=>[x]|y::l=>cond (lt y x) (y::IW lt x l) (x::y::l)
def srt{v11:Type}(lt:v11->v11->BQ):Z v11->Z v11
 |[]=>[]|x::l=>IW lt x (srt lt l)
def ql{v11:Type}(lt:v11->v11->BQ)(x:v11):∀l,(IW lt x l).Perm (x::l)
 |[]=>.refl _|y::l=>by simp only[IW];rcases lt y x with _|_;exact .refl _;exact((ql lt x l).cons y).trans (.swap _ _ _)
def M9{v11:Type}(lt:v11->v11->BQ):∀l,(srt lt l).Perm l
 |[]=>.refl _|x::l=>(ql lt x _).trans ((M9 lt l).cons x)
def Asc{v11:Type}(lt:v11->v11->BQ)(l:Z v11):Prop:=l.Pairwise (fun x y=>lt y x=false)
def qtv{v11:Type}{lt:v11->v11->BQ}(h:SWO lt)(x:v11):∀{l},Asc lt l->Asc lt (IW lt x l)
 |[],_=>by simp[IW,Asc]
 |y::l,ha=>by
  simp only[IW];unfold Asc at ha ⊢;rw[List.pairwise_cons]at ha;cases hy:lt y x with
  |true=>simp only[zC];rw[List.pairwise_cons];refine⟨fun z hz=>?_,qtv h x ha.2⟩;have:=(ql lt x l).mem_iff.1 hz;rcases zI.1 this with rfl |hz;rcases hzy:lt z y with _|_;rfl;have:=h.trans y z y hy hzy;rw[h.irrefl]at this;cases this;exact ha.1 z hz
  |false=>simp only[zD];rw[List.pairwise_cons];refine⟨fun z hz=>?_,List.pairwise_cons.2 ha⟩;rcases zI.1 hz with rfl |hz;exact hy;exact h.ntrans z y x (ha.1 z hz) hy
def z0g{v11:Type}{lt:v11->v11->BQ}(h:SWO lt):∀l,Asc lt (srt lt l)
 |[]=>by simp[srt,Asc]
 |x::l=>qtv h x (z0g h l)
end Go.Vx
namespace Go.Vx
open Go Go.Rx Go.Proofs Go.Sort Go.Shelf
def Zg{m:Nm}{v:A}(h:v.oneCell'=true):(ren m v).oneCell'=true:=by
 cases v with
 |agg _=>simp[Value.oneCell']at h|tuple _=>simp[Value.oneCell']at h
 |pointer o=>cases o<;>rfl|slice o _ _=>cases o<;>rfl
 |map o=>cases o<;>rfl|chan o=>cases o<;>rfl
 |_=>rfl
def z7u{x:Cx}{m:Nm}:∀{u:U}{v:A},okC u=true->aB x u v->(ren m v).oneCell'=true
 |.junk,v,h,_=>by simp[okC]at h
 |.agg _,v,h,_=>by simp[okC]at h
 |.tup _,v,h,_=>by simp[okC]at h
 |.bool _,v,_,h=>by simp only[aB]at h;subst h;rfl
 |.int _ _,v,_,h=>by simp only[aB]at h;subst h;rfl
 |.str _,v,_,h=>by simp only[aB]at h;subst h;rfl
 |.nilp,v,_,h=>by simp only[aB]at h;subst h;rfl
 |.nils,v,_,h=>by simp only[aB]at h;subst h;rfl
 |.nilm,v,_,h=>by simp only[aB]at h;subst h;rfl
 |.nilf,v,_,h=>by simp only[aB]at h;subst h;rfl
 |.nili,v,_,h=>by simp only[aB]at h;subst h;rfl
 |.ptr _ _ _,v,_,h=>by simp only[aB]at h;exact Zg h.1
 |.sl _ _ _ _,v,_,h=>by simp only[aB]at h;exact Zg h.1
 |.vl _ _ _ _,v,_,h=>by simp only[aB]at h;exact Zg h.1
 |.map _,v,_,h=>by simp only[aB]at h;exact Zg h.1
 |.iptr _,v,_,h=>by simp only[aB]at h;obtain⟨i,off,row,e,rfl,_⟩:=h;rfl
 |.isl _ _,v,_,h=>by simp only[aB]at h;rcases h with⟨_,rfl |⟨r,rfl⟩⟩|⟨i,off,c,rfl,_⟩<;>rfl
 |.fn _ _ _,v,_,h=>by simp only[aB]at h;obtain⟨va,vb,rfl,_⟩:=h;rfl
section
variable{v10:Type}{encU:v10->Z U}{k:Nat}{x:Cx}{m:Nm}
structure El(encU:v10->Z U)(k:Nat)(x:Cx)(m:Nm)(ds:Z v10) where
 a:v10
 sv:Z A
 mem:a∈ds
 len:sv.length=k
 rel:aX x (encU a) sv
 ren:∀m',aJ x.s.nx m m'->aE m' sv=aE m sv
def qtj(hk:∀a,(encU a).length=k){ds:Z v10}:∀(Ii:Z v10)(l0:Z A),(∀a∈Ii,a∈ds)->aX x (Ii.map encU).flatten l0->(∀m',aJ x.s.nx m m'->aE m' l0=aE m l0)->
  ∃ps:Z (El encU k x m ds),ps.map (fun p=>p.a)=Ii/\(ps.map (fun p=>p.sv)).flatten=l0
 |[],l0,_,h,_=>by have:=h.nil_inv;subst this;exact⟨[],rfl,rfl⟩
 |a::Ii,l0,hm,h,hr=>by
  simp only[zQ,List.flatten_cons]at h;have ht:=h.take k;have hd:=h.drop k;rw[List.take_left' (hk a)]at ht;rw[List.drop_left' (hk a)]at hd;have NK:∀m',aJ x.s.nx m m'->aE m' (l0.take k)=aE m (l0.take k)/\aE m' (l0.drop k)=aE m (l0.drop k):=fun m' ha=>by have:=hr m' ha;simp only[lD,List.map_take,List.map_drop]at this ⊢;rw[this];exact⟨rfl,rfl⟩
  obtain⟨ps,h1,h2⟩:=qtj hk Ii (l0.drop k) (fun b hb=>hm b (by simp[hb])) hd fun m' ha=>(NK m' ha).2;have aN:(l0.take k).length=k:=by rw[<-ht.2,hk]
  exact⟨⟨a,l0.take k,hm a (by simp),aN,ht,fun m' ha=>(NK m' ha).1⟩::ps,by simp[h1],by simp[h2]⟩
def ce{ds:Z v10}:∀ps:Z (El encU k x m ds),aX x ((ps.map (fun p=>p.a)).map encU).flatten (ps.map (fun p=>p.sv)).flatten
 |[]=>aX.nil x|p::ps=>by simp only[zQ,List.flatten_cons];exact p.rel.append (ce ps)
def bz{ds:Z v10}{m':Nm}(ha:aJ x.s.nx m m'):∀ps:Z (El encU k x m ds),aE m' (ps.map (fun p=>p.sv)).flatten=(ps.map (fun p=>aE m p.sv)).flatten
 |[]=>by simp[aE]
 |p::ps=>by have h1:=bz ha ps;have h2:=p.ren m' ha;simp only[lD,zQ,List.flatten_cons,List.map_append]at h1 h2 ⊢;rw[h1,h2]
end
def Cz(P:Uz)(g:FuncId)(args:Z U)(z:Int):Prop:=∀(vs cargs:Z A)(x:Cx),i8 x->aX x args vs->∀m:Nm,mU m x.s.nx vs cargs->∀w:Tz,fN m (JI x.s) w->
  Calls P g cargs.toArray w fun e w'=>e=.returned (.int .i64 z)/\∃q os,w'=grow (w.drewN q) os
def qy8{v11:Type}[Inhabited v11]{enc:v11->Z A}{k:Nat}(hk:∀x,(enc x).length=k)(CX:0<k){w:Tz}{b off:Nat}{pre rest:Z A}{e:O}{ps:Z v11}(nA:w.heap[b]? = some (.cells (pre++(ps.map enc).flatten++rest).toArray e (0,0)))(mY:pre.length=off):HoldsK enc k w b off ps.toArray:=by unfold HoldsK Holds;rw[qtn hk CX];intro j hj;simp only[List.size_toArray]at hj;refine⟨?_,?_⟩;simp only[World.cell?,nA];simp only[Option.isSome_none,Bool.false_eq_true,if_false,List.getElem?_toArray,id];rw[zT,List.getElem?_append_right (by omega),List.getElem?_append_left (by omega)];rw[show off+j-pre.length=j by omega,List.getElem?_eq_getElem hj,getElem!_pos _ _ (by simpa using hj)];simp;simp[World.frozen?,nA]
def gI{v10:Type}(f:v10->v10->I Int)(x y:v10):BQ:=decide ((f x y).getD 0<0)
def WG{v10:Type}(eq:v10->v10->BQ)(f:v10->v10->I Int)(ds:Z v10):BQ :=
 ds.all fun x=>!(gI f x x)&&ds.all fun y=>(f x y).isSome&&((gI f x y||(gI f y x||eq x y))&&ds.all fun z=>(!(gI f x y&&gI f y z)||gI f x z)&&(gI f x y||(gI f y z || !(gI f x z))))
def Xk{v10:Type}(eq:v10->v10->BQ)(f:v10->v10->I Int)(ds:Z v10):I (Z v10):=cond (Nat.ble ds.length 1000000&&WG eq f ds) (some (srt (gI f) ds)) none
structure Cy{v10:Type}(f:v10->v10->I Int)(S:v10->Prop):Prop where
 irrefl:∀x,S x->gI f x x=false
 some:∀x y,S x->S y->∃z,f x y=some z
 anti:∀x y,S x->S y->gI f x y=false->gI f y x=false->x=y
 trans:∀x y z,S x->S y->S z->gI f x y=true->gI f y z=true->gI f x z=true
 ntrans:∀x y z,S x->S y->S z->gI f x y=false->gI f y z=false->gI f x z=false
variable{v10:Type}
def qmj{eq:v10->v10->BQ}(A?:∀x y,eq x y=true->x=y){f:v10->v10->I Int}{ds:Z v10}(h:WG eq f ds=true):Cy f (· ∈ds):=by
 unfold WG at h;rw[List.all_eq_true]at h;have h1:∀x∈ds,gI f x x=false/\∀y∈ds,(f x y).isSome=true/\(gI f x y||(gI f y x||eq x y))=true/\∀z∈ds,(!(gI f x y&&gI f y z)||gI f x z)=true/\(gI f x y||(gI f y z || !(gI f x z)))=true:=fun x hx=>by have a:=h x hx;rw[Bool.and_eq_true,Bool.not_eq_true',List.all_eq_true]at a;refine⟨a.1,fun y hy=>?_⟩;have b:=a.2 y hy;rw[Bool.and_eq_true,Bool.and_eq_true,List.all_eq_true]at b;refine⟨b.1,b.2.1,fun z hz=>?_⟩;have c:=b.2.2 z hz;rw[Bool.and_eq_true]at c;exact c
 refine⟨fun x hx=>(h1 x hx).1,fun x y hx hy=>Option.isSome_iff_exists.1 ((h1 x hx).2 y hy).1,fun x y hx hy a b=>?_,fun x y z hx hy hz a b=>?_,fun x y z hx hy hz a b=>?_⟩;have:=((h1 x hx).2 y hy).2.1;rw[a,b]at this;exact A? x y (by simpa using this);have:=(((h1 x hx).2 y hy).2.2 z hz).1;rw[a,b]at this;simpa using this;have:=(((h1 x hx).2 y hy).2.2 z hz).2;rw[a,b]at this;simpa using this
def qpo{v10:Type}{f:v10->v10->I Int}{S:v10->Prop}(h:Cy f S)(x:v10)(hx:S x):∀{l},(∀y∈l,S y)->Asc (gI f) l->Asc (gI f) (IW (gI f) x l)
 |[],_,_=>by simp[IW,Asc]
 |y::l,hS,ha=>by
  have vt:=hS y (by simp);have hlS:∀z∈l,S z:=fun z hz=>hS z (by simp[hz]);simp only[IW];unfold Asc at ha ⊢;rw[List.pairwise_cons]at ha;cases hy:gI f y x with
  |true=>simp only[zC];rw[List.pairwise_cons];refine⟨fun z hz=>?_,qpo h x hx hlS ha.2⟩;have:=(ql (gI f) x l).mem_iff.1 hz;rcases zI.1 this with rfl |hz;rcases hzy:gI f z y with _|_;rfl;have:=h.trans y z y vt hx vt hy hzy;rw[h.irrefl y vt]at this;cases this;exact ha.1 z hz
  |false=>simp only[zD];rw[List.pairwise_cons];refine⟨fun z hz=>?_,List.pairwise_cons.2 ha⟩;rcases zI.1 hz with rfl |hz;exact hy;exact h.ntrans z y x (hlS z hz) vt hx (ha.1 z hz) hy
def ap{v10:Type}{f:v10->v10->I Int}{S:v10->Prop}(h:Cy f S):∀l,(∀y∈l,S y)->Asc (gI f) (srt (gI f) l)
 |[],_=>by simp[srt,Asc]
 |x::l,hS=>qpo h x (hS x (by simp)) (fun y hy=>hS y (by simp[(M9 (gI f) l).mem_iff.1 hy])) (ap h l fun y hy=>hS y (by simp[hy]))
def qjl{v10:Type}{f:v10->v10->I Int}{S:v10->Prop}(h:Cy f S):∀{a b:Z v10},(∀y∈a,S y)->Asc (gI f) a->Asc (gI f) b->a.Perm b->a=b
 |[],b,_,_,_,hp=>by rw[hp.nil_eq]
 |x::a,[],_,_,_,hp=>by have:=hp.length_eq;simp at this
 |x::a,y::b,hS,ha,hb,hp=>by
  unfold Asc at ha hb;rw[List.pairwise_cons]at ha hb;have kM:x=y:=by have h1:x∈y::b:=hp.mem_iff.1 (by simp);have h2:y∈x::a:=hp.mem_iff.2 (by simp);rcases zI.1 h1 with h1 |h1;exact h1;rcases zI.1 h2 with h2 |h2;exact h2.symm;exact h.anti x y (hS x (by simp)) (hS y (by simp[h2])) (hb.1 x h1) (ha.1 y h2)
  subst kM;rw[qjl h (fun z hz=>hS z (by simp[hz])) ha.2 hb.2 (List.Perm.cons_inv hp)]
def Cy.swo{f:v10->v10->I Int}{S:v10->Prop}(h:Cy f S){B:Type}(e:B->v10)(he:∀b,S (e b)):SWO (ltOf fun p q:B=>(f (e p) (e q)).getD 0):=
 ⟨fun x=>h.irrefl _ (he x),fun x y z=>h.trans _ _ _ (he x) (he y) (he z),fun x y z=>h.ntrans _ _ _ (he x) (he y) (he z)⟩
def z4l(P:Uz)(f g:FuncId)(k:Nat):Prop:=∀(v11:Type)[Inhabited v11](enc:v11->Z A)(cf:v11->v11->Int),(∀x,(enc x).length=k)->(∀x,∀v∈enc x,v.oneCell'=true)->SWO (ltOf cf)->
 ∀(cb:Bo A)(blk off cap:Nat)(d:Bo v11)(w:Tz),CmpLays P g cb enc k cf blk off d.size w->HoldsK enc k w blk off d->blk<w.heap.size->d.size<4611686018427387904->
  Calls P f #[.slice (some ⟨blk,off,none⟩) d.size cap,.func (.func g) #[] cb] w fun e w'=>e=.returned (.tuple #[])/\∃d' n os,PermIn 0 d.size d d'/\SortedIn (ltOf cf) 0 d.size d'/\w'=sortWorldK enc k w blk off n d' os
def aV.cmpJ{P:Uz}{g:FuncId}{args:Z U}{vs cargs:Z A}{z:Int}(h:Cz P g args z){x:Cx}(hh:i8 x)(he:aX x args vs){m:Nm}(cJ:mU m x.s.nx vs cargs){w:Tz}(hf:fN m (JI x.s) w):
  Calls P g cargs.toArray w fun e w'=>e=.returned (.int .i64 z)/\∃q os,w'=grow (w.drewN q) os:=h vs cargs x hh he m cJ w hf
def aV.sortC0{P:Uz}{f g:FuncId}{encU:v10->Z U}{k:Nat}(hk:∀a,(encU a).length=k)(CX:0<k)(sS:∀a,okL (encU a)=true){cs:Z U}{f1:v10->v10->I Int}(hs:z4l P f g k)
  (ds:Z v10) (hO:Cy f1 (· ∈ds)) (E?:∀a b r,f1 a b=some r->Cz P g (.agg (encU a):: .agg (encU b)::cs) r)
  {X:Sg} {K st:Nat} {e:O} (cT:ds≠[]) (aN:ds.length<4611686018427387904) (hg:gt X.h K=some (.vec ((ds.map encU).flatten) e k st)):
  aV P f [.vl K st 0 ds.length,.fn (.func g) [] cs] X (fun u X'=>u=.tup []/\X'=⟨ug X.h K (.vec (((srt (gI f1) ds).map encU).flatten) e k st),X.nx⟩):=fun F x vs m w cargs hx hh fP he eG cJ=>by
 subst hx;obtain⟨v0,Iu,rfl,h0,he⟩:=he.inv;obtain⟨v1,sn,rfl,h1,he⟩:=he.inv;have:=he.nil_inv;subst this;simp only[aB]at h0 h1;obtain⟨va,vb,rfl,_,Sj,v_,hvb⟩:=h1;have w_:va=[]:=by cases va with
  |nil=>rfl|cons=>simp at Sj
 subst w_;have hvE:aX x cs vb:=⟨v_,hvb⟩;have hvr:∀m',aJ x.s.nx m m'->aE m' vb=aE m vb:=fun m' ha=>by have h1:=cJ m' ha;have h2:=cJ m (aJ.refl _ _);rw[<-h2]at h1;simp only[aE,ren,tH,List.cons.injEq,Value.func.injEq,Array.mk.injEq,and_true,true_and]at h1;exact h1.2
 obtain⟨_,hK,h0⟩:=h0;obtain⟨l,e',sz,hb,rQ⟩:=(h0 _ hg).2 rfl;cases hb;obtain⟨_,hBk⟩:=hh.ok K _ hg;obtain⟨_,_,hB⟩:=hBk;have Ua:(ds.map encU).flatten≠[]:=fun hn=>by rcases ds with _|⟨a,ds⟩;exact cT rfl;simp only[zQ,List.flatten_cons,List.append_eq_nil_iff]at hn;have:=hk a;rw[hn.1]at this;simp at this;omega
 rcases hB with⟨hn,_⟩|⟨i,l',gX,xM,hE⟩;exact absurd hn Ua;rw[gX]at rQ;simp only[FL]at rQ;rcases rQ with⟨K?,_⟩|rfl;omega;have SE:=eG m (aJ.refl _ _);have HC:=hh.bd i _ xM;obtain⟨pre,rest,nA,mY,gH⟩:=(SE.ok i _ xM:wW m i _ e w (k+2));have tV:=cJ.at;simp only[aE,ren,tH]at tV;subst tV;have G?:m.blk i<w.heap.size:=SE.size xM;have Aw:∀m',aJ x.s.nx m m'->aE m' l'=aE m l':=fun m' ha=>by
  obtain⟨a1,a2,a3⟩:=ha i HC;obtain⟨pre',FC,yX,hpre',_⟩:=((eG m' ha).ok i _ xM:wW m' i _ e w (k+2));rw[a1,nA]at yX;simp only[zA,Obj.cells.injEq,and_true]at yX;have h1:=congrArg Array.toList yX;simp only[zT]at h1;have hl:pre.length=pre'.length:=by omega
  have h2:=List.append_inj_right h1 hl;exact(List.append_inj_left h2 (by simp[lD])).symm
 obtain⟨ps,Sy,Sx⟩:=qtj hk ds l' (fun a h=>h) hE Aw;have kZ:ps.length=ds.length:=by have h:=congrArg List.length Sy;simpa using h
 have V_:ps≠[]:=fun h=>by rw[h]at kZ;exact cT (List.length_eq_zero_iff.1 kZ.symm)
 let p0:El encU k x m ds:=ps.head V_
 letI:Inhabited (El encU k x m ds):=⟨p0⟩
 let enc:El encU k x m ds->Z A:=fun p=>aE m p.sv
 let cg:El encU k x m ds->El encU k x m ds->Int:=fun p q=>(f1 p.a q.a).getD 0
 have uR:∀p,(enc p).length=k:=fun p=>by simp only[enc,lD,yA,p.len]
 have vR:∀p,∀v∈enc p,v.oneCell'=true:=fun p v hv=>by
  simp only[enc,lD,List.mem_map]at hv;obtain⟨v',hv',rfl⟩:=hv;obtain⟨j,hj⟩:=List.getElem?_of_mem hv';have gZ:j<(encU p.a).length:=by rw[p.rel.2];exact(zG.1 hj).1
  obtain⟨v2,h1,h2⟩:=p.rel.get (List.getElem?_eq_getElem gZ);rw[hj]at h1;cases h1;exact z7u ((JQ _).1 (sS p.a) _ (List.getElem_mem gZ)) h2
 have KS:aE m l'=(ps.map enc).flatten:=by rw[<-Sx];exact bz (aJ.refl _ _) ps
 rw[KS]at nA;have Ad:HoldsK enc k w (m.blk i) (m.sh i+0*k) ps.toArray:=qy8 uR CX nA (by omega);have Tj:CmpLays P g (aE m vb).toArray enc k cg (m.blk i) (m.sh i+0*k) ps.toArray.size w:=fun n os dk hdk p q=>by
  obtain⟨z,hz⟩:=hO.some p.a q.a p.mem q.mem;have hcz:cg p q=z:=by simp[cg,hz]
  rw[hcz];have gG:=aV.cmpJ (E? p.a q.a z hz) hh (vs:=.agg ⟨p.sv⟩:: .agg ⟨q.sv⟩::vb) (cargs:=.agg (enc p).toArray :: .agg (enc q).toArray::aE m vb) (m:=m)
   (aX.cons (by simp only[aB];exact⟨_,rfl,p.rel.1,p.rel.2,sS _⟩) (aX.cons (by simp only[aB];exact⟨_,rfl,q.rel.1,q.rel.2,sS _⟩) hvE))
   (fun m' ha=>by simp only[aE,ren,tH,enc,p.ren m' ha,q.ren m' ha,hvr m' ha])
   (w:=sortWorldK enc k w (m.blk i) (m.sh i+0*k) n dk os) (fun m' ha=>by
    have jJ:aJ x.s.nx m m':=ha;have O0:=eG m' jJ;refine⟨fun j b hj=>?_,fun j j' b c hj oS cT ho=>?_,fun j b hj=>?_⟩;rw[WT]at hj;obtain⟨hj,l2,e2,rfl⟩:=Fv hj;refine(O0.ok j _ hj).world ?_;have cT:m'.blk j≠m.blk i:=fun hc=>by
     have kB:i≠j:=fun h=>by subst h;rw[xM]at hj;cases hj
     have:=O0.inj i j _ _ xM hj kB rfl;rw[(jJ i HC).1]at this;exact this hc.symm
    have eA:=O0.size hj;unfold sortWorldK putRowK putRow mapBlock;simp only[Sort.grow];rw[Array.getElem?_append_left (by simpa[Sort.ahead]using eA)];simp only[Array.getElem?_modify,Sort.ahead];rw[if_neg (Ne.symm cT)];rw[WT]at hj;obtain⟨_,l2,e2,rfl⟩:=Fv hj;simp[Rx.Own]at ho;rw[WT]at hj;exact hh.bd j b (Fv hj).1)
  simpa using gG
 have hc:=hs (El encU k x m ds) enc cg uR vR (hO.swo (fun p:El encU k x m ds=>p.a) fun p=>p.mem) (aE m vb).toArray (m.blk i) (m.sh i+0*k) (bU m i (bP+0)) ps.toArray w Tj Ad G? (by simpa[kZ]using aN);simp only[List.size_toArray,kZ]at hc;refine(show Calls P f _ w _ from hc).mono ?_;rintro e1 w' ⟨rfl,d',n,os,AR,NI,rfl⟩;obtain⟨xE,rfl⟩:∃xE:Z (El encU k x m ds),d'=xE.toArray:=⟨d'.toList,by simp⟩;have ZE:xE.length=ps.length:=by have:=AR.1;simpa using this
 have NH:xE.map (fun p=>p.a)=srt (gI f1) ds:=by
  have hp:xE.Perm ps:=by
   have h3:=AR.2.2;have e1:(xE.toArray.extract 0 ds.length).toList=xE:=by simp[<-kZ,<-ZE]
   have e2:(ps.toArray.extract 0 ds.length).toList=ps:=by simp[<-kZ]
   rwa [e1,e2]at h3
  refine qjl hO (fun y hy=>?_) ?_ (ap hO ds fun y hy=>hy) (((hp.map _).trans (List.Perm.of_eq Sy)).trans (M9 _ ds).symm);obtain⟨p,_,rfl⟩:=List.mem_map.1 hy;exact p.mem;unfold Asc;rw[List.pairwise_iff_getElem];intro a b ha hb D5;simp only[yA]at ha hb;have:=NI a b (Nat.zero_le _) D5 (by omega);simpa[ha,hb,cg,ltOf,gI]using this
 have qE:((xE.map enc).flatten).length=((ps.map enc).flatten).length:=by rw[qo uR,qo uR,ZE]
 have j?:((xE.map fun p=>p.sv).flatten).length=l'.length:=by have h1:∀qs:Z (El encU k x m ds),((qs.map fun p=>p.sv).flatten).length=qs.length*k:=fun qs=>qo (enc:=fun p:El encU k x m ds=>p.sv) (fun p=>p.len) qs;rw[h1,ZE,<-h1,Sx]
 have dD:(putRowK enc k (Sort.ahead w n) (m.blk i) (m.sh i+0*k) xE.toArray).heap[m.blk i]? = some (.cells (pre++(xE.map enc).flatten++rest).toArray e (0,0)):=by unfold putRowK putRow mapBlock;rw[qtn uR CX];simp only[Array.getElem?_modify,if_true,Sort.ahead,nA,zM,onCells];rw[show m.sh i+0*k=pre.length by omega,qq9 _ _ _ _ qE]
 have w7:bQ m x.s w m ⟨up x.s.h i (.inl ((xE.map fun p=>p.sv).flatten,e,k+2)),x.s.nx⟩ (putRowK enc k (Sort.ahead w n) (m.blk i) (m.sh i+0*k) xE.toArray):=by refine bQ.write eG xM rfl (fun j hj=>?_) (by simp[putRowK,putRow,mapBlock,Sort.ahead]) rfl rfl rfl (Nat.le_add_right _ _) fun m' ha=>?_;unfold putRowK putRow mapBlock;simp only[Array.getElem?_modify,Sort.ahead];rw[if_neg (Ne.symm hj)];obtain⟨a1,a2,a3⟩:=ha i HC;refine⟨pre,rest,?_,by rw[a2];exact mY,?_⟩;rw[a1,bz ha];exact dD;rw[j?,a3];exact gH
 have iD:=Fg (c:=.inl ((xE.map fun p=>p.sv).flatten,e,k+2)) (bK:=.vec (((srt (gI f1) ds).map encU).flatten) e k st) hh hg gX xM rfl (by rintro l e sz st h;cases h;exact⟨_,rfl⟩) fun y h1 h2 hm=>⟨qua sS _,CX,.inr ⟨i,_,h1,h2,by rw[<-NH];exact hm.ke.E (ce xE).bel (ce xE)⟩⟩;refine⟨_,m,.tup [],.tuple #[],.tuple #[],rfl,⟨rfl,rfl⟩,w7.trans (z1k w7.fits os),fun m' _=>by simp[ren,tH,aE],iD.h,iD.fr F fP,by simp[aB,c8],iD.mo.ke,zF _⟩
def ik{v10:Type}{eq:v10->v10->BQ}{f:v10->v10->I Int}{ds ys:Z v10}(h:Xk eq f ds=some ys):ds.length<=1000000/\WG eq f ds=true/\ys=srt (gI f) ds:=by unfold Xk at h;rcases hc:(Nat.ble ds.length 1000000&&WG eq f ds)with _|_;rw[hc]at h;cases h;rw[hc]at h;rw[Bool.and_eq_true,Nat.ble_eq]at hc;exact⟨hc.1,hc.2,(Option.some.inj h).symm⟩
end Go.Vx
