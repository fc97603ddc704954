import Derived.Shelf.GgSortFunc.RowK
import Derived.Shelf.SlSortCmp.WholeK
import Derived.Test.YtmflfedkfdkipaaGreatP14
set_option linter.all false
namespace Go.Vx
open Go Go.Rx Go.Proofs Go.Sort
theorem bo{m:Nm}{s:S}{w:World}(h:dS m s w)(os:Array Obj):bA m s w m s (grow w os):=by
 have hold:∀b,b<w.heap.size->(grow w os).heap[b]? = w.heap[b]?:=fun b hb=>by simp only[Sort.grow];rw[Array.getElem?_append_left hb]
 refine⟨aG.refl _ _,zF _,fun m' ha=>?_,fun _ h=>.inl h,fun b hb _=>hold b hb,by simp[Sort.grow],rfl,rfl,rfl⟩;have hf:=h m' ha;exact⟨fun i b hb=>(hf.ok i b hb).world (hold _ (hf.size hb)),hf.inj,hf.bd⟩
section
variable{α:Type}[Inhabited α]{enc:α->List Value}{k:Nat}(hk:∀x,(enc x).length=k)(u9:0<k)
include hk u9
theorem qd:∀(ds:List α)(t:Nat),t<ds.length*k->((ds.map enc).flatten)[t]? = some ((enc ds.toArray[t/k]!)[t%k]!)
 |[],t,h=>by simp at h
 |x::ds,t,h=>by
  simp only[zQ,List.flatten_cons];have hx:=hk x;rcases Nat.lt_or_ge t k with hlt |hge;rw[List.getElem?_append_left (by omega),Nat.div_eq_of_lt hlt,Nat.mod_eq_of_lt hlt];simp[hx,hlt];rw[List.getElem?_append_right (by omega),hx,qd ds (t-k) (by simp only[zO,Nat.succ_mul]at h;omega)];have e1:t/k=(t-k)/k+1:=by have:=Nat.sub_mul_div t k 1;rw[Nat.mul_one]at this;have h1:1<=t/k:=(Nat.one_le_div_iff u9).2 hge;omega
  have e2:t%k=(t-k)%k:=by rw[Nat.mod_eq_sub_mod hge]
  rw[e1,e2];simp
omit [Inhabited α] u9 in
theorem Em(ds:List α):((ds.map enc).flatten).length=ds.length*k:=by
 induction ds with|nil=>simp|cons x ds ih=>simp only[zQ,List.flatten_cons,zU,hk,ih,zO,Nat.succ_mul];omega
theorem qe(ds:List α):flatK enc k ds.toArray=((ds.map enc).flatten).toArray:=by
 apply Array.ext_getElem?;intro t;by_cases ht:t<ds.length*k;have e0:(((ds.map enc).flatten).toArray)[t]? = some ((enc ds.toArray[t/k]!)[t%k]!):=by rw[List.getElem?_toArray];exact qd hk u9 ds t ht
 rw[e0];have hs:t<(flatK enc k ds.toArray).size:=by simpa using ht
 rw[Array.getElem?_eq_getElem hs];have:=get_flatK enc k ds.toArray t (by simpa using ht);rw[getElem!_pos _ t hs]at this;rw[this];have e0:(((ds.map enc).flatten).toArray)[t]? = none:=by rw[List.getElem?_toArray];exact List.getElem?_eq_none (by rw[Em hk];omega)
 rw[e0];exact Array.getElem?_eq_none (by simpa using Nat.le_of_not_lt ht)
end
theorem Zo{α:Type}{encU:α->List U}(h:∀x,okL (encU x)=true):∀ds:List α,okL ((ds.map encU).flatten)=true
 |[]=>rfl|x::ds=>by simp only[zQ,List.flatten_cons];exact DC (h x) (Zo h ds)
theorem fb(pre fl fl' rest:List Value)(hl:fl'.length=fl.length):putCells id pre.length fl'.toArray (pre++fl++rest).toArray=(pre++fl'++rest).toArray:=by
 apply Array.ext_getElem?;intro t;simp only[putCells,Array.getElem?_mapIdx,List.getElem?_toArray,List.size_toArray,id];rcases Nat.lt_or_ge t pre.length with h1 |h1;rw[zT,zT,List.getElem?_append_left h1,List.getElem?_append_left h1];simp[h1,show ¬ pre.length<=t by omega];rcases Nat.lt_or_ge t (pre.length+fl.length)with h2 |h2;have e1:(pre++fl++rest)[t]? = some (fl[t-pre.length]'(by omega)):=by rw[zT,List.getElem?_append_right h1,List.getElem?_append_left (by omega)];exact List.getElem?_eq_getElem (by omega)
 have e2:(pre++fl'++rest)[t]? = some (fl'[t-pre.length]'(by omega)):=by rw[zT,List.getElem?_append_right h1,List.getElem?_append_left (by omega)];exact List.getElem?_eq_getElem (by omega)
 rw[e1,e2];simp only[zM];rw[if_pos ⟨h1,by omega⟩];rw[getElem!_pos _ _ (by simp;omega)];simp;have e1:(pre++fl++rest)[t]? = rest[t-pre.length-fl.length]?:=by rw[zT,List.getElem?_append_right h1,List.getElem?_append_right (by omega)]
 have e2:(pre++fl'++rest)[t]? = rest[t-pre.length-fl.length]?:=by rw[zT,List.getElem?_append_right h1,List.getElem?_append_right (by omega),hl]
 rw[e1,e2];rcases rest[t-pre.length-fl.length]? with _|v;rfl;simp only[zM];rw[if_neg (by omega)]
theorem aO.of_same{P:Program}{f:FuncId}{us:List U}{vs:List Value}{u:U}{cv:Value}(hv:j0 us=some vs)(hr:∀m,aD m vs=vs)(hu:toV u=some cv)(hru:∀m,ren m cv=cv)(h:∀w,Calls P f vs.toArray w fun e w'=>e=.returned cv/\w'=w)(σ:Sg):aO P f us σ (fun u' σ'=>u'=u/\σ'=σ):=fun F x ws m w cargs hx hh hfr he hfit hargs=>by
 have:=(QK us vs hv x ws).1 he;subst this;have hca:cargs=ws:=by rw[<-hargs.at,hr]
 subst hca;refine(h w).mono ?_;rintro e w' ⟨rfl,rfl⟩;exact⟨x,m,u,cv,cv,rfl,⟨rfl,hx⟩,bA.refl hfit,fun m' _=>hru m',hh,hfr,(oN u cv hu x cv).2 rfl,Ke.refl _ _,zF _⟩
def AV{α:Type}(lt:α->α->Bool)(x:α):List α->List α
 |[]=>[x]|y::l=>cond (lt y x) (y::AV lt x l) (x::y::l)
def srt{α:Type}(lt:α->α->Bool):List α->List α
 |[]=>[]|x::l=>AV lt x (srt lt l)
theorem Ej{α:Type}(lt:α->α->Bool)(x:α):∀l,(AV lt x l).Perm (x::l)
 |[]=>.refl _|y::l=>by simp only[AV];rcases lt y x with _|_;exact .refl _;exact((Ej lt x l).cons y).trans (.swap _ _ _)
theorem QM{α:Type}(lt:α->α->Bool):∀l,(srt lt l).Perm l
 |[]=>.refl _|x::l=>(Ej lt x _).trans ((QM lt l).cons x)
def Asc{α:Type}(lt:α->α->Bool)(l:List α):Prop:=l.Pairwise (fun x y=>lt y x=false)
theorem Zz{α:Type}{lt:α->α->Bool}(h:SWO lt)(x:α):∀{l},Asc lt l->Asc lt (AV lt x l)
 |[],_=>by simp[AV,Asc]
 |y::l,ha=>by
  simp only[AV];unfold Asc at ha ⊢;rw[List.pairwise_cons]at ha;cases hy:lt y x with
  |true=>simp only[zC];rw[List.pairwise_cons];refine⟨fun z hz=>?_,Zz h x ha.2⟩;have:=(Ej lt x l).mem_iff.1 hz;rcases zI.1 this with rfl |hz;rcases hzy:lt z y with _|_;rfl;have:=h.trans y z y hy hzy;rw[h.irrefl]at this;cases this;exact ha.1 z hz
  |false=>simp only[zD];rw[List.pairwise_cons];refine⟨fun z hz=>?_,List.pairwise_cons.2 ha⟩;rcases zI.1 hz with rfl |hz;exact hy;exact h.ntrans z y x (ha.1 z hz) hy
theorem Ww{α:Type}{lt:α->α->Bool}(h:SWO lt):∀l,Asc lt (srt lt l)
 |[]=>by simp[srt,Asc]
 |x::l=>Zz h x (Ww h l)
end Go.Vx
namespace Go.Vx
open Go Go.Rx Go.Proofs Go.Sort Go.Shelf
theorem Dj{m:Nm}{v:Value}(h:v.oneCell'=true):(ren m v).oneCell'=true:=by
 cases v with
 |agg _=>simp[Value.oneCell']at h|tuple _=>simp[Value.oneCell']at h
 |pointer o=>cases o<;>rfl|slice o _ _=>cases o<;>rfl
 |map o=>cases o<;>rfl|chan o=>cases o<;>rfl
 |_=>rfl
theorem lg{x:Cx}{m:Nm}:∀{u:U}{v:Value},okC u=true->aA x u v->(ren m v).oneCell'=true
 |.junk,v,h,_=>by simp[okC]at h
 |.agg _,v,h,_=>by simp[okC]at h
 |.tup _,v,h,_=>by simp[okC]at h
 |.bool _,v,_,h=>by simp only[aA]at h;subst h;rfl
 |.int _ _,v,_,h=>by simp only[aA]at h;subst h;rfl
 |.str _,v,_,h=>by simp only[aA]at h;subst h;rfl
 |.nilp,v,_,h=>by simp only[aA]at h;subst h;rfl
 |.nils,v,_,h=>by simp only[aA]at h;subst h;rfl
 |.nilm,v,_,h=>by simp only[aA]at h;subst h;rfl
 |.nilf,v,_,h=>by simp only[aA]at h;subst h;rfl
 |.nili,v,_,h=>by simp only[aA]at h;subst h;rfl
 |.ptr _ _ _,v,_,h=>by simp only[aA]at h;exact Dj h.1
 |.sl _ _ _ _,v,_,h=>by simp only[aA]at h;exact Dj h.1
 |.vl _ _ _ _,v,_,h=>by simp only[aA]at h;exact Dj h.1
 |.map _,v,_,h=>by simp only[aA]at h;exact Dj h.1
 |.iptr _,v,_,h=>by simp only[aA]at h;obtain⟨i,off,row,e,rfl,_⟩:=h;rfl
 |.isl _ _,v,_,h=>by simp only[aA]at h;rcases h with⟨_,rfl |⟨r,rfl⟩⟩|⟨i,off,c,rfl,_⟩<;>rfl
 |.fn _ _ _,v,_,h=>by simp only[aA]at h;obtain⟨va,vb,rfl,_⟩:=h;rfl
section
variable{A:Type}{encU:A->List U}{k:Nat}{x:Cx}{m:Nm}
structure El(encU:A->List U)(k:Nat)(x:Cx)(m:Nm)(ds:List A) where
 a:A
 sv:List Value
 mem:a∈ds
 len:sv.length=k
 rel:aQ x (encU a) sv
 ren:∀m',aG x.s.nx m m'->aD m' sv=aD m sv
theorem qf(hk:∀a,(encU a).length=k){ds:List A}:∀(SJ:List A)(l0:List Value),(∀a∈SJ,a∈ds)->aQ x (SJ.map encU).flatten l0->(∀m',aG x.s.nx m m'->aD m' l0=aD m l0)->
  ∃ps:List (El encU k x m ds),ps.map (fun p=>p.a)=SJ/\(ps.map (fun p=>p.sv)).flatten=l0
 |[],l0,_,h,_=>by have:=h.nil_inv;subst this;exact⟨[],rfl,rfl⟩
 |a::SJ,l0,hm,h,hr=>by
  simp only[zQ,List.flatten_cons]at h;have ht:=h.take k;have hd:=h.drop k;rw[List.take_left' (hk a)]at ht;rw[List.drop_left' (hk a)]at hd;have hr':∀m',aG x.s.nx m m'->aD m' (l0.take k)=aD m (l0.take k)/\aD m' (l0.drop k)=aD m (l0.drop k):=fun m' ha=>by have:=hr m' ha;simp only[hX,List.map_take,List.map_drop]at this ⊢;rw[this];exact⟨rfl,rfl⟩
  obtain⟨ps,h1,h2⟩:=qf hk SJ (l0.drop k) (fun b hb=>hm b (by simp[hb])) hd fun m' ha=>(hr' m' ha).2;have hlen:(l0.take k).length=k:=by rw[<-ht.2,hk]
  exact⟨⟨a,l0.take k,hm a (by simp),hlen,ht,fun m' ha=>(hr' m' ha).1⟩::ps,by simp[h1],by simp[h2]⟩
theorem Mn{ds:List A}:∀ps:List (El encU k x m ds),aQ x ((ps.map (fun p=>p.a)).map encU).flatten (ps.map (fun p=>p.sv)).flatten
 |[]=>aQ.nil x|p::ps=>by simp only[zQ,List.flatten_cons];exact p.rel.append (Mn ps)
theorem Mm{ds:List A}{m':Nm}(ha:aG x.s.nx m m'):∀ps:List (El encU k x m ds),aD m' (ps.map (fun p=>p.sv)).flatten=(ps.map (fun p=>aD m p.sv)).flatten
 |[]=>by simp[aD]
 |p::ps=>by have h1:=Mm ha ps;have h2:=p.ren m' ha;simp only[hX,zQ,List.flatten_cons,List.map_append]at h1 h2 ⊢;rw[h1,h2]
end
def OY(P:Program)(g:FuncId)(args:List U)(z:Int):Prop:=∀(vs cargs:List Value)(x:Cx),eQ x->aQ x args vs->∀m:Nm,j5 m x.s.nx vs cargs->∀w:World,dS m (B4 x.s) w->
  Calls P g cargs.toArray w fun e w'=>e=.returned (.int .i64 z)/\∃q os,w'=grow (w.drewN q) os
theorem tf{α:Type}[Inhabited α]{enc:α->List Value}{k:Nat}(hk:∀x,(enc x).length=k)(u9:0<k){w:World}{b off:Nat}{pre rest:List Value}{e:TypeId}{ps:List α}(hheap:w.heap[b]? = some (.cells (pre++(ps.map enc).flatten++rest).toArray e (0,0)))(hpre:pre.length=off):HoldsK enc k w b off ps.toArray:=by
 unfold HoldsK Holds;rw[qe hk u9];intro j hj;simp only[List.size_toArray]at hj;refine⟨?_,?_⟩;simp only[World.cell?,hheap];simp only[Option.isSome_none,Bool.false_eq_true,if_false,List.getElem?_toArray,id];rw[zT,List.getElem?_append_right (by omega),List.getElem?_append_left (by omega)];rw[show off+j-pre.length=j by omega,List.getElem?_eq_getElem hj,getElem!_pos _ _ (by simpa using hj)];simp;simp[World.frozen?,hheap]
def eL{A:Type}(f:A->A->Option Int)(x y:A):Bool:=decide ((f x y).getD 0<0)
def UH{A:Type}(eq:A->A->Bool)(f:A->A->Option Int)(ds:List A):Bool :=
 ds.all fun x=>!(eL f x x)&&ds.all fun y=>(f x y).isSome&&((eL f x y||(eL f y x||eq x y))&&ds.all fun z=>(!(eL f x y&&eL f y z)||eL f x z)&&(eL f x y||(eL f y z || !(eL f x z))))
def Kc{A:Type}(eq:A->A->Bool)(f:A->A->Option Int)(ds:List A):Option (List A):=cond (Nat.ble ds.length 1000000&&UH eq f ds) (some (srt (eL f) ds)) none
structure OX{A:Type}(f:A->A->Option Int)(S:A->Prop):Prop where
 irrefl:∀x,S x->eL f x x=false
 some:∀x y,S x->S y->∃z,f x y=some z
 anti:∀x y,S x->S y->eL f x y=false->eL f y x=false->x=y
 trans:∀x y z,S x->S y->S z->eL f x y=true->eL f y z=true->eL f x z=true
 ntrans:∀x y z,S x->S y->S z->eL f x y=false->eL f y z=false->eL f x z=false
variable{A:Type}
theorem S'{eq:A->A->Bool}(heq:∀x y,eq x y=true->x=y){f:A->A->Option Int}{ds:List A}(h:UH eq f ds=true):OX f (· ∈ds):=by
 unfold UH at h;rw[List.all_eq_true]at h;have h1:∀x∈ds,eL f x x=false/\∀y∈ds,(f x y).isSome=true/\(eL f x y||(eL f y x||eq x y))=true/\∀z∈ds,(!(eL f x y&&eL f y z)||eL f x z)=true/\(eL f x y||(eL f y z || !(eL f x z)))=true:=fun x hx=>by have a:=h x hx;rw[Bool.and_eq_true,Bool.not_eq_true',List.all_eq_true]at a;refine⟨a.1,fun y hy=>?_⟩;have b:=a.2 y hy;rw[Bool.and_eq_true,Bool.and_eq_true,List.all_eq_true]at b;refine⟨b.1,b.2.1,fun z hz=>?_⟩;have c:=b.2.2 z hz;rw[Bool.and_eq_true]at c;exact c
 refine⟨fun x hx=>(h1 x hx).1,fun x y hx hy=>Option.isSome_iff_exists.1 ((h1 x hx).2 y hy).1,fun x y hx hy a b=>?_,fun x y z hx hy hz a b=>?_,fun x y z hx hy hz a b=>?_⟩;have:=((h1 x hx).2 y hy).2.1;rw[a,b]at this;exact heq x y (by simpa using this);have:=(((h1 x hx).2 y hy).2.2 z hz).1;rw[a,b]at this;simpa using this;have:=(((h1 x hx).2 y hy).2.2 z hz).2;rw[a,b]at this;simpa using this
theorem zn{A:Type}{f:A->A->Option Int}{S:A->Prop}(h:OX f S)(x:A)(hx:S x):∀{l},(∀y∈l,S y)->Asc (eL f) l->Asc (eL f) (AV (eL f) x l)
 |[],_,_=>by simp[AV,Asc]
 |y::l,hS,ha=>by
  have hyS:=hS y (by simp);have hlS:∀z∈l,S z:=fun z hz=>hS z (by simp[hz]);simp only[AV];unfold Asc at ha ⊢;rw[List.pairwise_cons]at ha;cases hy:eL f y x with
  |true=>simp only[zC];rw[List.pairwise_cons];refine⟨fun z hz=>?_,zn h x hx hlS ha.2⟩;have:=(Ej (eL f) x l).mem_iff.1 hz;rcases zI.1 this with rfl |hz;rcases hzy:eL f z y with _|_;rfl;have:=h.trans y z y hyS hx hyS hy hzy;rw[h.irrefl y hyS]at this;cases this;exact ha.1 z hz
  |false=>simp only[zD];rw[List.pairwise_cons];refine⟨fun z hz=>?_,List.pairwise_cons.2 ha⟩;rcases zI.1 hz with rfl |hz;exact hy;exact h.ntrans z y x (hlS z hz) hyS hx (ha.1 z hz) hy
theorem Ys{A:Type}{f:A->A->Option Int}{S:A->Prop}(h:OX f S):∀l,(∀y∈l,S y)->Asc (eL f) (srt (eL f) l)
 |[],_=>by simp[srt,Asc]
 |x::l,hS=>zn h x (hS x (by simp)) (fun y hy=>hS y (by simp[(QM (eL f) l).mem_iff.1 hy])) (Ys h l fun y hy=>hS y (by simp[hy]))
theorem xu{A:Type}{f:A->A->Option Int}{S:A->Prop}(h:OX f S):∀{a b:List A},(∀y∈a,S y)->Asc (eL f) a->Asc (eL f) b->a.Perm b->a=b
 |[],b,_,_,_,hp=>by rw[hp.nil_eq]
 |x::a,[],_,_,_,hp=>by have:=hp.length_eq;simp at this
 |x::a,y::b,hS,ha,hb,hp=>by
  unfold Asc at ha hb;rw[List.pairwise_cons]at ha hb;have hxy:x=y:=by have h1:x∈y::b:=hp.mem_iff.1 (by simp);have h2:y∈x::a:=hp.mem_iff.2 (by simp);rcases zI.1 h1 with h1 |h1;exact h1;rcases zI.1 h2 with h2 |h2;exact h2.symm;exact h.anti x y (hS x (by simp)) (hS y (by simp[h2])) (hb.1 x h1) (ha.1 y h2)
  subst hxy;rw[xu h (fun z hz=>hS z (by simp[hz])) ha.2 hb.2 (List.Perm.cons_inv hp)]
theorem OX.swo{f:A->A->Option Int}{S:A->Prop}(h:OX f S){B:Type}(e:B->A)(he:∀b,S (e b)):SWO (ltOf fun p q:B=>(f (e p) (e q)).getD 0):=
 ⟨fun x=>h.irrefl _ (he x),fun x y z=>h.trans _ _ _ (he x) (he y) (he z),fun x y z=>h.ntrans _ _ _ (he x) (he y) (he z)⟩
def Wn(P:Program)(f g:FuncId)(k:Nat):Prop:=∀(α:Type)[Inhabited α](enc:α->List Value)(cf:α->α->Int),(∀x,(enc x).length=k)->(∀x,∀v∈enc x,v.oneCell'=true)->SWO (ltOf cf)->
 ∀(cb:Array Value)(blk off cap:Nat)(d:Array α)(w:World),CmpLays P g cb enc k cf blk off d.size w->HoldsK enc k w blk off d->blk<w.heap.size->d.size<4611686018427387904->
  Calls P f #[.slice (some ⟨blk,off,none⟩) d.size cap,.func (.func g) #[] cb] w fun e w'=>e=.returned (.tuple #[])/\∃d' n os,PermIn 0 d.size d d'/\SortedIn (ltOf cf) 0 d.size d'/\w'=sortWorldK enc k w blk off n d' os
theorem aO.cmpJ{P:Program}{g:FuncId}{args:List U}{vs cargs:List Value}{z:Int}(h:OY P g args z){x:Cx}(hh:eQ x)(he:aQ x args vs){m:Nm}(hargs:j5 m x.s.nx vs cargs){w:World}(hf:dS m (B4 x.s) w):
  Calls P g cargs.toArray w fun e w'=>e=.returned (.int .i64 z)/\∃q os,w'=grow (w.drewN q) os:=h vs cargs x hh he m hargs w hf
theorem aO.sortC0{P:Program}{f g:FuncId}{encU:A->List U}{k:Nat}(hk:∀a,(encU a).length=k)(u9:0<k)(hok:∀a,okL (encU a)=true){cs:List U}{f1:A->A->Option Int}(hs:Wn P f g k)
  (ds:List A) (hO:OX f1 (· ∈ds)) (hcmp:∀a b r,f1 a b=some r->OY P g (.agg (encU a):: .agg (encU b)::cs) r)
  {σ:Sg} {K st:Nat} {e:TypeId} (hne:ds≠[]) (hlen:ds.length<4611686018427387904) (hg:gt σ.h K=some (.vec ((ds.map encU).flatten) e k st)):
  aO P f [.vl K st 0 ds.length,.fn (.func g) [] cs] σ (fun u σ'=>u=.tup []/\σ'=⟨ug σ.h K (.vec (((srt (eL f1) ds).map encU).flatten) e k st),σ.nx⟩):=fun F x vs m w cargs hx hh hfr he hfit hargs=>by
 subst hx;obtain⟨v0,SR,rfl,h0,he⟩:=he.inv;obtain⟨v1,Kz,rfl,h1,he⟩:=he.inv;have:=he.nil_inv;subst this;simp only[aA]at h0 h1;obtain⟨va,vb,rfl,_,hva,hvbP,hvb⟩:=h1;have hva':va=[]:=by cases va with
  |nil=>rfl|cons=>simp at hva
 subst hva';have hvE:aQ x cs vb:=⟨hvbP,hvb⟩;have hvr:∀m',aG x.s.nx m m'->aD m' vb=aD m vb:=fun m' ha=>by have h1:=hargs m' ha;have h2:=hargs m (aG.refl _ _);rw[<-h2]at h1;simp only[aD,ren,nH,List.cons.injEq,Value.func.injEq,Array.mk.injEq,and_true,true_and]at h1;exact h1.2
 obtain⟨_,hK,h0⟩:=h0;obtain⟨l,e',sz,hb,hvl⟩:=(h0 _ hg).2 rfl;cases hb;obtain⟨_,hBk⟩:=hh.ok K _ hg;obtain⟨_,_,hB⟩:=hBk;have hflat:(ds.map encU).flatten≠[]:=fun hn=>by rcases ds with _|⟨a,ds⟩;exact hne rfl;simp only[zQ,List.flatten_cons,List.append_eq_nil_iff]at hn;have:=hk a;rw[hn.1]at this;simp at this;omega
 rcases hB with⟨hn,_⟩|⟨i,l',hρ,hlk,hE⟩;exact absurd hn hflat;rw[hρ]at hvl;simp only[wD]at hvl;rcases hvl with⟨hbad,_⟩|rfl;omega;have hfit0:=hfit m (aG.refl _ _);have hinx:=hh.bd i _ hlk;obtain⟨pre,rest,hheap,hpre,hcap⟩:=(hfit0.ok i _ hlk:pN m i _ e w (k+2));have hcargs:=hargs.at;simp only[aD,ren,nH]at hcargs;subst hcargs;have hblk:m.blk i<w.heap.size:=hfit0.size hlk;have hag:∀m',aG x.s.nx m m'->aD m' l'=aD m l':=fun m' ha=>by
  obtain⟨a1,a2,a3⟩:=ha i hinx;obtain⟨pre',rest',hheap',hpre',_⟩:=((hfit m' ha).ok i _ hlk:pN m' i _ e w (k+2));rw[a1,hheap]at hheap';simp only[zA,Obj.cells.injEq,and_true]at hheap';have h1:=congrArg Array.toList hheap';simp only[zT]at h1;have hl:pre.length=pre'.length:=by omega
  have h2:=List.append_inj_right h1 hl;exact(List.append_inj_left h2 (by simp[hX])).symm
 obtain⟨ps,Z6,Z5⟩:=qf hk ds l' (fun a h=>h) hE hag;have hpl:ps.length=ds.length:=by have h:=congrArg List.length Z6;simpa using h
 have hpne:ps≠[]:=fun h=>by rw[h]at hpl;exact hne (List.length_eq_zero_iff.1 hpl.symm)
 let p0:El encU k x m ds:=ps.head hpne
 letI:Inhabited (El encU k x m ds):=⟨p0⟩
 let enc:El encU k x m ds->List Value:=fun p=>aD m p.sv
 let cg:El encU k x m ds->El encU k x m ds->Int:=fun p q=>(f1 p.a q.a).getD 0
 have hek:∀p,(enc p).length=k:=fun p=>by simp only[enc,hX,yA,p.len]
 have hone:∀p,∀v∈enc p,v.oneCell'=true:=fun p v hv=>by
  simp only[enc,hX,List.mem_map]at hv;obtain⟨v',hv',rfl⟩:=hv;obtain⟨j,hj⟩:=List.getElem?_of_mem hv';have hjl:j<(encU p.a).length:=by rw[p.rel.2];exact(zG.1 hj).1
  obtain⟨v2,h1,h2⟩:=p.rel.get (List.getElem?_eq_getElem hjl);rw[hj]at h1;cases h1;exact lg ((BC _).1 (hok p.a) _ (List.getElem_mem hjl)) h2
 have hrl:aD m l'=(ps.map enc).flatten:=by rw[<-Z5];exact Mm (aG.refl _ _) ps
 rw[hrl]at hheap;have hholds:HoldsK enc k w (m.blk i) (m.sh i+0*k) ps.toArray:=tf hek u9 hheap (by omega);have hlays:CmpLays P g (aD m vb).toArray enc k cg (m.blk i) (m.sh i+0*k) ps.toArray.size w:=fun n os dk hdk p q=>by
  obtain⟨z,hz⟩:=hO.some p.a q.a p.mem q.mem;have hcz:cg p q=z:=by simp[cg,hz]
  rw[hcz];have hin:=aO.cmpJ (hcmp p.a q.a z hz) hh (vs:=.agg ⟨p.sv⟩:: .agg ⟨q.sv⟩::vb) (cargs:=.agg (enc p).toArray :: .agg (enc q).toArray::aD m vb) (m:=m)
   (aQ.cons (by simp only[aA];exact⟨_,rfl,p.rel.1,p.rel.2,hok _⟩) (aQ.cons (by simp only[aA];exact⟨_,rfl,q.rel.1,q.rel.2,hok _⟩) hvE))
   (fun m' ha=>by simp only[aD,ren,nH,enc,p.ren m' ha,q.ren m' ha,hvr m' ha])
   (w:=sortWorldK enc k w (m.blk i) (m.sh i+0*k) n dk os) (fun m' ha=>by
    have ha':aG x.s.nx m m':=ha;have hf':=hfit m' ha';refine⟨fun j b hj=>?_,fun j j' b c hj hj' hne ho=>?_,fun j b hj=>?_⟩;rw[KT]at hj;obtain⟨hj,l2,e2,rfl⟩:=QY hj;refine(hf'.ok j _ hj).world ?_;have hne:m'.blk j≠m.blk i:=fun hc=>by
     have hij:i≠j:=fun h=>by subst h;rw[hlk]at hj;cases hj
     have:=hf'.inj i j _ _ hlk hj hij rfl;rw[(ha' i hinx).1]at this;exact this hc.symm
    have hsz:=hf'.size hj;unfold sortWorldK putRowK putRow mapBlock;simp only[Sort.grow];rw[Array.getElem?_append_left (by simpa[Sort.ahead]using hsz)];simp only[Array.getElem?_modify,Sort.ahead];rw[if_neg (Ne.symm hne)];rw[KT]at hj;obtain⟨_,l2,e2,rfl⟩:=QY hj;simp[Rx.Own]at ho;rw[KT]at hj;exact hh.bd j b (QY hj).1)
  simpa using hin
 have hc:=hs (El encU k x m ds) enc cg hek hone (hO.swo (fun p:El encU k x m ds=>p.a) fun p=>p.mem) (aD m vb).toArray (m.blk i) (m.sh i+0*k) (bF m i (b7+0)) ps.toArray w hlays hholds hblk (by simpa[hpl]using hlen);simp only[List.size_toArray,hpl]at hc;refine(show Calls P f _ w _ from hc).mono ?_;rintro e1 w' ⟨rfl,d',n,os,hperm,hsorted,rfl⟩;obtain⟨ps',rfl⟩:∃ps':List (El encU k x m ds),d'=ps'.toArray:=⟨d'.toList,by simp⟩;have hsz':ps'.length=ps.length:=by have:=hperm.1;simpa using this
 have hsrt:ps'.map (fun p=>p.a)=srt (eL f1) ds:=by
  have hp:ps'.Perm ps:=by
   have h3:=hperm.2.2;have e1:(ps'.toArray.extract 0 ds.length).toList=ps':=by simp[<-hpl,<-hsz']
   have e2:(ps.toArray.extract 0 ds.length).toList=ps:=by simp[<-hpl]
   rwa [e1,e2]at h3
  refine xu hO (fun y hy=>?_) ?_ (Ys hO ds fun y hy=>hy) (((hp.map _).trans (List.Perm.of_eq Z6)).trans (QM _ ds).symm);obtain⟨p,_,rfl⟩:=List.mem_map.1 hy;exact p.mem;unfold Asc;rw[List.pairwise_iff_getElem];intro a b ha hb hab;simp only[yA]at ha hb;have:=hsorted a b (Nat.zero_le _) hab (by omega);simpa[ha,hb,cg,ltOf,eL]using this
 have hll:((ps'.map enc).flatten).length=((ps.map enc).flatten).length:=by rw[Em hek,Em hek,hsz']
 have Sy:((ps'.map fun p=>p.sv).flatten).length=l'.length:=by have h1:∀qs:List (El encU k x m ds),((qs.map fun p=>p.sv).flatten).length=qs.length*k:=fun qs=>Em (enc:=fun p:El encU k x m ds=>p.sv) (fun p=>p.len) qs;rw[h1,hsz',<-h1,Z5]
 have hrow:(putRowK enc k (Sort.ahead w n) (m.blk i) (m.sh i+0*k) ps'.toArray).heap[m.blk i]? = some (.cells (pre++(ps'.map enc).flatten++rest).toArray e (0,0)):=by unfold putRowK putRow mapBlock;rw[qe hek u9];simp only[Array.getElem?_modify,if_true,Sort.ahead,hheap,zM,onCells];rw[show m.sh i+0*k=pre.length by omega,fb _ _ _ _ hll]
 have hadv1:bA m x.s w m ⟨up x.s.h i (.inl ((ps'.map fun p=>p.sv).flatten,e,k+2)),x.s.nx⟩ (putRowK enc k (Sort.ahead w n) (m.blk i) (m.sh i+0*k) ps'.toArray):=by refine bA.write hfit hlk rfl (fun j hj=>?_) (by simp[putRowK,putRow,mapBlock,Sort.ahead]) rfl rfl rfl (Nat.le_add_right _ _) fun m' ha=>?_;unfold putRowK putRow mapBlock;simp only[Array.getElem?_modify,Sort.ahead];rw[if_neg (Ne.symm hj)];obtain⟨a1,a2,a3⟩:=ha i hinx;refine⟨pre,rest,?_,by rw[a2];exact hpre,?_⟩;rw[a1,Mm ha];exact hrow;rw[Sy,a3];exact hcap
 have hout:=QL (c:=.inl ((ps'.map fun p=>p.sv).flatten,e,k+2)) (bK:=.vec (((srt (eL f1) ds).map encU).flatten) e k st) hh hg hρ hlk rfl (by rintro l e sz st h;cases h;exact⟨_,rfl⟩) fun y h1 h2 hm=>⟨Zo hok _,u9,.inr ⟨i,_,h1,h2,by rw[<-hsrt];exact hm.ke.E (Mn ps').bel (Mn ps')⟩⟩;refine⟨_,m,.tup [],.tuple #[],.tuple #[],rfl,⟨rfl,rfl⟩,hadv1.trans (bo hadv1.fits os),fun m' _=>by simp[ren,nH,aD],hout.h,hout.fr F hfr,by simp[aA,bN],hout.mo.ke,zF _⟩
theorem Qa{A:Type}{eq:A->A->Bool}{f:A->A->Option Int}{ds ys:List A}(h:Kc eq f ds=some ys):ds.length<=1000000/\UH eq f ds=true/\ys=srt (eL f) ds:=by
 unfold Kc at h;rcases hc:(Nat.ble ds.length 1000000&&UH eq f ds)with _|_;rw[hc]at h;cases h;rw[hc]at h;rw[Bool.and_eq_true,Nat.ble_eq]at hc;exact⟨hc.1,hc.2,(Option.some.inj h).symm⟩
end Go.Vx
