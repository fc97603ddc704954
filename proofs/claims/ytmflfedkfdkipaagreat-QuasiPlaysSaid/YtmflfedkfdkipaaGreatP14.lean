import Derived.Shelf.GgSortFunc.RowK
import Derived.Shelf.SlSortCmp.WholeK
import Derived.Test.YtmflfedkfdkipaaGreatP13
set_option linter.all false
namespace Go.Vx
open Go Go.Rx Go.Proofs Go.Sort
def z3w{m:Nm}{s:S}{w:Nr}(h:gD m s w)(os:Zu Obj):bT m s w m s (grow w os):=by
 have oR:∀b,b<w.heap.size->(grow w os).heap[b]? = w.heap[b]?:=fun b hb=>by simp only[Sort.grow];rw[Array.getElem?_append_left hb]
 refine⟨aN.refl _ _,zF _,fun m' ha=>?_,fun _ h=>.inl h,fun b hb _=>oR b hb,by simp[Sort.grow],rfl,rfl,rfl⟩;have hf:=h m' ha;exact⟨fun i b hb=>(hf.ok i b hb).world (oR _ (hf.size hb)),hf.inj,hf.bd⟩
section
variable{v12:Type}[Inhabited v12]{enc:v12->X Value}{k:Nat}(hk:∀x,(enc x).length=k)(FT:0<k)
include hk FT
def qv1:∀(ds:X v12)(t:Nat),t<ds.length*k->((ds.map enc).flatten)[t]? = some ((enc ds.toArray[t/k]!)[t%k]!)
 |[],t,h=>by simp at h
 |x::ds,t,h=>by
  simp only[zQ,List.flatten_cons];have hx:=hk x;rcases Nat.lt_or_ge t k with aE |IK;rw[List.getElem?_append_left qq0,Nat.div_eq_of_lt aE,Nat.mod_eq_of_lt aE];simp[hx,aE];rw[List.getElem?_append_right qq0,hx,qv1 ds (t-k) (by simp only[zO,Nat.succ_mul]at h;omega)];have e1:t/k=(t-k)/k+1:=by have:=Nat.sub_mul_div t k 1;rw[Nat.mul_one]at this;have h1:1<=t/k:=(Nat.one_le_div_iff FT).2 IK;omega
  have e2:t%k=(t-k)%k:=by rw[Nat.mod_eq_sub_mod IK]
  rw[e1,e2];simp
omit [Inhabited v12] FT in
def jz(ds:X v12):((ds.map enc).flatten).length=ds.length*k:=by induction ds with|nil=>simp|cons x ds ih=>simp only[zQ,List.flatten_cons,zU,hk,ih,zO,Nat.succ_mul];omega
def quz(ds:X v12):flatK enc k ds.toArray=((ds.map enc).flatten).toArray:=by
 apply Array.ext_getElem?;intro t;by_cases ht:t<ds.length*k;have e0:(((ds.map enc).flatten).toArray)[t]? = some ((enc ds.toArray[t/k]!)[t%k]!):=by rw[List.getElem?_toArray];exact qv1 hk FT ds t ht
 rw[e0];have hs:t<(flatK enc k ds.toArray).size:=by simpa using ht
 rw[Array.getElem?_eq_getElem hs];have:=get_flatK enc k ds.toArray t (by simpa using ht);rw[getElem!_pos _ t hs]at this;rw[this];have e0:(((ds.map enc).flatten).toArray)[t]? = none:=by rw[List.getElem?_toArray];exact List.getElem?_eq_none (by rw[jz hk];omega)
 rw[e0];exact Array.getElem?_eq_none (by simpa using Nat.le_of_not_lt ht)
end
def qvr{v12:Type}{encU:v12->X U}(h:∀x,okL (encU x)=true):∀ds:X v12,okL ((ds.map encU).flatten)=true
 |[]=>rfl|x::ds=>by simp only[zQ,List.flatten_cons];exact S8 (h x) (qvr h ds)
def qrg(pre fl fl' rest:X Value)(hl:fl'.length=fl.length):putCells id pre.length fl'.toArray (pre++fl++rest).toArray=(pre++fl'++rest).toArray:=by
 apply Array.ext_getElem?;intro t;simp only[putCells,Array.getElem?_mapIdx,List.getElem?_toArray,List.size_toArray,id];rcases Nat.lt_or_ge t pre.length with h1 |h1;rw[zT,zT,List.getElem?_append_left h1,List.getElem?_append_left h1];simp[h1,show ¬ pre.length<=t by omega];rcases Nat.lt_or_ge t (pre.length+fl.length)with h2 |h2;have e1:(pre++fl++rest)[t]? = some (fl[t-pre.length]' qq0):=by rw[zT,List.getElem?_append_right h1,List.getElem?_append_left qq0];exact List.getElem?_eq_getElem qq0
 have e2:(pre++fl'++rest)[t]? = some (fl'[t-pre.length]' qq0):=by rw[zT,List.getElem?_append_right h1,List.getElem?_append_left qq0];exact List.getElem?_eq_getElem qq0
 rw[e1,e2];simp only[zM];rw[if_pos ⟨h1,by omega⟩];rw[getElem!_pos _ _ (by simp;omega)];simp;have e1:(pre++fl++rest)[t]? = rest[t-pre.length-fl.length]?:=by rw[zT,List.getElem?_append_right h1,List.getElem?_append_right qq0]
 have e2:(pre++fl'++rest)[t]? = rest[t-pre.length-fl.length]?:=by rw[zT,List.getElem?_append_right h1,List.getElem?_append_right qq0,hl]
 rw[e1,e2];rcases rest[t-pre.length-fl.length]? with _|v;rfl;simp only[zM];rw[if_neg qq0]
def aW.of_same{P:DC}{f:FuncId}{us:X U}{vs:X Value}{u:U}{cv:Value}(hv:lL us=some vs)(hr:∀m,aJ m vs=vs)(hu:toV u=some cv)(yW:∀m,ren m cv=cv)(h:∀w,Calls P f vs.toArray w fun e w'=>e=.returned cv/\w'=w)(Y:Sg):aW P f us Y (fun u' Y'=>u'=u/\Y'=Y):=fun F x ws m w cargs hx hh fG he dV cC=>by
 have:=(NE us vs hv x ws).1 he;subst this;have hca:cargs=ws:=by rw[<-cC.at,hr]
 subst hca;refine(h w).mono ?_;rintro e w' ⟨rfl,rfl⟩;exact⟨x,m,u,cv,cv,rfl,⟨rfl,hx⟩,bT.refl dV,fun m' _=>yW m',hh,fG,(KU u cv hu x cv).2 rfl,Ke.refl _ _,zF _⟩
def K0{v12:Type}(lt:v12->v12->PE)(x:v12):X v12->X v12
 |[]=>[x]|y::l=>cond (lt y x) (y::K0 lt x l) (x::y::l)
def srt{v12:Type}(lt:v12->v12->PE):X v12->X v12
 |[]=>[]|x::l=>K0 lt x (srt lt l)
def jx{v12:Type}(lt:v12->v12->PE)(x:v12):∀l,(K0 lt x l).Perm (x::l)
 |[]=>.refl _|y::l=>by simp only[K0];rcases lt y x with _|_;exact .refl _;exact((jx lt x l).cons y).trans (.swap _ _ _)
def NF{v12:Type}(lt:v12->v12->PE):∀l,(srt lt l).Perm l
 |[]=>.refl _|x::l=>(jx lt x _).trans ((NF lt l).cons x)
def Asc{v12:Type}(lt:v12->v12->PE)(l:X v12):Prop:=l.Pairwise (fun x y=>lt y x=false)
def qv8{v12:Type}{lt:v12->v12->PE}(h:SWO lt)(x:v12):∀{l},Asc lt l->Asc lt (K0 lt x l)
 |[],_=>by simp[K0,Asc]
 |y::l,ha=>by
  simp only[K0];unfold Asc at ha ⊢;rw[List.pairwise_cons]at ha;cases hy:lt y x with
  |true=>simp only[zC];rw[List.pairwise_cons];refine⟨fun z hz=>?_,qv8 h x ha.2⟩;have:=(jx lt x l).mem_iff.1 hz;rcases zI.1 this with rfl |hz;rcases hzy:lt z y with _|_;rfl;have:=h.trans y z y hy hzy;rw[h.irrefl]at this;cases this;exact ha.1 z hz
  |false=>simp only[zD];rw[List.pairwise_cons];refine⟨fun z hz=>?_,List.pairwise_cons.2 ha⟩;rcases zI.1 hz with rfl |hz;exact hy;exact h.ntrans z y x (ha.1 z hz) hy
def z2y{v12:Type}{lt:v12->v12->PE}(h:SWO lt):∀l,Asc lt (srt lt l)
 |[]=>by simp[srt,Asc]
 |x::l=>qv8 h x (z2y h l)
end Go.Vx
namespace Go.Vx
open Go Go.Rx Go.Proofs Go.Sort Go.Shelf
def xv{m:Nm}{v:Value}(h:v.oneCell'=true):(ren m v).oneCell'=true:=by
 cases v with
 |agg _=>simp[Value.oneCell']at h|tuple _=>simp[Value.oneCell']at h
 |pointer o=>cases o<;>rfl|slice o _ _=>cases o<;>rfl
 |map o=>cases o<;>rfl|chan o=>cases o<;>rfl
 |_=>rfl
def z9w{x:Cx}{m:Nm}:∀{u:U}{v:Value},okC u=true->aC x u v->(ren m v).oneCell'=true
 |.junk,v,h,_=>by simp[okC]at h
 |.agg _,v,h,_=>by simp[okC]at h
 |.tup _,v,h,_=>by simp[okC]at h
 |.bool _,v,_,h=>by simp only[aC]at h;subst h;rfl
 |.int _ _,v,_,h=>by simp only[aC]at h;subst h;rfl
 |.str _,v,_,h=>by simp only[aC]at h;subst h;rfl
 |.nilp,v,_,h=>by simp only[aC]at h;subst h;rfl
 |.nils,v,_,h=>by simp only[aC]at h;subst h;rfl
 |.nilm,v,_,h=>by simp only[aC]at h;subst h;rfl
 |.nilf,v,_,h=>by simp only[aC]at h;subst h;rfl
 |.nili,v,_,h=>by simp only[aC]at h;subst h;rfl
 |.ptr _ _ _,v,_,h=>by simp only[aC]at h;exact xv h.1
 |.sl _ _ _ _,v,_,h=>by simp only[aC]at h;exact xv h.1
 |.vl _ _ _ _,v,_,h=>by simp only[aC]at h;exact xv h.1
 |.map _,v,_,h=>by simp only[aC]at h;exact xv h.1
 |.iptr _,v,_,h=>by simp only[aC]at h;obtain⟨i,off,row,e,rfl,_⟩:=h;rfl
 |.isl _ _,v,_,h=>by simp only[aC]at h;rcases h with⟨_,rfl |⟨r,rfl⟩⟩|⟨i,off,c,rfl,_⟩<;>rfl
 |.fn _ _ _,v,_,h=>by simp only[aC]at h;obtain⟨va,vb,rfl,_⟩:=h;rfl
section
variable{A:Type}{encU:A->X U}{k:Nat}{x:Cx}{m:Nm}
structure El(encU:A->X U)(k:Nat)(x:Cx)(m:Nm)(ds:X A) where
 a:A
 sv:X Value
 mem:a∈ds
 len:sv.length=k
 rel:bA x (encU a) sv
 ren:∀m',aN x.s.nx m m'->aJ m' sv=aJ m sv
def quv(hk:∀a,(encU a).length=k){ds:X A}:∀(Ld:X A)(l0:X Value),(∀a∈Ld,a∈ds)->bA x (Ld.map encU).flatten l0->(∀m',aN x.s.nx m m'->aJ m' l0=aJ m l0)->
  ∃ps:X (El encU k x m ds),ps.map (fun p=>p.a)=Ld/\(ps.map (fun p=>p.sv)).flatten=l0
 |[],l0,_,h,_=>by have:=h.nil_inv;subst this;exact⟨[],rfl,rfl⟩
 |a::Ld,l0,hm,h,hr=>by
  simp only[zQ,List.flatten_cons]at h;have ht:=h.take k;have hd:=h.drop k;rw[List.take_left' (hk a)]at ht;rw[List.drop_left' (hk a)]at hd;have Br:∀m',aN x.s.nx m m'->aJ m' (l0.take k)=aJ m (l0.take k)/\aJ m' (l0.drop k)=aJ m (l0.drop k):=fun m' ha=>by have:=hr m' ha;simp only[mD,List.map_take,List.map_drop]at this ⊢;rw[this];exact⟨rfl,rfl⟩
  obtain⟨ps,h1,h2⟩:=quv hk Ld (l0.drop k) (fun b hb=>hm b (by simp[hb])) hd fun m' ha=>(Br m' ha).2;have aQ:(l0.take k).length=k:=by rw[<-ht.2,hk]
  exact⟨⟨a,l0.take k,hm a qq4,aQ,ht,fun m' ha=>(Br m' ha).1⟩::ps,by simp[h1],by simp[h2]⟩
def ic{ds:X A}:∀ps:X (El encU k x m ds),bA x ((ps.map (fun p=>p.a)).map encU).flatten (ps.map (fun p=>p.sv)).flatten
 |[]=>bA.nil x|p::ps=>by simp only[zQ,List.flatten_cons];exact p.rel.append (ic ps)
def fy{ds:X A}{m':Nm}(ha:aN x.s.nx m m'):∀ps:X (El encU k x m ds),aJ m' (ps.map (fun p=>p.sv)).flatten=(ps.map (fun p=>aJ m p.sv)).flatten
 |[]=>by simp[aJ]
 |p::ps=>by have h1:=fy ha ps;have h2:=p.ren m' ha;simp only[mD,zQ,List.flatten_cons,List.map_append]at h1 h2 ⊢;rw[h1,h2]
end
def Fh(P:DC)(g:FuncId)(args:X U)(z:Int):Prop:=∀(vs cargs:X Value)(x:Cx),iZ x->bA x args vs->∀m:Nm,nS m x.s.nx vs cargs->∀w:Nr,gD m (AJ x.s) w->
  Calls P g cargs.toArray w fun e w'=>e=.returned (.int .i64 z)/\∃q os,w'=grow (w.drewN q) os
def qzt{v12:Type}[Inhabited v12]{enc:v12->X Value}{k:Nat}(hk:∀x,(enc x).length=k)(FT:0<k){w:Nr}{b off:Nat}{pre rest:X Value}{e:TypeId}{ps:X v12}(o3:w.heap[b]? = some (.cells (pre++(ps.map enc).flatten++rest).toArray e (0,0)))(nY:pre.length=off):HoldsK enc k w b off ps.toArray:=by unfold HoldsK Holds;rw[quz hk FT];intro j hj;simp only[List.size_toArray]at hj;refine⟨?_,?_⟩;simp only[World.cell?,o3];simp only[Option.isSome_none,Bool.false_eq_true,if_false,List.getElem?_toArray,id];rw[zT,List.getElem?_append_right qq0,List.getElem?_append_left qq0];rw[show off+j-pre.length=j by omega,List.getElem?_eq_getElem hj,getElem!_pos _ _ (by simpa using hj)];simp;simp[World.frozen?,o3]
def gR{A:Type}(f:A->A->V Int)(x y:A):PE:=decide ((f x y).getD 0<0)
def v02{A:Type}(eq:A->A->PE)(f:A->A->V Int)(ds:X A):PE :=
 ds.all fun x=>!(gR f x x)&&ds.all fun y=>(f x y).isSome&&((gR f x y||(gR f y x||eq x y))&&ds.all fun z=>(!(gR f x y&&gR f y z)||gR f x z)&&(gR f x y||(gR f y z || !(gR f x z))))
def qv{A:Type}(eq:A->A->PE)(f:A->A->V Int)(ds:X A):V (X A):=cond (Nat.ble ds.length 1000000&&v02 eq f ds) (some (srt (gR f) ds)) none
structure Fg{A:Type}(f:A->A->V Int)(S:A->Prop):Prop where
 irrefl:∀x,S x->gR f x x=false
 some:∀x y,S x->S y->∃z,f x y=some z
 anti:∀x y,S x->S y->gR f x y=false->gR f y x=false->x=y
 trans:∀x y z,S x->S y->S z->gR f x y=true->gR f y z=true->gR f x z=true
 ntrans:∀x y z,S x->S y->S z->gR f x y=false->gR f y z=false->gR f x z=false
variable{A:Type}
def qnj{eq:A->A->PE}(heq:∀x y,eq x y=true->x=y){f:A->A->V Int}{ds:X A}(h:v02 eq f ds=true):Fg f (· ∈ds):=by
 unfold v02 at h;rw[List.all_eq_true]at h;have h1:∀x∈ds,gR f x x=false/\∀y∈ds,(f x y).isSome=true/\(gR f x y||(gR f y x||eq x y))=true/\∀z∈ds,(!(gR f x y&&gR f y z)||gR f x z)=true/\(gR f x y||(gR f y z || !(gR f x z)))=true:=fun x hx=>by have a:=h x hx;rw[Bool.and_eq_true,Bool.not_eq_true',List.all_eq_true]at a;refine⟨a.1,fun y hy=>?_⟩;have b:=a.2 y hy;rw[Bool.and_eq_true,Bool.and_eq_true,List.all_eq_true]at b;refine⟨b.1,b.2.1,fun z hz=>?_⟩;have c:=b.2.2 z hz;rw[Bool.and_eq_true]at c;exact c
 refine⟨fun x hx=>(h1 x hx).1,fun x y hx hy=>Option.isSome_iff_exists.1 ((h1 x hx).2 y hy).1,fun x y hx hy a b=>?_,fun x y z hx hy hz a b=>?_,fun x y z hx hy hz a b=>?_⟩;have:=((h1 x hx).2 y hy).2.1;rw[a,b]at this;exact heq x y (by simpa using this);have:=(((h1 x hx).2 y hy).2.2 z hz).1;rw[a,b]at this;simpa using this;have:=(((h1 x hx).2 y hy).2.2 z hz).2;rw[a,b]at this;simpa using this
def qqy{A:Type}{f:A->A->V Int}{S:A->Prop}(h:Fg f S)(x:A)(hx:S x):∀{l},(∀y∈l,S y)->Asc (gR f) l->Asc (gR f) (K0 (gR f) x l)
 |[],_,_=>by simp[K0,Asc]
 |y::l,hS,ha=>by
  have gc:=hS y qq4;have hlS:∀z∈l,S z:=fun z hz=>hS z (by simp[hz]);simp only[K0];unfold Asc at ha ⊢;rw[List.pairwise_cons]at ha;cases hy:gR f y x with
  |true=>simp only[zC];rw[List.pairwise_cons];refine⟨fun z hz=>?_,qqy h x hx hlS ha.2⟩;have:=(jx (gR f) x l).mem_iff.1 hz;rcases zI.1 this with rfl |hz;rcases hzy:gR f z y with _|_;rfl;have:=h.trans y z y gc hx gc hy hzy;rw[h.irrefl y gc]at this;cases this;exact ha.1 z hz
  |false=>simp only[zD];rw[List.pairwise_cons];refine⟨fun z hz=>?_,List.pairwise_cons.2 ha⟩;rcases zI.1 hz with rfl |hz;exact hy;exact h.ntrans z y x (hlS z hz) gc hx (ha.1 z hz) hy
def c_{A:Type}{f:A->A->V Int}{S:A->Prop}(h:Fg f S):∀l,(∀y∈l,S y)->Asc (gR f) (srt (gR f) l)
 |[],_=>by simp[srt,Asc]
 |x::l,hS=>qqy h x (hS x qq4) (fun y hy=>hS y (by simp[(NF (gR f) l).mem_iff.1 hy])) (c_ h l fun y hy=>hS y (by simp[hy]))
def qks{A:Type}{f:A->A->V Int}{S:A->Prop}(h:Fg f S):∀{a b:X A},(∀y∈a,S y)->Asc (gR f) a->Asc (gR f) b->a.Perm b->a=b
 |[],b,_,_,_,hp=>by rw[hp.nil_eq]
 |x::a,[],_,_,_,hp=>by have:=hp.length_eq;simp at this
 |x::a,y::b,hS,ha,hb,hp=>by
  unfold Asc at ha hb;rw[List.pairwise_cons]at ha hb;have nK:x=y:=by have h1:x∈y::b:=hp.mem_iff.1 qq4;have h2:y∈x::a:=hp.mem_iff.2 qq4;rcases zI.1 h1 with h1 |h1;exact h1;rcases zI.1 h2 with h2 |h2;exact h2.symm;exact h.anti x y (hS x qq4) (hS y (by simp[h2])) (hb.1 x h1) (ha.1 y h2)
  subst nK;rw[qks h (fun z hz=>hS z (by simp[hz])) ha.2 hb.2 (List.Perm.cons_inv hp)]
def Fg.swo{f:A->A->V Int}{S:A->Prop}(h:Fg f S){B:Type}(e:B->A)(he:∀b,S (e b)):SWO (ltOf fun p q:B=>(f (e p) (e q)).getD 0):=
 ⟨fun x=>h.irrefl _ (he x),fun x y z=>h.trans _ _ _ (he x) (he y) (he z),fun x y z=>h.ntrans _ _ _ (he x) (he y) (he z)⟩
def z6t(P:DC)(f g:FuncId)(k:Nat):Prop:=∀(v12:Type)[Inhabited v12](enc:v12->X Value)(cf:v12->v12->Int),(∀x,(enc x).length=k)->(∀x,∀v∈enc x,v.oneCell'=true)->SWO (ltOf cf)->
 ∀(cb:Zu Value)(blk off cap:Nat)(d:Zu v12)(w:Nr),CmpLays P g cb enc k cf blk off d.size w->HoldsK enc k w blk off d->blk<w.heap.size->d.size<4611686018427387904->
  Calls P f #[.slice (some ⟨blk,off,none⟩) d.size cap,.func (.func g) #[] cb] w fun e w'=>e=.returned (.tuple #[])/\∃d' n os,PermIn 0 d.size d d'/\SortedIn (ltOf cf) 0 d.size d'/\w'=sortWorldK enc k w blk off n d' os
def aW.cmpJ{P:DC}{g:FuncId}{args:X U}{vs cargs:X Value}{z:Int}(h:Fh P g args z){x:Cx}(hh:iZ x)(he:bA x args vs){m:Nm}(cC:nS m x.s.nx vs cargs){w:Nr}(hf:gD m (AJ x.s) w):
  Calls P g cargs.toArray w fun e w'=>e=.returned (.int .i64 z)/\∃q os,w'=grow (w.drewN q) os:=h vs cargs x hh he m cC w hf
def aW.sortC0{P:DC}{f g:FuncId}{encU:A->X U}{k:Nat}(hk:∀a,(encU a).length=k)(FT:0<k)(IE:∀a,okL (encU a)=true){cs:X U}{f1:A->A->V Int}(hs:z6t P f g k)
  (ds:X A) (hO:Fg f1 (· ∈ds)) (hcmp:∀a b r,f1 a b=some r->Fh P g (.agg (encU a):: .agg (encU b)::cs) r)
  {Y:Sg} {K st:Nat} {e:TypeId} (cR:ds≠[]) (aQ:ds.length<4611686018427387904) (hg:gt Y.h K=some (.vec ((ds.map encU).flatten) e k st)):
  aW P f [.vl K st 0 ds.length,.fn (.func g) [] cs] Y (fun u Y'=>u=.tup []/\Y'=⟨ug Y.h K (.vec (((srt (gR f1) ds).map encU).flatten) e k st),Y.nx⟩):=fun F x vs m w cargs hx hh fG he dV cC=>by
 subst hx;obtain⟨v0,zl,rfl,h0,he⟩:=he.inv;obtain⟨v1,db,rfl,h1,he⟩:=he.inv;have:=he.nil_inv;subst this;simp only[aC]at h0 h1;obtain⟨va,vb,rfl,_,hva,hvbP,hvb⟩:=h1;have hva':va=[]:=by cases va with
  |nil=>rfl|cons=>simp at hva
 subst hva';have hvE:bA x cs vb:=⟨hvbP,hvb⟩;have hvr:∀m',aN x.s.nx m m'->aJ m' vb=aJ m vb:=fun m' ha=>by have h1:=cC m' ha;have h2:=cC m (aN.refl _ _);rw[<-h2]at h1;simp only[aJ,ren,uB,List.cons.injEq,Value.func.injEq,Array.mk.injEq,and_true,true_and]at h1;exact h1.2
 obtain⟨_,hK,h0⟩:=h0;obtain⟨l,e',sz,hb,tB⟩:=(h0 _ hg).2 rfl;cases hb;obtain⟨_,hBk⟩:=hh.ok K _ hg;obtain⟨_,_,hB⟩:=hBk;have Wt:(ds.map encU).flatten≠[]:=fun hn=>by rcases ds with _|⟨a,ds⟩;exact cR rfl;simp only[zQ,List.flatten_cons,List.append_eq_nil_iff]at hn;have:=hk a;rw[hn.1]at this;simp at this;omega
 rcases hB with⟨hn,_⟩|⟨i,l',jI,FP,hE⟩;exact absurd hn Wt;rw[jI]at tB;simp only[K9]at tB;rcases tB with⟨hbad,_⟩|rfl;omega;have TX:=dV m (aN.refl _ _);have II:=hh.bd i _ FP;obtain⟨pre,rest,o3,nY,iU⟩:=(TX.ok i _ FP:yH m i _ e w (k+2));have uN:=cC.at;simp only[aJ,ren,uB]at uN;subst uN;have hblk:m.blk i<w.heap.size:=TX.size FP;have De:∀m',aN x.s.nx m m'->aJ m' l'=aJ m l':=fun m' ha=>by
  obtain⟨a1,a2,a3⟩:=ha i II;obtain⟨pre',GK,BI,hpre',_⟩:=((dV m' ha).ok i _ FP:yH m' i _ e w (k+2));rw[a1,o3]at BI;simp only[zA,Obj.cells.injEq,and_true]at BI;have h1:=congrArg Array.toList BI;simp only[zT]at h1;have hl:pre.length=pre'.length:=by omega
  have h2:=List.append_inj_right h1 hl;exact(List.append_inj_left h2 (by simp[mD])).symm
 obtain⟨ps,Vo,Vn⟩:=quv hk ds l' (fun a h=>h) hE De;have vO:ps.length=ds.length:=by have h:=congrArg List.length Vo;simpa using h
 have hpne:ps≠[]:=fun h=>by rw[h]at vO;exact cR (List.length_eq_zero_iff.1 vO.symm)
 let p0:El encU k x m ds:=ps.head hpne
 letI:Inhabited (El encU k x m ds):=⟨p0⟩
 let enc:El encU k x m ds->X Value:=fun p=>aJ m p.sv
 let cg:El encU k x m ds->El encU k x m ds->Int:=fun p q=>(f1 p.a q.a).getD 0
 have LX:∀p,(enc p).length=k:=fun p=>by simp only[enc,mD,yA,p.len]
 have wX:∀p,∀v∈enc p,v.oneCell'=true:=fun p v hv=>by
  simp only[enc,mD,List.mem_map]at hv;obtain⟨v',hv',rfl⟩:=hv;obtain⟨j,hj⟩:=List.getElem?_of_mem hv';have iD:j<(encU p.a).length:=by rw[p.rel.2];exact(zG.1 hj).1
  obtain⟨v2,h1,h2⟩:=p.rel.get (List.getElem?_eq_getElem iD);rw[hj]at h1;cases h1;exact z9w ((KW _).1 (IE p.a) _ (List.getElem_mem iD)) h2
 have vM:aJ m l'=(ps.map enc).flatten:=by rw[<-Vn];exact fy (aN.refl _ _) ps
 rw[vM]at o3;have Cj:HoldsK enc k w (m.blk i) (m.sh i+0*k) ps.toArray:=qzt LX FT o3 qq0;have Vz:CmpLays P g (aJ m vb).toArray enc k cg (m.blk i) (m.sh i+0*k) ps.toArray.size w:=fun n os dk hdk p q=>by
  obtain⟨z,hz⟩:=hO.some p.a q.a p.mem q.mem;have hcz:cg p q=z:=by simp[cg,hz]
  rw[hcz];have jA:=aW.cmpJ (hcmp p.a q.a z hz) hh (vs:=.agg ⟨p.sv⟩:: .agg ⟨q.sv⟩::vb) (cargs:=.agg (enc p).toArray :: .agg (enc q).toArray::aJ m vb) (m:=m)
   (bA.cons (by simp only[aC];exact⟨_,rfl,p.rel.1,p.rel.2,IE _⟩) (bA.cons (by simp only[aC];exact⟨_,rfl,q.rel.1,q.rel.2,IE _⟩) hvE))
   (fun m' ha=>by simp only[aJ,ren,uB,enc,p.ren m' ha,q.ren m' ha,hvr m' ha])
   (w:=sortWorldK enc k w (m.blk i) (m.sh i+0*k) n dk os) (fun m' ha=>by
    have mG:aN x.s.nx m m':=ha;have xH:=dV m' mG;refine⟨fun j b hj=>?_,fun j j' b c hj tS cR ho=>?_,fun j b hj=>?_⟩;rw[L2]at hj;obtain⟨hj,l2,e2,rfl⟩:=S5 hj;refine(xH.ok j _ hj).world ?_;have cR:m'.blk j≠m.blk i:=fun hc=>by
     have nZ:i≠j:=fun h=>by subst h;rw[FP]at hj;cases hj
     have:=xH.inj i j _ _ FP hj nZ rfl;rw[(mG i II).1]at this;exact this hc.symm
    have eY:=xH.size hj;unfold sortWorldK putRowK putRow mapBlock;simp only[Sort.grow];rw[Array.getElem?_append_left (by simpa[Sort.ahead]using eY)];simp only[Array.getElem?_modify,Sort.ahead];rw[if_neg (Ne.symm cR)];rw[L2]at hj;obtain⟨_,l2,e2,rfl⟩:=S5 hj;simp[Rx.Own]at ho;rw[L2]at hj;exact hh.bd j b (S5 hj).1)
  simpa using jA
 have hc:=hs (El encU k x m ds) enc cg LX wX (hO.swo (fun p:El encU k x m ds=>p.a) fun p=>p.mem) (aJ m vb).toArray (m.blk i) (m.sh i+0*k) (dM m i (cV+0)) ps.toArray w Vz Cj hblk (by simpa[vO]using aQ);simp only[List.size_toArray,vO]at hc;refine(show Calls P f _ w _ from hc).mono ?_;rintro e1 w' ⟨rfl,d',n,os,CL,OQ,rfl⟩;obtain⟨yP,rfl⟩:∃yP:X (El encU k x m ds),d'=yP.toArray:=⟨d'.toList,by simp⟩;have Bj:yP.length=ps.length:=by have:=CL.1;simpa using this
 have OP:yP.map (fun p=>p.a)=srt (gR f1) ds:=by
  have hp:yP.Perm ps:=by
   have h3:=CL.2.2;have e1:(yP.toArray.extract 0 ds.length).toList=yP:=by simp[<-vO,<-Bj]
   have e2:(ps.toArray.extract 0 ds.length).toList=ps:=by simp[<-vO]
   rwa [e1,e2]at h3
  refine qks hO (fun y hy=>?_) ?_ (c_ hO ds fun y hy=>hy) (((hp.map _).trans (List.Perm.of_eq Vo)).trans (NF _ ds).symm);obtain⟨p,_,rfl⟩:=List.mem_map.1 hy;exact p.mem;unfold Asc;rw[List.pairwise_iff_getElem];intro a b ha hb PJ;simp only[yA]at ha hb;have:=OQ a b (Nat.zero_le _) PJ qq0;simpa[ha,hb,cg,ltOf,gR]using this
 have rL:((yP.map enc).flatten).length=((ps.map enc).flatten).length:=by rw[jz LX,jz LX,Bj]
 have hll2:((yP.map fun p=>p.sv).flatten).length=l'.length:=by have h1:∀qs:X (El encU k x m ds),((qs.map fun p=>p.sv).flatten).length=qs.length*k:=fun qs=>jz (enc:=fun p:El encU k x m ds=>p.sv) (fun p=>p.len) qs;rw[h1,Bj,<-h1,Vn]
 have eA:(putRowK enc k (Sort.ahead w n) (m.blk i) (m.sh i+0*k) yP.toArray).heap[m.blk i]? = some (.cells (pre++(yP.map enc).flatten++rest).toArray e (0,0)):=by unfold putRowK putRow mapBlock;rw[quz LX FT];simp only[Array.getElem?_modify,if_true,Sort.ahead,o3,zM,onCells];rw[show m.sh i+0*k=pre.length by omega,qrg _ _ _ _ rL]
 have pH:bT m x.s w m ⟨up x.s.h i (.inl ((yP.map fun p=>p.sv).flatten,e,k+2)),x.s.nx⟩ (putRowK enc k (Sort.ahead w n) (m.blk i) (m.sh i+0*k) yP.toArray):=by refine bT.write dV FP rfl (fun j hj=>?_) (by simp[putRowK,putRow,mapBlock,Sort.ahead]) rfl rfl rfl (Nat.le_add_right _ _) fun m' ha=>?_;unfold putRowK putRow mapBlock;simp only[Array.getElem?_modify,Sort.ahead];rw[if_neg (Ne.symm hj)];obtain⟨a1,a2,a3⟩:=ha i II;refine⟨pre,rest,?_,by rw[a2];exact nY,?_⟩;rw[a1,fy ha];exact eA;rw[hll2,a3];exact iU
 have kQ:=jc (c:=.inl ((yP.map fun p=>p.sv).flatten,e,k+2)) (bK:=.vec (((srt (gR f1) ds).map encU).flatten) e k st) hh hg jI FP rfl (by rintro l e sz st h;cases h;exact⟨_,rfl⟩) fun y h1 h2 hm=>⟨qvr IE _,FT,.inr ⟨i,_,h1,h2,by rw[<-OP];exact hm.ke.E (ic yP).bel (ic yP)⟩⟩;refine⟨_,m,.tup [],.tuple #[],.tuple #[],rfl,⟨rfl,rfl⟩,pH.trans (z3w pH.fits os),fun m' _=>by simp[ren,uB,aJ],kQ.h,kQ.fr F fG,by simp[aC,c9],kQ.mo.ke,zF _⟩
def d?{A:Type}{eq:A->A->PE}{f:A->A->V Int}{ds ys:X A}(h:qv eq f ds=some ys):ds.length<=1000000/\v02 eq f ds=true/\ys=srt (gR f) ds:=by unfold qv at h;rcases hc:(Nat.ble ds.length 1000000&&v02 eq f ds)with _|_;rw[hc]at h;cases h;rw[hc]at h;rw[Bool.and_eq_true,Nat.ble_eq]at hc;exact⟨hc.1,hc.2,(Option.some.inj h).symm⟩
end Go.Vx
