import Derived.Shelf.GgSortFunc.RowK
import Derived.Shelf.SlSortCmp.WholeK
import Derived.Test.YtmflfedkfdkipaaGreatP15
set_option linter.all false
open List Go.IntKind
open Nat hiding beq_eq
namespace Go.Vx
open Go Go.Rx Go.Proofs Go.Sort
def z6s{m s w}(h:gZ m s w)(d:Jg Obj):bS m s w m s (grow w d):=by
 have e:∀b,b<w.heap.size->(grow w d).heap[b]? = w.heap[b]?:=fun b a=>by simp[Sort.grow];rw[qcK a]
 refine⟨aP.refl _ _,zF _,fun g f=>?_,fun _ h=>.inl h,fun b a _=>e b a,by simp[Sort.grow],rfl,rfl,rfl⟩;have c:=h g f;exact⟨fun i b a=>(c.ok i b a).world (e _<|c.size a),c.inj,c.bd⟩
section
variable{a:Type}[Inhabited a]{enc:a->X Value}{k:Nat}(b:∀x,(enc x).length=k)(c:0<k)
include b c
def qxc:∀(d:X a)(t:Nat),t<d.length*k->((d.map enc).flatten)[t]? = some ((enc d.toArray[t/k]!)[t%k]!)
 |[],t,h=>by simp at h
 |x::d,t,h=>by
  simp[zQ,YP];have f:=b x;obtain e |LF:=Zd t k;rw[mc af,div_eq_of_lt e,vu e];simp[f,e];rw[mu af,f,qxc d (t-k) (by simp[zO,eM]at h;omega)];have g:t/k=(t-k)/k+1:=by have:=sub_mul_div t k 1;rw[JA]at this;have j:1<=t/k:=(one_le_div_iff c).2 LF;omega
  have i:t%k=(t-k)%k:=by rw[mod_eq_sub_mod LF]
  rw[g,i];simp
omit [Inhabited a] c in
def ad(d:X a):((d.map enc).flatten).length=d.length*k:=by induction d with|nil=>simp|cons x d e=>simp[zQ,YP,zU,b,e,zO,eM];omega
def qxa(d:X a):flatK enc k d.toArray=((d.map enc).flatten).toArray:=by
 apply Array.ext_getElem?;intro t;by_cases e:t<d.length*k;have f:(((d.map enc).flatten).toArray)[t]? = some ((enc d.toArray[t/k]!)[t%k]!):=by rw[xi];exact qxc b c d t e
 rw[f];have g:t<(flatK enc k d.toArray).size:=by simpa using e
 rw[Array.getElem?_eq_getElem g];have:=get_flatK enc k d.toArray t (by simpa using e);rw[G! _ t g]at this;rw[this];have f:(((d.map enc).flatten).toArray)[t]? = none:=by rw[xi];exact YQ (by rw[ad b];omega)
 rw[f];exact Ew (by simpa using ya e)
end
def qy3{b:Type}{a:b->X U}(h:∀x,I8 (a x)=true):∀c:X b,I8 ((c.map a).flatten)=true
 |[]=>rfl|x::c=>by simp[zQ,YP];exact VE (h x) (qy3 h c)
def qtr(pre c b a:X Value)(h:b.length=c.length):putCells id pre.length b.toArray (pre++c++a).toArray=(pre++b++a).toArray:=by
 apply Array.ext_getElem?;intro t;simp only[putCells,Array.getElem?_mapIdx,xi,HB,id];obtain d |d:=Zd t pre.length;rw[zT,zT,mc d,mc d];simp[d,show ¬ pre.length<=t by omega];rcases Zd t (pre.length+c.length)with g |g;have e:(pre++c++a)[t]? = some (c[t-pre.length]' af):=by rw[zT,mu d,mc af];exact lq af
 have f:(pre++b++a)[t]? = some (b[t-pre.length]' af):=by rw[zT,mu d,mc af];exact lq af
 rw[e,f];simp only[zM];rw[lr ⟨d,by omega⟩];rw[G! _ _ (by simp;omega)];simp;have e:(pre++c++a)[t]? = a[t-pre.length-c.length]?:=by rw[zT,mu d,mu af]
 have f:(pre++b++a)[t]? = a[t-pre.length-c.length]?:=by rw[zT,mu d,mu af,h]
 rw[e,f];obtain _|v:=a[t-pre.length-c.length]?;rfl;simp only[zM];rw[hF af]
def b7.of_same{P:Ua}{f c vs u cv}(r:mO c=some vs)(y:∀m,aL m vs=vs)(q:cf u=some cv)(i:∀m,H3 m cv=cv)(h:∀w,Calls P f vs.toArray w fun e d=>e=.returned cv/\d=w)(Y:Sg):b7 P f c Y (fun v j=>v=u/\j=Y):=fun F x g m w a s p n o l k=>by
 have:=(QD c vs r x g).1 o;subst this;have b:a=g:=by rw[<-k.at,y]
 subst b;refine(h w).mono ?_;rintro e d ⟨rfl,rfl⟩;exact⟨x,m,u,cv,cv,rfl,⟨rfl,s⟩,bS.refl l,fun t _=>i t,p,n,(NU u cv q x cv).2 rfl,Ke.refl _ _,zF _⟩
def MZ{a:Type}(lt:a->a->FK)(x:a):X a->X a
 |[]=>[x]|y::l=>cond (lt y x) (y::MZ lt x l) (x::y::l)
def gC{a:Type}(lt:a->a->FK):X a->X a
 |[]=>[]|x::l=>MZ lt x (gC lt l)
def aa{a:Type}(lt:a->a->FK)(x):∀l,(MZ lt x l).Perm (x::l)
 |[]=>.refl _|y::l=>by simp[MZ];obtain _|_:=lt y x;exact .refl _;exact((aa lt x l).cons y).trans (.swap _ _ _)
def QE{a:Type}(lt:a->a->FK):∀l,(gC lt l).Perm l
 |[]=>.refl _|x::l=>(aa lt x _).trans ((QE lt l).cons x)
def eZ{a:Type}(lt:a->a->FK)(l:X a):Prop:=l.Pairwise (fun x y=>lt y x=false)
def qxj{b:Type}{lt:b->b->FK}(h:SWO lt)(x):∀{l},eZ lt l->eZ lt (MZ lt x l)
 |[],_=>by simp[MZ,eZ]
 |y::l,c=>by
  simp[MZ];unfold eZ at c ⊢;rw[xe]at c;cases d:lt y x with
  |true=>simp only[zC];rw[xe];refine⟨fun z a=>?_,qxj h x c.2⟩;have:=(aa lt x l).mem_iff.1 a;obtain rfl |a:=zI.1 this;rcases e:lt z y with _|_;rfl;have:=h.trans y z y d e;rw[h.irrefl]at this;cases this;exact c.1 z a
  |false=>simp only[zD];rw[xe];refine⟨fun z a=>?_,pairwise_cons.2 c⟩;obtain rfl |a:=zI.1 a;exact d;exact h.ntrans z y x (c.1 z a) d
def z5r{a:Type}{lt:a->a->FK}(h:SWO lt):∀l,eZ lt (gC lt l)
 |[]=>by simp[gC,eZ]
 |x::l=>qxj h x (z5r h l)
end Go.Vx
namespace Go.Vx
open Go Go.Rx Go.Proofs Go.Sort Go.Shelf
def ed{m v}(h:v.oneCell'=true):(H3 m v).oneCell'=true:=by
 cases v with
 |agg _=>simp[Value.oneCell']at h|tuple _=>simp[Value.oneCell']at h
 |pointer o=>cases o<;>rfl|slice o _ _=>cases o<;>rfl
 |map o=>cases o<;>rfl|chan o=>cases o<;>rfl
 |_=>rfl
def zcn{x m}:∀{u v},U6 u=true->aF x u v->(H3 m v).oneCell'=true
 |.J9,v,h,_=>by simp[U6]at h
 |.agg _,v,h,_=>by simp[U6]at h
 |.a7 _,v,h,_=>by simp[U6]at h
 |.bool _,v,_,h=>by simp[aF]at h;subst h;rfl
 |.int _ _,v,_,h=>by simp[aF]at h;subst h;rfl
 |.str _,v,_,h=>by simp[aF]at h;subst h;rfl
 |.b6,v,_,h=>by simp[aF]at h;subst h;rfl
 |.J,v,_,h=>by simp[aF]at h;subst h;rfl
 |.e6,v,_,h=>by simp[aF]at h;subst h;rfl
 |.e9,v,_,h=>by simp[aF]at h;subst h;rfl
 |.k9,v,_,h=>by simp[aF]at h;subst h;rfl
 |.ptr _ _ _,v,_,h=>by simp[aF]at h;exact ed h.1
 |.sl _ _ _ _,v,_,h=>by simp[aF]at h;exact ed h.1
 |.vl _ _ _ _,v,_,h=>by simp[aF]at h;exact ed h.1
 |.map _,v,_,h=>by simp[aF]at h;exact ed h.1
 |.b4 _,v,_,h=>by simp only[aF]at h;obtain⟨i,off,row,e,rfl,_⟩:=h;rfl
 |.O _ _,v,_,h=>by simp[aF]at h;obtain⟨_,rfl |⟨r,rfl⟩⟩|⟨i,off,c,rfl,_⟩:=h<;>rfl
 |.fn _ _ _,v,_,h=>by simp[aF]at h;obtain⟨a,b,rfl,_⟩:=h;rfl
section
variable{A:Type}{encU:A->X U}{k:Nat}{x:Cx}{m:Nm}
structure El(encU:A->X U)(k:Nat)(x:Cx)(m:Nm)(ds:X A) where
 a:A
 sv:X Value
 mem:a∈ds
 len:sv.length=k
 rel:bD x (encU a) sv
 H3:∀m',aP x.s.nx m m'->aL m' sv=aL m sv
def qx6(g:∀a,(encU a).length=k){n}:∀(e:X A)(c),(∀a∈e,a∈n)->bD x (e.map encU).flatten c->(∀d,aP x.s.nx m d->aL d c=aL m c)->
  ∃i:X (El encU k x m n),i.map (fun p=>p.a)=e/\(i.map fun p=>p.sv).flatten=c
 |[],c,_,h,_=>by have:=h.K4;subst this;exact⟨[],rfl,rfl⟩
 |a::e,c,hm,h,v=>by
  simp[zQ,YP]at h;have j:=h.take k;have o:=h.drop k;rw[SI<|g a]at j;rw[drop_left'<|g a]at o;have l:∀d,aP x.s.nx m d->aL d (c.take k)=aL m (c.take k)/\aL d (c.drop k)=aL m (c.drop k):=fun d f=>by have:=v d f;simp only[nE,Bd,As]at this ⊢;rw[this];exact⟨rfl,rfl⟩
  have⟨i,r,t⟩:=qx6 g e (c.drop k) (fun b u=>hm b<|by simp[u]) o fun d f=>(l d f).2;have q:(c.take k).length=k:=by rw[<-j.2,g]
  exact⟨⟨a,c.take k,hm a aZ,q,j,fun d f=>(l d f).1⟩::i,by simp[r],by simp[t]⟩
def Qm{c}:∀b:X (El encU k x m c),bD x ((b.map fun p=>p.a).map encU).flatten (b.map fun p=>p.sv).flatten
 |[]=>bD.nil x|p::b=>by simp only[zQ,YP];exact p.rel.append (Qm b)
def z1x{f b}(e:aP x.s.nx m b):∀a:X (El encU k x m f),aL b (a.map fun p=>p.sv).flatten=(a.map fun p=>aL m p.sv).flatten
 |[]=>by simp[aL]
 |p::a=>by have c:=z1x e a;have d:=p.H3 b e;simp only[nE,zQ,YP,y_]at c d ⊢;rw[c,d]
end
def Kt(P:Ua)(g:FuncId)(args:X U)(z:Int):Prop:=∀(b a:X Value)(x:Cx),jV x->bD x args b->∀m:Nm,oU m x.s.nx b a->∀w:Ep,gZ m (CX x.s) w->
  Calls P g a.toArray w fun e d=>e=.returned (.int .i64 z)/\∃q c,d=grow (w.drewN q) c
def z2p{c}[Inhabited c]{a:c->X Value}{k}(l:∀x,(a x).length=k)(i:0<k){w:Ep}{b off:Nat}{pre d:X Value}{e:TypeId}{h:X c}(g:w.heap[b]? = some (.cells (pre++(h.map a).flatten++d).toArray e (0,0)))(m:pre.length=off):HoldsK a k w b off h.toArray:=by unfold HoldsK Holds;rw[qxa l i];intro j f;simp only[HB]at f;refine⟨?_,?_⟩;simp only[World.cell?,g];simp only[qcf,gj,MF,xi,id];rw[zT,mu af,mc af];rw[show off+j-pre.length=j by omega,lq f,G! _ _<|by simpa using f];simp;simp[World.frozen?,g]
def iH{A:Type}(f:A->A->V Int)(x y:A):FK:=decide ((f x y).getD 0<0)
def Bp{A:Type}(eq:A->A->FK)(f:A->A->V Int)(a:X A):FK :=
 a.all fun x=>!(iH f x x)&&a.all fun y=>(f x y).isSome&&((iH f x y||(iH f y x||eq x y))&&a.all fun z=>(!(iH f x y&&iH f y z)||iH f x z)&&(iH f x y||(iH f y z || !(iH f x z))))
def sb{A:Type}(eq:A->A->FK)(f:A->A->V Int)(a:X A):V (X A):=cond (ble a.length 1000000&&Bp eq f a) (some<|gC (iH f) a) none
structure Kr{A:Type}(f:A->A->V Int)(S:A->Prop):Prop where
 irrefl:∀x,S x->iH f x x=false
 some:∀x y,S x->S y->∃z,f x y=some z
 S8:∀x y,S x->S y->iH f x y=false->iH f y x=false->x=y
 trans:∀x y z,S x->S y->S z->iH f x y=true->iH f y z=true->iH f x z=true
 ntrans:∀x y z,S x->S y->S z->iH f x y=false->iH f y z=false->iH f x z=false
variable{A:Type}
def qph{eq:A->A->FK}(heq:∀x y,eq x y=true->x=y){f:A->A->V Int}{g}(h:Bp eq f g=true):Kr f (· ∈g):=by
 unfold Bp at h;rw[rj]at h;have i:∀x∈g,iH f x x=false/\∀y∈g,(f x y).isSome=true/\(iH f x y||(iH f y x||eq x y))=true/\∀z∈g,(!(iH f x y&&iH f y z)||iH f x z)=true/\(iH f x y||(iH f y z || !(iH f x z)))=true:=fun x d=>by have a:=h x d;rw[eR,zp,rj]at a;refine⟨a.1,fun y e=>?_⟩;have b:=a.2 y e;rw[eR,eR,rj]at b;refine⟨b.1,b.2.1,fun z j=>?_⟩;have c:=b.2.2 z j;rw[eR]at c;exact c
 refine⟨fun x d=>(i x d).1,fun x y d e=>Option.isSome_iff_exists.1 ((i x d).2 y e).1,fun x y d e a b=>?_,fun x y z d e j a b=>?_,fun x y z d e j a b=>?_⟩;have:=((i x d).2 y e).2.1;rw[a,b]at this;exact heq x y (by simpa using this);have:=(((i x d).2 y e).2.2 z j).1;rw[a,b]at this;simpa using this;have:=(((i x d).2 y e).2.2 z j).2;rw[a,b]at this;simpa using this
def qt6{A:Type}{f S}(h:Kr f S)(x:A)(e:S x):∀{l},(∀y∈l,S y)->eZ (iH f) l->eZ (iH f) (MZ (iH f) x l)
 |[],_,_=>by simp[MZ,eZ]
 |y::l,j,b=>by
  have d:=j y aZ;have c:∀z∈l,S z:=fun z a=>j z (by simp[a]);simp[MZ];unfold eZ at b ⊢;rw[xe]at b;cases g:iH f y x with
  |true=>simp only[zC];rw[xe];refine⟨fun z a=>?_,qt6 h x e c b.2⟩;have:=(aa (iH f) x l).mem_iff.1 a;obtain rfl |a:=zI.1 this;rcases i:iH f z y with _|_;rfl;have:=h.trans y z y d e d g i;rw[h.irrefl y d]at this;cases this;exact b.1 z a
  |false=>simp only[zD];rw[xe];refine⟨fun z a=>?_,pairwise_cons.2 b⟩;obtain rfl |a:=zI.1 a;exact g;exact h.ntrans z y x (c z a) d e (b.1 z a) g
def qrv{A:Type}{f:A->A->V Int}{S}(h:Kr f S):∀l,(∀y∈l,S y)->eZ (iH f) (gC (iH f) l)
 |[],_=>by simp[gC,eZ]
 |x::l,a=>qt6 h x (a x aZ) (fun y b=>a y<|by simp[(QE (iH f) l).mem_iff.1 b]) (qrv h l fun y b=>a y<|by simp[b])
def qml{A:Type}{f S}(h:Kr f S):∀{a b:X A},(∀y∈a,S y)->eZ (iH f) a->eZ (iH f) b->a.Perm b->a=b
 |[],b,_,_,_,c=>by rw[c.nil_eq]
 |x::a,[],_,_,_,c=>by have:=c.length_eq;simp at this
 |x::a,y::b,j,g,i,c=>by
  unfold eZ at g i;rw[xe]at g i;have l:x=y:=by have e:x∈y::b:=c.mem_iff.1 aZ;have d:y∈x::a:=c.mem_iff.2 aZ;obtain e |e:=zI.1 e;exact e;obtain d |d:=zI.1 d;exact d.symm;exact h.S8 x y (j x aZ) (j y<|by simp[d]) (i.1 x e) (g.1 y d)
  subst l;rw[qml h (fun z k=>j z<|by simp[k]) g.2 i.2<|Perm.cons_inv c]
def Kr.swo{f S}(h:Kr f S){B}(e:B->A)(a:∀b,S<|e b):SWO (ltOf fun p q:B=>(f (e p)<|e q).getD 0):=
 ⟨fun x=>h.irrefl _<|a x,fun x y z=>h.trans _ _ _ (a x) (a y)<|a z,fun x y z=>h.ntrans _ _ _ (a x) (a y)<|a z⟩
def z9k(P:Ua)(f g:FuncId)(k:Nat):Prop:=∀(c:Type)[Inhabited c](b:c->X Value)(h:c->c->Int),(∀x,(b x).length=k)->(∀x,∀v∈b x,v.oneCell'=true)->SWO (ltOf h)->
 ∀(j:Jg Value)(a off cap:Nat)(d:Jg c)(w:Ep),CmpLays P g j b k h a off d.size w->HoldsK b k w a off d->a<w.heap.size->d.size<4611686018427387904->
  Calls P f #[.slice (some ⟨a,off,none⟩) d.size cap,.func (.func g) #[] j] w fun e m=>e=.returned (.tuple #[])/\∃i n l,PermIn 0 d.size d i/\SortedIn (ltOf h) 0 d.size i/\m=sortWorldK b k w a off n i l
def b7.AX{P g args vs cargs z}(h:Kt P g args z){x:Cx}(d:jV x)(b:bD x args vs){m:Nm}(a:oU m x.s.nx vs cargs){w:Ep}(c:gZ m (CX x.s) w):
  Calls P g cargs.toArray w fun e i=>e=.returned (.int .i64 z)/\∃q f,i=grow (w.drewN q) f:=h vs cargs x d b m a w c
def b7.rA{P:Ua}{f g}{encU:A->X U}{k}(hk:∀a,(encU a).length=k)(IA:0<k)(L7:∀a,I8 (encU a)=true){cs:X U}{f1:A->A->V Int}(hs:z9k P f g k)
  (ds:X A) (hO:Kr f1 (· ∈ds)) (hcmp:∀a b r,f1 a b=some r->Kt P g (.agg (encU a):: .agg (encU b)::cs) r)
  {Y:Sg} {K st:Nat} {e:TypeId} (cB:ds≠[]) (aT:ds.length<4611686018427387904) (hg:gt Y.h K=some (.vec ((ds.map encU).flatten) e k st)):
  b7 P f [.vl K st 0 ds.length,.fn (.func g) [] cs] Y (fun u Y'=>u=.a7 []/\Y'=⟨ug Y.h K (.vec (((gC (iH f1) ds).map encU).flatten) e k st),Y.nx⟩):=fun F x vs m w cargs hx hh fW he eC cM=>by
 subst hx;obtain⟨v0,pb,rfl,h0,he⟩:=he.inv;obtain⟨v1,vs1,rfl,h1,he⟩:=he.inv;have:=he.K4;subst this;simp[aF]at h0 h1;obtain⟨va,vb,rfl,_,hva,hvbP,hvb⟩:=h1;have hva':va=[]:=by cases va with
  |nil=>rfl|cons=>simp at hva
 subst hva';have hvE:bD x cs vb:=⟨hvbP,hvb⟩;have hvr:∀m',aP x.s.nx m m'->aL m' vb=aL m vb:=fun m' ha=>by have h1:=cM m' ha;have h2:=cM m (aP.refl _ _);rw[<-h2]at h1;simp[aL,H3,wG,List.cons.injEq,Value.func.injEq,Array.mk.injEq,cO,dG]at h1;exact h1.2
 have⟨_,hK,h0⟩:=h0;have⟨l,e',sz,hb,v8⟩:=(h0 _ hg).2 rfl;cases hb;have⟨_,hBk⟩:=hh.ok K _ hg;have⟨_,_,hB⟩:=hBk;have jc:(ds.map encU).flatten≠[]:=fun hn=>by obtain _|⟨a,ds⟩:=ds;exact cB rfl;simp only[zQ,YP,append_eq_nil_iff]at hn;have:=hk a;rw[hn.1]at this;simp at this;omega
 obtain⟨hn,_⟩|⟨i,l',kJ,I7,hE⟩:=hB;exact absurd hn jc;rw[kJ]at v8;simp only[N7]at v8;obtain⟨hbad,_⟩|rfl:=v8;omega;have XA:=eC m (aP.refl _ _);have LC:=hh.bd i _ I7;obtain⟨pre,rest,pG,pB,jN⟩:=(XA.ok i _ I7:BR m i _ e w (k+2));have wY:=cM.at;simp only[aL,H3,wG]at wY;subst wY;have hblk:m.I5 i<w.heap.size:=XA.size I7;have Ie:∀m',aP x.s.nx m m'->aL m' l'=aL m l':=fun m' ha=>by
  obtain⟨a1,a2,a3⟩:=ha i LC;obtain⟨pre',J6,DQ,hpre',_⟩:=((eC m' ha).ok i _ I7:BR m' i _ e w (k+2));rw[a1,pG]at DQ;simp only[zA,Obj.cells.injEq,cO]at DQ;have h1:=congrArg Array.toList DQ;simp only[zT]at h1;have hl:pre.length=pre'.length:=by omega
  have h2:=append_inj_right h1 hl;exact(append_inj_left h2 (by simp[nE])).symm
 obtain⟨ps,wj,wh⟩:=qx6 hk ds l' (fun a h=>h) hE Ie;have yE:ps.length=ds.length:=by have h:=congrArg List.length wj;simpa using h
 have hpne:ps≠[]:=fun h=>by rw[h]at yE;exact cB (length_eq_zero_iff.1 yE.symm)
 let p0:El encU k x m ds:=ps.head hpne
 letI:Inhabited (El encU k x m ds):=⟨p0⟩
 let enc:El encU k x m ds->X Value:=fun p=>aL m p.sv
 let cg:El encU k x m ds->El encU k x m ds->Int:=fun p q=>(f1 p.a q.a).getD 0
 have OS:∀p,(enc p).length=k:=fun p=>by simp only[enc,nE,yA,p.len]
 have AG:∀p,∀v∈enc p,v.oneCell'=true:=fun p v hv=>by
  simp only[enc,nE,fA]at hv;obtain⟨v',hv',rfl⟩:=hv;obtain⟨j,hj⟩:=Zc hv';have j0:j<(encU p.a).length:=by rw[p.rel.2];exact(zG.1 hj).1
  obtain⟨v2,h1,h2⟩:=p.rel.get (lq j0);rw[hj]at h1;cases h1;exact zcn ((NX _).1 (L7 p.a) _ (jh j0)) h2
 have y8:aL m l'=(ps.map enc).flatten:=by rw[<-wh];exact z1x (aP.refl _ _) ps
 rw[y8]at pG;have Hh:HoldsK enc k w (m.I5 i) (m.sh i+0*k) ps.toArray:=z2p OS IA pG af;have xf:CmpLays P g (aL m vb).toArray enc k cg (m.I5 i) (m.sh i+0*k) ps.toArray.size w:=fun n os dk hdk p q=>by
  obtain⟨z,hz⟩:=hO.some p.a q.a p.mem q.mem;have hcz:cg p q=z:=by simp[cg,hz]
  rw[hcz];have i8:=b7.AX (hcmp p.a q.a z hz) hh (vs:=.agg ⟨p.sv⟩:: .agg ⟨q.sv⟩::vb) (cargs:=.agg (enc p).toArray :: .agg (enc q).toArray::aL m vb) (m:=m)
   (bD.cons (by simp only[aF];exact⟨_,rfl,p.rel.1,p.rel.2,L7 _⟩) (bD.cons (by simp only[aF];exact⟨_,rfl,q.rel.1,q.rel.2,L7 _⟩) hvE))
   (fun m' ha=>by simp only[aL,H3,wG,enc,p.H3 m' ha,q.H3 m' ha,hvr m' ha])
   (w:=sortWorldK enc k w (m.I5 i) (m.sh i+0*k) n dk os) (fun m' ha=>by
    have nP:aP x.s.nx m m':=ha;have AS:=eC m' nP;refine⟨fun j b hj=>?_,fun j j' b c hj vW cB ho=>?_,fun j b hj=>?_⟩;rw[O3]at hj;obtain⟨hj,l2,e2,rfl⟩:=VB hj;refine(AS.ok j _ hj).world ?_;have cB:m'.I5 j≠m.I5 i:=fun hc=>by
     have pF:i≠j:=fun h=>by subst h;rw[I7]at hj;cases hj
     have:=AS.inj i j _ _ I7 hj pF rfl;rw[(nP i LC).1]at this;exact this hc.symm
    have fN:=AS.size hj;unfold sortWorldK putRowK putRow mapBlock;simp only[Sort.grow];rw[qcK (by simpa[Sort.ahead]using fN)];simp only[A!,Sort.ahead];rw[hF (WV cB)];rw[O3]at hj;obtain⟨_,l2,e2,rfl⟩:=VB hj;simp[Rx.gQ]at ho;rw[O3]at hj;exact hh.bd j b (VB hj).1)
  simpa using i8
 have hc:=hs (El encU k x m ds) enc cg OS AG (hO.swo (fun p:El encU k x m ds=>p.a) fun p=>p.mem) (aL m vb).toArray (m.I5 i) (m.sh i+0*k) (dV m i (dC+0)) ps.toArray w xf Hh hblk (by simpa[yE]using aT);simp only[HB,yE]at hc;refine(show Calls P f _ w _ from hc).mono ?_;rintro e1 w' ⟨rfl,d',n,os,ER,S7,rfl⟩;obtain⟨BZ,rfl⟩:∃BZ:X (El encU k x m ds),d'=BZ.toArray:=⟨d'.toList,by simp⟩;have Gf:BZ.length=ps.length:=by have:=ER.1;simpa using this
 have S6:BZ.map (fun p=>p.a)=gC (iH f1) ds:=by
  have hp:BZ.Perm ps:=by
   have h3:=ER.2.2;have e1:(BZ.toArray.extract 0 ds.length).toList=BZ:=by simp[<-yE,<-Gf]
   have e2:(ps.toArray.extract 0 ds.length).toList=ps:=by simp[<-yE]
   rwa [e1,e2]at h3
  refine qml hO (fun y hy=>?_) ?_ (qrv hO ds fun y hy=>hy) (((hp.map _).trans (Perm.of_eq wj)).trans (QE _ ds).symm);obtain⟨p,_,rfl⟩:=mem_map.1 hy;exact p.mem;unfold eZ;rw[qcL];intro a b ha hb SU;simp only[yA]at ha hb;have:=S7 a b (qq _) SU af;simpa[ha,hb,cg,ltOf,iH]using this
 have tQ:((BZ.map enc).flatten).length=((ps.map enc).flatten).length:=by rw[ad OS,ad OS,Gf]
 have hll2:((BZ.map fun p=>p.sv).flatten).length=l'.length:=by have h1:∀qs:X (El encU k x m ds),((qs.map fun p=>p.sv).flatten).length=qs.length*k:=fun qs=>ad (enc:=fun p:El encU k x m ds=>p.sv) (fun p=>p.len) qs;rw[h1,Gf,<-h1,wh]
 have eL:(putRowK enc k (Sort.ahead w n) (m.I5 i) (m.sh i+0*k) BZ.toArray).heap[m.I5 i]? = some (.cells (pre++(BZ.map enc).flatten++rest).toArray e (0,0)):=by unfold putRowK putRow mapBlock;rw[qxa OS IA];simp only[A!,It,Sort.ahead,pG,zM,onCells];rw[show m.sh i+0*k=pre.length by omega,qtr _ _ _ _ tQ]
 have rD:bS m x.s w m ⟨up x.s.h i (.inl ((BZ.map fun p=>p.sv).flatten,e,k+2)),x.s.nx⟩ (putRowK enc k (Sort.ahead w n) (m.I5 i) (m.sh i+0*k) BZ.toArray):=by refine bS.write eC I7 rfl (fun j hj=>?_) (by simp[putRowK,putRow,mapBlock,Sort.ahead]) rfl rfl rfl (il _ _) fun m' ha=>?_;unfold putRowK putRow mapBlock;simp only[A!,Sort.ahead];rw[hF (WV hj)];have⟨a1,a2,a3⟩:=ha i LC;refine⟨pre,rest,?_,by rw[a2];exact pB,?_⟩;rw[a1,z1x ha];exact eL;rw[hll2,a3];exact jN
 have lZ:=Ux (c:=.inl ((BZ.map fun p=>p.sv).flatten,e,k+2)) (bK:=.vec (((gC (iH f1) ds).map encU).flatten) e k st) hh hg kJ I7 rfl (by rintro l e sz st h;cases h;exact⟨_,rfl⟩) fun y h1 h2 hm=>⟨qy3 L7 _,IA,.inr ⟨i,_,h1,h2,by rw[<-S6];exact hm.ke.E (Qm BZ).K3 (Qm BZ)⟩⟩;refine⟨_,m,.a7 [],.tuple #[],.tuple #[],rfl,⟨rfl,rfl⟩,rD.trans (z6s rD.fits os),fun m' _=>by simp[H3,wG,aL],lZ.h,lZ.fr F fW,by simp[aF,cJ],lZ.mo.ke,zF _⟩
def qkz{A:Type}{eq:A->A->FK}{f:A->A->V Int}{a c}(h:sb eq f a=some c):a.length<=1000000/\Bp eq f a=true/\c=gC (iH f) a:=by unfold sb at h;rcases b:(ble a.length 1000000&&Bp eq f a)with _|_;rw[b]at h;cases h;rw[b]at h;rw[eR,yv]at b;exact⟨b.1,b.2,(Option.some.inj h).symm⟩
end Go.Vx
