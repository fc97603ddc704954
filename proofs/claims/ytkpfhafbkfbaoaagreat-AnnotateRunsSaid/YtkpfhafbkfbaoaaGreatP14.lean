/-
  Texts of the walk: VxV SrtZ A0z A2z PlA A3z MpI A4z MpC MpD MpE MpF.
-/
import Derived.Shelf.SlSortCmp.WholeK
import Derived.Test.YtkpfhafbkfbaoaaGreatP13
section
namespace Go.Vx
open Go Go.Rx Go.Proofs Go.Sort
set_option linter.unusedVariables false
theorem EvU.of_same {P:Program} {f:FuncId} {us:List U} {vs:List Value} {u:U} {cv:Value} (hv:toVL us=some vs) (hr:∀ m,renL m vs=vs) (hu:toV u=some cv) (hru:∀ m,ren m cv=cv) (h:∀ w,Calls P f vs.toArray w fun e w'=>e = .returned cv∧w'=w) (σ:Sg):EvU P f us σ (fun u' σ'=>u'=u∧σ'=σ):=fun F x ws m w cargs hx hh hfr he hfit hargs=>by
 have:=(qab us vs hv x ws).1 he
 subst this
 have hca:cargs=ws:=by rw [← hargs.at,hr]
 subst hca
 refine (h w).mono ?_
 rintro e w' ⟨rfl,rfl⟩
 exact ⟨x,m,u,cv,cv,rfl,⟨rfl,hx⟩,Adv.refl hfit,fun m' _=>hru m',hh,hfr,(q6h u cv hu x cv).2 rfl,Ke.refl _ _,Nat.le_refl _⟩
theorem EvU.view0 {P:Program} {f:FuncId} {args args':List U} {σ:Sg} (h:EvU P f args ⟨[],0⟩ (fun u' _=>u' = .tup []∧Bel 0 u')) (ha:BelL 0 args) {σ1:Sg} (hg:Gh 0 args' σ args σ1):EvU P f args' σ (fun u' σ'=>u' = .tup []∧σ'=σ):=fun F x vs m w cargs hx hh hfr he hfit hargs=>by
 obtain ⟨y1,a1,a2,a3,a4,a5,a6⟩:=hg F x vs hx hh hfr he
 have hadv1:=a1 m w hfit
 have hadv2:=Adv.less hadv1.fits (less_onlyI y1.s)
 have hmo:Mo 0 y1 (cx (onlyI y1.s)):=⟨fun k hk=>by omega,fun i row e hl=>by show lk (onlyI y1.s).h i=_; rw [q78,hl]; rfl⟩
 have hno:∀ b,¬ Owns m (onlyI y1.s) b:=fun b ⟨i,c,hc,ho,_⟩=>by
  rw [q78] at hc
  obtain ⟨_,l,e,rfl⟩:=q7s hc
  simp [Own] at ho
 refine (h (fun _ _=>False) (cx (onlyI y1.s)) vs m w cargs rfl ⟨fun k b hb=>by simp [cx,gt] at hb,fun k k' b b' i hb=>by simp [cx,gt] at hb,fun i b hb=>?_⟩ (fun _ _ hF=>hF.elim) (hmo.ke.E ha a5) hadv2.fits (hargs.ext (Agree.refl _ _) (Nat.le_trans hadv1.nx hadv2.nx))).mono ?_
 ·have hb':lk (onlyI y1.s).h i=some b:=hb
  rw [q78] at hb'
  exact a3.bd i b (q7s hb').1
 rintro e w₂ ⟨y2,m₂,u',v',cv,rfl,⟨rfl,_⟩,hadv,hrel,_,_,hru,_,_⟩
 simp only [Rel] at hru
 obtain ⟨q,rfl,_,hq⟩:=hru
 have:q=[]:=List.eq_nil_of_length_eq_zero (by simpa using hq.symm)
 subst this
 have hcv:cv = .tuple ⟨[]⟩:=by rw [← hrel.at]; simp [ren,renL]
 subst hcv
 have hsame:∀ b,b<w.heap.size→w₂.heap[b]? = w.heap[b]?:=fun b hlt=>hadv.same b hlt (hno b)
 refine ⟨x,m,.tup [],.tuple ⟨[]⟩,.tuple ⟨[]⟩,rfl,⟨rfl,hx⟩,⟨Agree.refl _ _,Nat.le_refl _,fun m' hm'=>?_,fun b h=>.inl h,fun b hlt _=>hsame b hlt,hadv.size,hadv.os,hadv.tape,hadv.output,hadv.drawn⟩,fun m' _=>by simp [ren,renL],hh,hfr,by simp only [Rel]; exact ⟨[],rfl,by simp [RelP],rfl⟩,Ke.refl _ _,Nat.le_refl _⟩
 have hfm:=hfit m' hm'
 exact ⟨fun i b hb=>(hfm.ok i b hb).world (hsame _ (hfm.size hb)),hfm.inj,hfm.bd⟩
def insB {α:Type} (lt:α→α→Bool) (x:α):List α→List α
 | []=>[x]
 | y::l=>cond (lt y x) (y::insB lt x l) (x::y::l)
def srt {α:Type} (lt:α→α→Bool):List α→List α
 | []=>[]
 | x::l=>insB lt x (srt lt l)
theorem qhh {α:Type} (lt:α→α→Bool) (x:α):∀ l,(insB lt x l).Perm (x::l)
 | []=>.refl _
 | y::l=>by
  simp only [insB]
  cases lt y x with
  | true=>exact ((qhh lt x l).cons y).trans (.swap _ _ _)
  | false=>exact .refl _
theorem qaa {α:Type} (lt:α→α→Bool):∀ l,(srt lt l).Perm l
 | []=>.refl _
 | x::l=>(qhh lt x _).trans ((qaa lt l).cons x)
def Asc {α:Type} (lt:α→α→Bool) (l:List α):Prop:=l.Pairwise (fun x y=>lt y x=false)
theorem insB_asc {α:Type} {lt:α→α→Bool} (h:SWO lt) (x:α):∀ {l},Asc lt l→Asc lt (insB lt x l)
 | [],_=>by simp [insB,Asc]
 | y::l,ha=>by
  simp only [insB]
  unfold Asc at ha ⊢
  rw [List.pairwise_cons] at ha
  cases hy:lt y x with
  | true =>
   simp only [cond_true]
   rw [List.pairwise_cons]
   refine ⟨fun z hz=>?_,insB_asc h x ha.2⟩
   have:=(qhh lt x l).mem_iff.1 hz
   rcases List.mem_cons.1 this with rfl | hz
   ·cases hzy:lt z y with
    | false=>rfl
    | true=>have:=h.trans y z y hy hzy; rw [h.irrefl] at this; cases this
   ·exact ha.1 z hz
  | false =>
   simp only [cond_false]
   rw [List.pairwise_cons]
   refine ⟨fun z hz=>?_,List.pairwise_cons.2 ha⟩
   rcases List.mem_cons.1 hz with rfl | hz
   ·exact hy
   ·exact h.ntrans z y x (ha.1 z hz) hy
theorem srt_asc {α:Type} {lt:α→α→Bool} (h:SWO lt):∀ l,Asc lt (srt lt l)
 | []=>by simp [srt,Asc]
 | x::l=>insB_asc h x (srt_asc h l)
theorem qez {α:Type} {lt:α→α→Bool} (hanti:∀ x y,lt x y=false→lt y x=false→x=y):∀ {a b:List α},Asc lt a→Asc lt b→a.Perm b→a=b
 | [],b,_,_,hp=>by rw [hp.nil_eq]
 | x::a,[],_,_,hp=>by have:=hp.length_eq; simp at this
 | x::a,y::b,ha,hb,hp=>by
  unfold Asc at ha hb
  have ha':=ha
  have hb':=hb
  rw [List.pairwise_cons] at ha hb
  have hxy:x=y:=by
   have h1:x∈y::b:=hp.mem_iff.1 (by simp)
   have h2:y∈x::a:=hp.mem_iff.2 (by simp)
   rcases List.mem_cons.1 h1 with h1 | h1
   ·exact h1
   ·rcases List.mem_cons.1 h2 with h2 | h2
    ·exact h2.symm
    ·exact hanti x y (hb.1 x h1) (ha.1 y h2)
  subst hxy
  rw [qez hanti ha.2 hb.2 (List.Perm.cons_inv hp)]
theorem srt_of {α:Type} [Inhabited α] {lt:α→α→Bool} (h:SWO lt) (hanti:∀ x y,lt x y=false→lt y x=false→x=y) {ds ds':List α} (hp:PermIn 0 ds.toArray.size ds.toArray ds'.toArray) (hs:SortedIn lt 0 ds.toArray.size ds'.toArray):ds'=srt lt ds:=by
 obtain ⟨h1,_,h3⟩:=hp
 simp only [List.size_toArray] at h1 h3 hs
 have hp:ds'.Perm ds:=by
  have e1:(ds'.toArray.extract 0 ds.length).toList=ds':=by simp [← h1]
  have e2:(ds.toArray.extract 0 ds.length).toList=ds:=by simp
  rwa [e1,e2] at h3
 refine qez hanti ?_ (srt_asc h ds) (hp.trans (qaa lt ds).symm)
 unfold Asc
 rw [List.pairwise_iff_getElem]
 intro i j hi hj hij
 have:=hs i j (Nat.zero_le _) hij (by omega)
 simpa [hi,hj] using this
theorem EvU.srtT {α:Type} [Inhabited α] {P:Program} {f g:FuncId} {enc:α→List Value} {encU:α→List U} {k:Nat} (hk:∀ x,(enc x).length=k) (hk0:0<k) (henc:∀ x,toVL (encU x)=some (enc x)) (hok:∀ x,okL (encU x)=true) (hren:∀ m x,renL m (enc x)=enc x)
  {cf:α→α→Int} (hO:SWO (ltOf cf)) (hanti:∀ x y,ltOf cf x y=false→ltOf cf y x=false→x=y)
  (hs:∀ (blk off cap:Nat) (d:Array α) (w:World),HoldsK enc k w blk off d→blk<w.heap.size→d.size<4611686018427387904 →
   Calls P f #[.slice (some ⟨blk,off,none⟩) d.size cap,.func (.func g) #[] #[]] w fun e w'=>e = .returned (.tuple #[])∧∃ d' n os,PermIn 0 d.size d d'∧SortedIn (ltOf cf) 0 d.size d'∧w'=sortWorldK enc k w blk off n d' os)
  {σ:Sg} {K st:Nat} {e:TypeId} (ds:List α) (hne:ds≠[]) (hlen:ds.length<4611686018427387904) (hg:gt σ.h K=some (.vec ((ds.map encU).flatten) e k st)) :
  EvU P f [.vl K st 0 ds.length,.fn (.func g) [] []] σ (fun u σ'=>u = .tup []∧σ'=⟨ug σ.h K (.vec (((srt (ltOf cf) ds).map encU).flatten) e k st),σ.nx⟩):=by
 have h:=EvU.sort (P:=P) (f:=f) (g:=g) hk hk0 henc hok hren (R:=fun d d'=>PermIn 0 d.size d d'∧SortedIn (ltOf cf) 0 d.size d') (fun blk off cap d w h1 h2 h3=>(hs blk off cap d w h1 h2 h3).mono fun e w' ⟨he,d',n,os,hp,hsrt,hw⟩=>⟨he,d',n,os,⟨hp,hsrt⟩,hp.1,hw⟩) (σ:=σ) (K:=K) (st:=st) (e:=e) ds hne hlen hg
 refine h.mono ?_
 rintro u σ' ⟨rfl,ds',⟨hp,hsrt⟩,_,rfl⟩
 exact ⟨rfl,by rw [srt_of hO hanti hp hsrt]⟩
end Go.Vx
end
section
namespace Go.Proofs
open Go
set_option maxRecDepth 100000
def Tryz.sortP_ren:Shelf.Ren where
 f:=fun x=>match x with
  | 6=>83
  | 15=>48
  | 14=>97
  | 28=>76
  | 29=>77
  | 20=>100
  | 21=>101
  | 22=>102
  | 23=>103
  | 24=>104
  | 25=>105
  | 26=>106
  | 27=>107
  | 46=>109
  | 47=>90
  | 48=>91
  | 49=>110
  | 50=>111
  | 57=>112
  | n=>n
 t:=fun x=>match x with
  | 22=>57
  | 24=>33
  | 25=>107
  | 3=>3
  | 39=>75
  | 0=>0
  | 53=>99
  | 55=>101
  | 4=>4
  | 46=>92
  | 45=>91
  | 50=>96
  | 5=>5
  | 9=>9
  | 66=>112
  | 70=>116
  | 76=>121
  | 77=>122
  | n=>n
 g:=fun x=>x
theorem Tryz.sortP:SlLaysF0.n6 Tryz.prog Tryz.sortP_ren where
 mixed:=rfl
 f6:=⟨Tryz.f83.name,by decide,Tryz.func83.trans rfl⟩
 f14:=⟨Tryz.f97.name,by decide,Tryz.func97.trans rfl⟩
 f15:=Tryz.func48.trans rfl
 f20:=⟨Tryz.f100.name,by decide,Tryz.func100.trans rfl⟩
 f21:=⟨Tryz.f101.name,by decide,Tryz.func101.trans rfl⟩
 f22:=⟨Tryz.f102.name,by decide,Tryz.func102.trans rfl⟩
 f23:=⟨Tryz.f103.name,by decide,Tryz.func103.trans rfl⟩
 f24:=⟨Tryz.f104.name,by decide,Tryz.func104.trans rfl⟩
 f25:=⟨Tryz.f105.name,by decide,Tryz.func105.trans rfl⟩
 f26:=⟨Tryz.f106.name,by decide,Tryz.func106.trans rfl⟩
 f27:=⟨Tryz.f107.name,by decide,Tryz.func107.trans rfl⟩
 f28:=Tryz.func76.trans rfl
 f29:=Tryz.func77.trans rfl
 f46:=⟨Tryz.f109.name,by decide,Tryz.func109.trans rfl⟩
 f47:=Tryz.func90.trans rfl
 f48:=Tryz.func91.trans rfl
 f49:=⟨Tryz.f110.name,by decide,Tryz.func110.trans rfl⟩
 f50:=⟨Tryz.f111.name,by decide,Tryz.func111.trans rfl⟩
 f57:=⟨Tryz.f112.name,by decide,Tryz.func112.trans rfl⟩
 t0:=Tryz.underlying0
 a0:=Tryz.isAgg0
 z0:=Tryz.sizeOf0
 v0:=Tryz.zeroValue0
 t3:=Tryz.underlying3
 a3:=Tryz.isAgg3
 z3:=Tryz.sizeOf3
 v3:=Tryz.zeroValue3
 t4:=Tryz.underlying4
 a4:=Tryz.isAgg4
 z4:=Tryz.sizeOf4
 v4:=Tryz.zeroValue4
 t5:=Tryz.underlying5
 a5:=Tryz.isAgg5
 z5:=Tryz.sizeOf5
 v5:=Tryz.zeroValue5
 t9:=Tryz.underlying9
 a9:=Tryz.isAgg9
 z9:=Tryz.sizeOf9
 v9:=Tryz.zeroValue9
 t22:=Tryz.underlying57
 a22:=Tryz.isAgg57
 z22:=Tryz.sizeOf57
 v22:=Tryz.zeroValue57
 t25:=Tryz.underlying107
 a25:=Tryz.isAgg107
 z25:=Tryz.sizeOf107
 v25:=Tryz.zeroValue107
 t39:=Tryz.underlying75
 a39:=Tryz.isAgg75
 z39:=Tryz.sizeOf75
 v39:=Tryz.zeroValue75
 t45:=Tryz.underlying91
 a45:=Tryz.isAgg91
 z45:=Tryz.sizeOf91
 v45:=Tryz.zeroValue91
 t46:=Tryz.underlying92
 a46:=Tryz.isAgg92
 z46:=Tryz.sizeOf92
 v46:=Tryz.zeroValue92
 t50:=Tryz.underlying96
 a50:=Tryz.isAgg96
 z50:=Tryz.sizeOf96
 v50:=Tryz.zeroValue96
 t53:=Tryz.underlying99
 a53:=Tryz.isAgg99
 z53:=Tryz.sizeOf99
 v53:=Tryz.zeroValue99
 t55:=Tryz.underlying101
 a55:=Tryz.isAgg101
 z55:=Tryz.sizeOf101
 v55:=Tryz.zeroValue101
 t66:=Tryz.underlying112
 a66:=Tryz.isAgg112
 z66:=Tryz.sizeOf112
 v66:=Tryz.zeroValue112
 t70:=Tryz.underlying116
 a70:=Tryz.isAgg116
 z70:=Tryz.sizeOf116
 v70:=Tryz.zeroValue116
 t76:=Tryz.underlying121
 a76:=Tryz.isAgg121
 z76:=Tryz.sizeOf121
 v76:=Tryz.zeroValue121
 t77:=Tryz.underlying122
 a77:=Tryz.isAgg122
 z77:=Tryz.sizeOf122
 v77:=Tryz.zeroValue122
def Tryz.sortD_ren:Shelf.Ren where
 f:=fun x=>match x with
  | 6=>18
  | 15=>48
  | 14=>47
  | 28=>76
  | 29=>77
  | 20=>68
  | 21=>69
  | 22=>70
  | 23=>71
  | 24=>72
  | 25=>73
  | 26=>74
  | 27=>75
  | 46=>89
  | 47=>90
  | 48=>91
  | 49=>92
  | 50=>93
  | 57=>99
  | n=>n
 t:=fun x=>match x with
  | 22=>22
  | 24=>43
  | 25=>49
  | 3=>3
  | 39=>75
  | 0=>0
  | 53=>99
  | 55=>101
  | 4=>4
  | 46=>92
  | 45=>91
  | 50=>96
  | 5=>5
  | 9=>9
  | 66=>112
  | 70=>116
  | 76=>121
  | 77=>122
  | n=>n
 g:=fun x=>x
theorem Tryz.sortD:SlLaysF0.n6 Tryz.prog Tryz.sortD_ren where
 mixed:=rfl
 f6:=⟨Tryz.f18.name,by decide,Tryz.func18.trans rfl⟩
 f14:=⟨Tryz.f47.name,by decide,Tryz.func47.trans rfl⟩
 f15:=Tryz.func48.trans rfl
 f20:=⟨Tryz.f68.name,by decide,Tryz.func68.trans rfl⟩
 f21:=⟨Tryz.f69.name,by decide,Tryz.func69.trans rfl⟩
 f22:=⟨Tryz.f70.name,by decide,Tryz.func70.trans rfl⟩
 f23:=⟨Tryz.f71.name,by decide,Tryz.func71.trans rfl⟩
 f24:=⟨Tryz.f72.name,by decide,Tryz.func72.trans rfl⟩
 f25:=⟨Tryz.f73.name,by decide,Tryz.func73.trans rfl⟩
 f26:=⟨Tryz.f74.name,by decide,Tryz.func74.trans rfl⟩
 f27:=⟨Tryz.f75.name,by decide,Tryz.func75.trans rfl⟩
 f28:=Tryz.func76.trans rfl
 f29:=Tryz.func77.trans rfl
 f46:=⟨Tryz.f89.name,by decide,Tryz.func89.trans rfl⟩
 f47:=Tryz.func90.trans rfl
 f48:=Tryz.func91.trans rfl
 f49:=⟨Tryz.f92.name,by decide,Tryz.func92.trans rfl⟩
 f50:=⟨Tryz.f93.name,by decide,Tryz.func93.trans rfl⟩
 f57:=⟨Tryz.f99.name,by decide,Tryz.func99.trans rfl⟩
 t0:=Tryz.underlying0
 a0:=Tryz.isAgg0
 z0:=Tryz.sizeOf0
 v0:=Tryz.zeroValue0
 t3:=Tryz.underlying3
 a3:=Tryz.isAgg3
 z3:=Tryz.sizeOf3
 v3:=Tryz.zeroValue3
 t4:=Tryz.underlying4
 a4:=Tryz.isAgg4
 z4:=Tryz.sizeOf4
 v4:=Tryz.zeroValue4
 t5:=Tryz.underlying5
 a5:=Tryz.isAgg5
 z5:=Tryz.sizeOf5
 v5:=Tryz.zeroValue5
 t9:=Tryz.underlying9
 a9:=Tryz.isAgg9
 z9:=Tryz.sizeOf9
 v9:=Tryz.zeroValue9
 t22:=Tryz.underlying22
 a22:=Tryz.isAgg22
 z22:=Tryz.sizeOf22
 v22:=Tryz.zeroValue22
 t25:=Tryz.underlying49
 a25:=Tryz.isAgg49
 z25:=Tryz.sizeOf49
 v25:=Tryz.zeroValue49
 t39:=Tryz.underlying75
 a39:=Tryz.isAgg75
 z39:=Tryz.sizeOf75
 v39:=Tryz.zeroValue75
 t45:=Tryz.underlying91
 a45:=Tryz.isAgg91
 z45:=Tryz.sizeOf91
 v45:=Tryz.zeroValue91
 t46:=Tryz.underlying92
 a46:=Tryz.isAgg92
 z46:=Tryz.sizeOf92
 v46:=Tryz.zeroValue92
 t50:=Tryz.underlying96
 a50:=Tryz.isAgg96
 z50:=Tryz.sizeOf96
 v50:=Tryz.zeroValue96
 t53:=Tryz.underlying99
 a53:=Tryz.isAgg99
 z53:=Tryz.sizeOf99
 v53:=Tryz.zeroValue99
 t55:=Tryz.underlying101
 a55:=Tryz.isAgg101
 z55:=Tryz.sizeOf101
 v55:=Tryz.zeroValue101
 t66:=Tryz.underlying112
 a66:=Tryz.isAgg112
 z66:=Tryz.sizeOf112
 v66:=Tryz.zeroValue112
 t70:=Tryz.underlying116
 a70:=Tryz.isAgg116
 z70:=Tryz.sizeOf116
 v70:=Tryz.zeroValue116
 t76:=Tryz.underlying121
 a76:=Tryz.isAgg121
 z76:=Tryz.sizeOf121
 v76:=Tryz.zeroValue121
 t77:=Tryz.underlying122
 a77:=Tryz.isAgg122
 z77:=Tryz.sizeOf122
 v77:=Tryz.zeroValue122
end Go.Proofs
end
section
namespace Go.Proofs
open Go Go.Rx Go.Vx Go.Shelf
def qa1 (n:Nat) (x:Int):Option Int:=cond (x == 0) (some 0) none
theorem qbx (n:Nat) (p1:Int) (r:Int) (hF:qa1 n p1=some r) (σ:Sg):EvU Tryz.prog 48 [.int .u64 p1] σ (fun u σ'=>u = .int .i64 r∧σ'=σ):=by
 unfold qa1 at hF
 cases hp:(p1 == 0) with
 | false=>rw [hp] at hF; cases hF
 | true =>
  rw [hp] at hF
  simp at hF hp
  subst hF; subst hp
  refine EvU.of_same (vs:=[.int .u64 0]) (cv:=.int .i64 0) rfl (fun m=>by simp [renL,ren]) rfl (fun m=>by simp [ren]) (fun w=>?_) σ
  have h:=Any.bits_Len (SlLaysF0.n15.bits (P:=Tryz.prog) (ρ:=Tryz.sortP_ren) { Tryz.sortP with }) 0 w (by omega) (by omega)
  exact h
end Go.Proofs
end
section
namespace Go.Proofs
open Go Go.Rx Go.Vx Tryz
set_option maxRecDepth 10000
set_option linter.unusedSimpArgs false
set_option linter.unusedVariables false
def q2n   : Option (Unit) :=
 some ()
def q2o  : Nat→Option (Unit)
 | 0=>none
 | m1+1 =>
  q2n
def q1x (f3:GProp→GProp→Option (Int)) (n:Nat)  : Option (Unit) :=
 q2o n
theorem q6o (f3:GProp→GProp→Option (Int)) (hf3:∀ (a0:GProp) (a1:GProp) (r:Int),f3 a0 a1=some r→EvU Tryz.prog 84 [.agg (cGProp a0),.agg (cGProp a1)] ⟨[],0⟩ (fun u _=>u = .int .i64 r∧Bel 0 u)) (n:Nat)  (r:Unit) (hF:q1x f3 n  = some r):EvU Tryz.prog 100 [.isl false (List.map cGProp ([]:List GProp)),.int .i64 0,.int .i64 0,.fn (.func 84) [] []] ⟨[],0⟩ (fun u _=>u = .tup []∧Bel 0 u):=by
 unfold q1x at hF
 have hf3S:∀ (a0:GProp) (a1:GProp) (r:Int),f3 a0 a1=some r→∀ σ,EvU Tryz.prog 84 [.agg (cGProp a0),.agg (cGProp a1)] σ (fun u σ'=>u = .int .i64 r∧σ'=σ):=fun a0 a1 r h σ=>EvU.pure1C (hf3 a0 a1 r h) σ
 refine EvU.of_body Tryz.tb_ok fn100 rfl ?_
 refine WPU.ghost (tm':=fr 53 [(0,.isl false (List.map cGProp ([]:List GProp))),(1,.int .i64 0),(2,.int .i64 0),(3,.fn (.func 84) [] [])]) (Gh.start (Nat.le_of_ble_eq_true rfl)) (Nat.zero_le _) ?_
 refine sr ?_
 refine RS.q rfl (q02 rfl rfl (q1q _ _ _) rfl) ?_
 refine sd ?_
 refine WPU.ghost (tm':=fr 53 [(0,.isl false (List.map cGProp ([]:List GProp))),(1,.int .i64 0),(2,.int .i64 0),(3,.fn (.func 84) [] []),(8,.int .i64 1)]) (Gh.sub ⟨rfl,rfl,rfl,rfl,rfl,trivial⟩) (Nat.zero_le _) ?_
 refine WPU.loopK (fun m tm σ=>q2o m=some r∧tm=fr 53 [(0,.isl false (List.map cGProp ([]:List GProp))),(1,.int .i64 0),(2,.int .i64 0),(3,.fn (.func 84) [] []),(8,.int .i64 1)]∧σ=⟨[],0⟩) (fun tm σ=>q2n=some r∧tm=fr 53 []∧σ=⟨[],0⟩) n ⟨hF,rfl,rfl⟩ ?_ ?_
 rintro _ _ ⟨hF,rfl,rfl⟩
 unfold q2n at hF
 refine st ?_
 have hr:=Option.some.inj hF
 subst hr
 exact ⟨.inl rfl,[],q0i,.tup [],⟨[],0⟩,Nat.le_refl _,Gh.toR (.tup []) rfl,rfl,BU.h⟩
 rintro m1 _ _ ⟨hF,rfl,rfl⟩
 rcases m1 with _ | m1
 cases hF
 unfold q2o at hF
 refine sr ?_
 repeat refine RS.mv rfl rfl rfl rfl ?_
 refine RS.q rfl (q02 rfl rfl (q18 _ _ _) rfl) ?_
 refine sd ?_
 refine WPU.condS (t:=false) rfl (fun hc=>by cases hc) (fun _=>?_)
 refine st ?_
 refine WPU.exit ?_
 refine st ?_
 exact ⟨_,_,⟨hF,rfl,rfl⟩,(Nat.zero_le _),Gh.toC (n1:=0) trivial rfl (Nat.zero_le _) (by simp)⟩
theorem q6g (f3:GProp→GProp→Option (Int)) (hf3:∀ (a0:GProp) (a1:GProp) (r:Int),f3 a0 a1=some r→EvU Tryz.prog 84 [.agg (cGProp a0),.agg (cGProp a1)] ⟨[],0⟩ (fun u _=>u = .int .i64 r∧Bel 0 u)) (n:Nat)  (r:Unit) (hF:q1x f3 n  = some r) (σ:Sg):EvU Tryz.prog 100 [.isl false (List.map cGProp ([]:List GProp)),.int .i64 0,.int .i64 0,.fn (.func 84) [] []] σ (fun u σ'=>u = .tup []∧σ'=σ) :=
 EvU.pure1C (q6o f3 hf3 n  r hF) σ
def q3a (f4:GProp→GProp→Option (Int)) (n:Nat):Nat→Option (Unit)
 | 0=>none
 | m1+1 =>
  bindO (q1x f4 n) fun r2 =>
  some ()
def q2t (f4:GProp→GProp→Option (Int)) (n:Nat) (p1:Int):Option (Unit) :=
 q3a f4 n n
theorem q8k (f4:GProp→GProp→Option (Int)) (hf4:∀ (a0:GProp) (a1:GProp) (r:Int),f4 a0 a1=some r→EvU Tryz.prog 84 [.agg (cGProp a0),.agg (cGProp a1)] ⟨[],0⟩ (fun u _=>u = .int .i64 r∧Bel 0 u)) (n:Nat) (p1:Int) (r:Unit) (hF:q2t f4 n p1=some r):EvU Tryz.prog 97 [.isl false (List.map cGProp ([]:List GProp)),.int .i64 0,.int .i64 0,.int .i64 p1,.fn (.func 84) [] []] ⟨[],0⟩ (fun u _=>u = .tup []∧Bel 0 u):=by
 unfold q2t at hF
 have hf4S:∀ (a0:GProp) (a1:GProp) (r:Int),f4 a0 a1=some r→∀ σ,EvU Tryz.prog 84 [.agg (cGProp a0),.agg (cGProp a1)] σ (fun u σ'=>u = .int .i64 r∧σ'=σ):=fun a0 a1 r h σ=>EvU.pure1C (hf4 a0 a1 r h) σ
 refine EvU.of_body Tryz.tb_ok fn97 rfl ?_
 refine WPU.ghost (tm':=fr 148 [(0,.isl false (List.map cGProp ([]:List GProp))),(1,.int .i64 0),(2,.int .i64 0),(3,.int .i64 p1),(4,.fn (.func 84) [] [])]) (Gh.start (Nat.le_of_ble_eq_true rfl)) (Nat.zero_le _) ?_
 refine sr ?_
 refine se ?_
 refine sd ?_
 refine WPU.ghost (tm':=fr 148 [(0,.isl false (List.map cGProp ([]:List GProp))),(1,.int .i64 0),(2,.int .i64 0),(3,.int .i64 p1),(4,.fn (.func 84) [] []),(10,.bool true),(11,.bool true)]) (Gh.sub ⟨rfl,rfl,rfl,rfl,rfl,rfl,rfl,trivial⟩) (Nat.zero_le _) ?_
 refine WPU.loopK (fun m tm σ=>q3a f4 n m=some r∧tm=fr 148 [(0,.isl false (List.map cGProp ([]:List GProp))),(1,.int .i64 0),(2,.int .i64 0),(3,.int .i64 p1),(4,.fn (.func 84) [] []),(10,.bool true),(11,.bool true)]∧σ=⟨[],0⟩) (fun _ _=>False) n ⟨hF,rfl,rfl⟩ ?_ ?_
 rintro _ _ h; exact h.elim
 rintro m1 _ _ ⟨hF,rfl,rfl⟩
 rcases m1 with _ | m1
 cases hF
 unfold q3a at hF
 refine st ?_
 refine WPU.block ?_
 refine sr ?_
 repeat refine RS.mv rfl rfl rfl rfl ?_
 refine RS.q rfl (q02 rfl rfl (q8z _ _ _) rfl) ?_
 refine se ?_
 refine RS.q rfl (q02 rfl rfl (qfr _ _ _) rfl) ?_
 refine sd ?_
 refine WPU.condS (t:=true) rfl (fun _=>?_) (fun hc=>by cases hc)
 refine st ?_
 obtain ⟨r2,h3,hF⟩:=q00 hF
 refine sr ?_
 repeat refine RS.mv rfl rfl rfl rfl ?_
 refine RS.call (u:=.tup []) (args:=[.isl false (List.map cGProp ([]:List GProp)),.int .i64 0,.int .i64 0,.fn (.func 84) [] []]) rfl (q03 rfl rfl fn100 hb100 rfl rfl) (q6g f4 hf4 n  r2 h3 _) rfl rfl ?_
 refine sd ?_
 refine WPU.ret ?_
 refine st ?_
 have hr:=Option.some.inj hF
 subst hr
 exact ⟨.inr rfl,[],q0i,.tup [],⟨[],0⟩,Nat.le_refl _,Gh.toR (.tup []) rfl,rfl,BU.h⟩
theorem q84 (f4:GProp→GProp→Option (Int)) (hf4:∀ (a0:GProp) (a1:GProp) (r:Int),f4 a0 a1=some r→EvU Tryz.prog 84 [.agg (cGProp a0),.agg (cGProp a1)] ⟨[],0⟩ (fun u _=>u = .int .i64 r∧Bel 0 u)) (n:Nat) (p1:Int) (r:Unit) (hF:q2t f4 n p1=some r) (σ:Sg):EvU Tryz.prog 97 [.isl false (List.map cGProp ([]:List GProp)),.int .i64 0,.int .i64 0,.int .i64 p1,.fn (.func 84) [] []] σ (fun u σ'=>u = .tup []∧σ'=σ) :=
 EvU.pure1C (q8k f4 hf4 n p1 r hF) σ
def q7k (f1:GProp→GProp→Option (Int)) (n:Nat)  : Option (Unit) :=
 bindO (qa1 n 0) fun r1 =>
 bindO (q2t f1 n r1) fun r3 =>
 some ()
theorem qa8 (f1:GProp→GProp→Option (Int)) (hf1:∀ (a0:GProp) (a1:GProp) (r:Int),f1 a0 a1=some r→EvU Tryz.prog 84 [.agg (cGProp a0),.agg (cGProp a1)] ⟨[],0⟩ (fun u _=>u = .int .i64 r∧Bel 0 u)) (n:Nat)  (r:Unit) (hF:q7k f1 n  = some r):EvU Tryz.prog 83 [.isl false (List.map cGProp ([]:List GProp)),.fn (.func 84) [] []] ⟨[],0⟩ (fun u _=>u = .tup []∧Bel 0 u):=by
 unfold q7k at hF
 have hf1S:∀ (a0:GProp) (a1:GProp) (r:Int),f1 a0 a1=some r→∀ σ,EvU Tryz.prog 84 [.agg (cGProp a0),.agg (cGProp a1)] σ (fun u σ'=>u = .int .i64 r∧σ'=σ):=fun a0 a1 r h σ=>EvU.pure1C (hf1 a0 a1 r h) σ
 refine EvU.of_body Tryz.tb_ok fn83 rfl ?_
 refine WPU.ghost (tm':=fr 14 [(0,.isl false (List.map cGProp ([]:List GProp))),(1,.fn (.func 84) [] [])]) (Gh.start (Nat.le_of_ble_eq_true rfl)) (Nat.zero_le _) ?_
 refine sr ?_
 refine RS.q rfl (q0k rfl rfl rfl (q0g cGProp und57)) ?_
 refine sd ?_
 obtain ⟨r1,h2,hF⟩:=q00 hF
 obtain ⟨r3,h4,hF⟩:=q00 hF
 refine sr ?_
 repeat refine RS.mv rfl rfl rfl rfl ?_
 refine RS.q (u:=.int .u64 0) rfl (op_conv rfl rfl (by simp only [convX,und3,und75]<;>rfl) rfl) ?_
 refine RS.call (u:=.int .i64 r1) (args:=[.int .u64 0]) rfl (q03 rfl rfl fn48 hb48 rfl rfl) (qbx n 0 r1 h2 _) rfl rfl (RS.mv rfl rfl rfl rfl (RS.call (u:=.tup []) (args:=[.isl false (List.map cGProp ([]:List GProp)),.int .i64 0,.int .i64 0,.int .i64 r1,.fn (.func 84) [] []]) rfl (q03 rfl rfl fn97 hb97 rfl rfl) (q84 f1 hf1 n r1 r3 h4 _) rfl rfl ?_))
 refine sd ?_
 have hr:=Option.some.inj hF
 subst hr
 exact ⟨.inl rfl,[],q0i,.tup [],⟨[],0⟩,Nat.le_refl _,Gh.toR (.tup []) rfl,rfl,BU.h⟩
def q2c   : Option (Unit) :=
 some ()
def q2d  : Nat→Option (Unit)
 | 0=>none
 | m1+1 =>
  q2c
def q1o (f3:GDeriv→GDeriv→Option (Int)) (n:Nat)  : Option (Unit) :=
 q2d n
theorem q5y (f3:GDeriv→GDeriv→Option (Int)) (hf3:∀ (a0:GDeriv) (a1:GDeriv) (r:Int),f3 a0 a1=some r→EvU Tryz.prog 19 [.agg (xGDeriv a0),.agg (xGDeriv a1)] ⟨[],0⟩ (fun u _=>u = .int .i64 r∧Bel 0 u)) (n:Nat)  (r:Unit) (hF:q1o f3 n  = some r):EvU Tryz.prog 68 [.isl false (List.map cGDeriv ([]:List GDeriv)),.int .i64 0,.int .i64 0,.fn (.func 19) [] []] ⟨[],0⟩ (fun u _=>u = .tup []∧Bel 0 u):=by
 unfold q1o at hF
 have hf3S:∀ (a0:GDeriv) (a1:GDeriv) (r:Int),f3 a0 a1=some r→∀ σ,EvU Tryz.prog 19 [.agg (xGDeriv a0),.agg (xGDeriv a1)] σ (fun u σ'=>u = .int .i64 r∧σ'=σ):=fun a0 a1 r h σ=>EvU.pure1C (hf3 a0 a1 r h) σ
 refine EvU.of_body Tryz.tb_ok fn68 rfl ?_
 refine WPU.ghost (tm':=fr 53 [(0,.isl false (List.map cGDeriv ([]:List GDeriv))),(1,.int .i64 0),(2,.int .i64 0),(3,.fn (.func 19) [] [])]) (Gh.start (Nat.le_of_ble_eq_true rfl)) (Nat.zero_le _) ?_
 refine sr ?_
 refine RS.q rfl (q02 rfl rfl (q1q _ _ _) rfl) ?_
 refine sd ?_
 refine WPU.ghost (tm':=fr 53 [(0,.isl false (List.map cGDeriv ([]:List GDeriv))),(1,.int .i64 0),(2,.int .i64 0),(3,.fn (.func 19) [] []),(8,.int .i64 1)]) (Gh.sub ⟨rfl,rfl,rfl,rfl,rfl,trivial⟩) (Nat.zero_le _) ?_
 refine WPU.loopK (fun m tm σ=>q2d m=some r∧tm=fr 53 [(0,.isl false (List.map cGDeriv ([]:List GDeriv))),(1,.int .i64 0),(2,.int .i64 0),(3,.fn (.func 19) [] []),(8,.int .i64 1)]∧σ=⟨[],0⟩) (fun tm σ=>q2c=some r∧tm=fr 53 []∧σ=⟨[],0⟩) n ⟨hF,rfl,rfl⟩ ?_ ?_
 rintro _ _ ⟨hF,rfl,rfl⟩
 unfold q2c at hF
 refine st ?_
 have hr:=Option.some.inj hF
 subst hr
 exact ⟨.inl rfl,[],q0i,.tup [],⟨[],0⟩,Nat.le_refl _,Gh.toR (.tup []) rfl,rfl,BU.h⟩
 rintro m1 _ _ ⟨hF,rfl,rfl⟩
 rcases m1 with _ | m1
 cases hF
 unfold q2d at hF
 refine sr ?_
 repeat refine RS.mv rfl rfl rfl rfl ?_
 refine RS.q rfl (q02 rfl rfl (q18 _ _ _) rfl) ?_
 refine sd ?_
 refine WPU.condS (t:=false) rfl (fun hc=>by cases hc) (fun _=>?_)
 refine st ?_
 refine WPU.exit ?_
 refine st ?_
 exact ⟨_,_,⟨hF,rfl,rfl⟩,(Nat.zero_le _),Gh.toC (n1:=0) trivial rfl (Nat.zero_le _) (by simp)⟩
theorem q5r (f3:GDeriv→GDeriv→Option (Int)) (hf3:∀ (a0:GDeriv) (a1:GDeriv) (r:Int),f3 a0 a1=some r→EvU Tryz.prog 19 [.agg (xGDeriv a0),.agg (xGDeriv a1)] ⟨[],0⟩ (fun u _=>u = .int .i64 r∧Bel 0 u)) (n:Nat)  (r:Unit) (hF:q1o f3 n  = some r) (σ:Sg):EvU Tryz.prog 68 [.isl false (List.map cGDeriv ([]:List GDeriv)),.int .i64 0,.int .i64 0,.fn (.func 19) [] []] σ (fun u σ'=>u = .tup []∧σ'=σ) :=
 EvU.pure1C (q5y f3 hf3 n  r hF) σ
def q2z (f4:GDeriv→GDeriv→Option (Int)) (n:Nat):Nat→Option (Unit)
 | 0=>none
 | m1+1 =>
  bindO (q1o f4 n) fun r2 =>
  some ()
def q2i (f4:GDeriv→GDeriv→Option (Int)) (n:Nat) (p1:Int):Option (Unit) :=
 q2z f4 n n
theorem q7p (f4:GDeriv→GDeriv→Option (Int)) (hf4:∀ (a0:GDeriv) (a1:GDeriv) (r:Int),f4 a0 a1=some r→EvU Tryz.prog 19 [.agg (xGDeriv a0),.agg (xGDeriv a1)] ⟨[],0⟩ (fun u _=>u = .int .i64 r∧Bel 0 u)) (n:Nat) (p1:Int) (r:Unit) (hF:q2i f4 n p1=some r):EvU Tryz.prog 47 [.isl false (List.map cGDeriv ([]:List GDeriv)),.int .i64 0,.int .i64 0,.int .i64 p1,.fn (.func 19) [] []] ⟨[],0⟩ (fun u _=>u = .tup []∧Bel 0 u):=by
 unfold q2i at hF
 have hf4S:∀ (a0:GDeriv) (a1:GDeriv) (r:Int),f4 a0 a1=some r→∀ σ,EvU Tryz.prog 19 [.agg (xGDeriv a0),.agg (xGDeriv a1)] σ (fun u σ'=>u = .int .i64 r∧σ'=σ):=fun a0 a1 r h σ=>EvU.pure1C (hf4 a0 a1 r h) σ
 refine EvU.of_body Tryz.tb_ok fn47 rfl ?_
 refine WPU.ghost (tm':=fr 148 [(0,.isl false (List.map cGDeriv ([]:List GDeriv))),(1,.int .i64 0),(2,.int .i64 0),(3,.int .i64 p1),(4,.fn (.func 19) [] [])]) (Gh.start (Nat.le_of_ble_eq_true rfl)) (Nat.zero_le _) ?_
 refine sr ?_
 refine se ?_
 refine sd ?_
 refine WPU.ghost (tm':=fr 148 [(0,.isl false (List.map cGDeriv ([]:List GDeriv))),(1,.int .i64 0),(2,.int .i64 0),(3,.int .i64 p1),(4,.fn (.func 19) [] []),(10,.bool true),(11,.bool true)]) (Gh.sub ⟨rfl,rfl,rfl,rfl,rfl,rfl,rfl,trivial⟩) (Nat.zero_le _) ?_
 refine WPU.loopK (fun m tm σ=>q2z f4 n m=some r∧tm=fr 148 [(0,.isl false (List.map cGDeriv ([]:List GDeriv))),(1,.int .i64 0),(2,.int .i64 0),(3,.int .i64 p1),(4,.fn (.func 19) [] []),(10,.bool true),(11,.bool true)]∧σ=⟨[],0⟩) (fun _ _=>False) n ⟨hF,rfl,rfl⟩ ?_ ?_
 rintro _ _ h; exact h.elim
 rintro m1 _ _ ⟨hF,rfl,rfl⟩
 rcases m1 with _ | m1
 cases hF
 unfold q2z at hF
 refine st ?_
 refine WPU.block ?_
 refine sr ?_
 repeat refine RS.mv rfl rfl rfl rfl ?_
 refine RS.q rfl (q02 rfl rfl (q8z _ _ _) rfl) ?_
 refine se ?_
 refine RS.q rfl (q02 rfl rfl (qfr _ _ _) rfl) ?_
 refine sd ?_
 refine WPU.condS (t:=true) rfl (fun _=>?_) (fun hc=>by cases hc)
 refine st ?_
 obtain ⟨r2,h3,hF⟩:=q00 hF
 refine sr ?_
 repeat refine RS.mv rfl rfl rfl rfl ?_
 refine RS.call (u:=.tup []) (args:=[.isl false (List.map cGDeriv ([]:List GDeriv)),.int .i64 0,.int .i64 0,.fn (.func 19) [] []]) rfl (q03 rfl rfl fn68 hb68 rfl rfl) (q5r f4 hf4 n  r2 h3 _) rfl rfl ?_
 refine sd ?_
 refine WPU.ret ?_
 refine st ?_
 have hr:=Option.some.inj hF
 subst hr
 exact ⟨.inr rfl,[],q0i,.tup [],⟨[],0⟩,Nat.le_refl _,Gh.toR (.tup []) rfl,rfl,BU.h⟩
theorem q7h (f4:GDeriv→GDeriv→Option (Int)) (hf4:∀ (a0:GDeriv) (a1:GDeriv) (r:Int),f4 a0 a1=some r→EvU Tryz.prog 19 [.agg (xGDeriv a0),.agg (xGDeriv a1)] ⟨[],0⟩ (fun u _=>u = .int .i64 r∧Bel 0 u)) (n:Nat) (p1:Int) (r:Unit) (hF:q2i f4 n p1=some r) (σ:Sg):EvU Tryz.prog 47 [.isl false (List.map cGDeriv ([]:List GDeriv)),.int .i64 0,.int .i64 0,.int .i64 p1,.fn (.func 19) [] []] σ (fun u σ'=>u = .tup []∧σ'=σ) :=
 EvU.pure1C (q7p f4 hf4 n p1 r hF) σ
def q66 (f1:GDeriv→GDeriv→Option (Int)) (n:Nat)  : Option (Unit) :=
 bindO (qa1 n 0) fun r1 =>
 bindO (q2i f1 n r1) fun r3 =>
 some ()
theorem q9e (f1:GDeriv→GDeriv→Option (Int)) (hf1:∀ (a0:GDeriv) (a1:GDeriv) (r:Int),f1 a0 a1=some r→EvU Tryz.prog 19 [.agg (xGDeriv a0),.agg (xGDeriv a1)] ⟨[],0⟩ (fun u _=>u = .int .i64 r∧Bel 0 u)) (n:Nat)  (r:Unit) (hF:q66 f1 n  = some r):EvU Tryz.prog 18 [.isl false (List.map cGDeriv ([]:List GDeriv)),.fn (.func 19) [] []] ⟨[],0⟩ (fun u _=>u = .tup []∧Bel 0 u):=by
 unfold q66 at hF
 have hf1S:∀ (a0:GDeriv) (a1:GDeriv) (r:Int),f1 a0 a1=some r→∀ σ,EvU Tryz.prog 19 [.agg (xGDeriv a0),.agg (xGDeriv a1)] σ (fun u σ'=>u = .int .i64 r∧σ'=σ):=fun a0 a1 r h σ=>EvU.pure1C (hf1 a0 a1 r h) σ
 refine EvU.of_body Tryz.tb_ok fn18 rfl ?_
 refine WPU.ghost (tm':=fr 14 [(0,.isl false (List.map cGDeriv ([]:List GDeriv))),(1,.fn (.func 19) [] [])]) (Gh.start (Nat.le_of_ble_eq_true rfl)) (Nat.zero_le _) ?_
 refine sr ?_
 refine RS.q rfl (q0k rfl rfl rfl (q0g cGDeriv und22)) ?_
 refine sd ?_
 obtain ⟨r1,h2,hF⟩:=q00 hF
 obtain ⟨r3,h4,hF⟩:=q00 hF
 refine sr ?_
 repeat refine RS.mv rfl rfl rfl rfl ?_
 refine RS.q (u:=.int .u64 0) rfl (op_conv rfl rfl (by simp only [convX,und3,und75]<;>rfl) rfl) ?_
 refine RS.call (u:=.int .i64 r1) (args:=[.int .u64 0]) rfl (q03 rfl rfl fn48 hb48 rfl rfl) (qbx n 0 r1 h2 _) rfl rfl (RS.mv rfl rfl rfl rfl (RS.call (u:=.tup []) (args:=[.isl false (List.map cGDeriv ([]:List GDeriv)),.int .i64 0,.int .i64 0,.int .i64 r1,.fn (.func 19) [] []]) rfl (q03 rfl rfl fn47 hb47 rfl rfl) (q7h f1 hf1 n r1 r3 h4 _) rfl rfl ?_))
 refine sd ?_
 have hr:=Option.some.inj hF
 subst hr
 exact ⟨.inl rfl,[],q0i,.tup [],⟨[],0⟩,Nat.le_refl _,Gh.toR (.tup []) rfl,rfl,BU.h⟩
end Go.Proofs
end
section
namespace Go.Proofs
open Go Go.Rx Go.Vx Go.Shelf Go.Sort
set_option linter.unusedVariables false
theorem qas:∀ a:List UInt8,bytesEq a a=true
 | []=>rfl
 | x::a=>by simp [bytesEq,qas a]
theorem q93:∀ a b:List UInt8,bytesEq a b=true↔a=b
 | [],[]=>by simp [bytesEq]
 | [],_::_=>by simp [bytesEq]
 | _::_,[]=>by simp [bytesEq]
 | x::a,y::b=>by
  have h:(x.toNat=y.toNat)↔x=y:=UInt8.toNat_inj
  simp only [bytesEq,beq_eq]
  by_cases e:x=y
  ·subst e; simp [q93 a b]
  ·simp [e,mt h.1 e]
theorem blt_iff (a b:Nat):Nat.blt a b=true↔a<b:=by
 unfold Nat.blt
 rw [Nat.ble_eq]; exact Iff.rfl
theorem blt_iff' (a b:Nat):Nat.blt a b=decide (a<b):=by
 rw [Bool.eq_iff_iff,blt_iff]; simp
theorem q69:∀ a:List UInt8,bytesLt a a=false
 | []=>rfl
 | x::a=>by simp [bytesLt,blt_iff',q69 a]
theorem qbi:∀ a b c:List UInt8,bytesLt a b=true→bytesLt b c=true→bytesLt a c=true
 | _,[],_,h,_=>by simp [bytesLt] at h
 | _,_::_,[],_,h=>by simp [bytesLt] at h
 | [],_::_,_::_,_,_=>by simp [bytesLt]
 | x::a,y::b,z::c,h1,h2=>by
  simp only [bytesLt,blt_iff',beq_eq] at *
  by_cases h:x.toNat<y.toNat
  ·by_cases h':y.toNat<z.toNat
   ·have:x.toNat<z.toNat:=by omega
    simp [this]
   ·simp only [h',decide_false,cond_false] at h2
    by_cases e:y.toNat=z.toNat
    ·have:x.toNat<z.toNat:=by omega
     simp [this]
    ·simp [e] at h2
  ·simp only [h,decide_false,cond_false] at h1
   by_cases e:x.toNat=y.toNat
   ·simp only [e,decide_true,cond_true] at h1
    by_cases h':y.toNat<z.toNat
    ·simp [e,h']
    ·simp only [h',decide_false,cond_false] at h2
     by_cases e':y.toNat=z.toNat
     ·simp only [e',decide_true,cond_true] at h2
      have:=qbi a b c h1 h2
      simp [e,e',this]
     ·simp [e'] at h2
   ·simp [e] at h1
theorem q74:∀ a b:List UInt8,bytesLt a b=false→bytesLt b a=false→a=b
 | [],[],_,_=>rfl
 | [],_::_,h,_=>by simp [bytesLt] at h
 | _::_,[],_,h=>by simp [bytesLt] at h
 | x::a,y::b,h1,h2=>by
  simp only [bytesLt,blt_iff',beq_eq] at *
  by_cases h:x.toNat<y.toNat
  ·simp [h] at h1
  ·by_cases h':y.toNat<x.toNat
   ·simp [h'] at h2
   ·have e:x.toNat=y.toNat:=by omega
    simp only [e,Nat.lt_irrefl,decide_false,cond_false,decide_true,cond_true] at h1 h2
    rw [q74 a b h1 h2,UInt8.toNat_inj.1 e]
theorem q08 {α β:Type} (a:α) (k:α→Option β):bindO (some a) k=k a:=rfl
theorem wr {z:Int} (h1 : -9223372036854775808≤z) (h2:z≤9223372036854775807):IntKind.i64.wrap z=z:=qgs (by omega) (by omega)
theorem wr1 {i len:Nat} (h:i<len) (hl:len≤9223372036854775807):IntKind.i64.wrap ((i:Int)+1)=((i+1:Nat):Int):=by rw [wr (by omega) (by omega)]; simp
theorem wrn {z:Int} {k:Nat} (h:z=k) (h2:k≤9223372036854775807):IntKind.i64.wrap z=(k:Int):=by subst h; exact wr (by omega) (by omega)
theorem q25 {α:Type} {l:List α} {i:Nat} (h:i<l.length):∃ x,l[i]? = some x∧x∈l:=⟨l[i],by simp [h],by simp⟩
theorem qia {α:Type} {l:List α} {i:Nat} {x:α} (h:l[i]? = some x):l.take (i+1)=l.take i++[x]:=by rw [List.take_add_one,h]; rfl
theorem drop_cons' {α:Type} {l:List α} {i:Nat} {x:α} (h:l[i]? = some x):l.drop i=x::l.drop (i+1):=by
 have hlt:i<l.length:=(List.getElem?_eq_some_iff.1 h).1
 rw [List.drop_eq_getElem_cons hlt]
 congr 1
 rw [List.getElem?_eq_getElem hlt] at h
 exact Option.some.inj h
theorem qbp {α:Type} [SizeOf α]:∀ l:List α,l.length<SizeOf.sizeOf l
 | []=>by simp
 | x::l=>by have:=qbp l; simp; omega
theorem dlt {i n:Nat} (h:i<n):decide ((i:Int)<(n:Int))=true:=by simp; omega
theorem dnlt {i n:Nat} (h:¬ i<n):decide ((i:Int)<(n:Int))=false:=by simp; omega
theorem drop_nil' {α:Type} {l:List α} {i:Nat} (h:¬ i<l.length):l.drop i=[]:=List.drop_eq_nil_of_le (by omega)
structure Cmp {α:Type} (c:α→α→Int):Prop where
 val:∀ x y,c x y = -1∨c x y=0∨c x y=1
 anti:∀ x y,c y x = - c x y
 trans:∀ x y z,c x y≤0→c y z≤0→c x z≤0
theorem Cmp.self {α:Type} {c:α→α→Int} (h:Cmp c) (x:α):c x x=0:=by have:=h.anti x x; omega
theorem Cmp.congr {α:Type} {c:α→α→Int} (h:Cmp c) {x y:α} (hxy:c x y=0) (z:α):c x z=c y z:=by
 have h1:=h.val x z
 have h2:=h.val y z
 have a1:=h.anti x y
 have a2:=h.anti x z
 have a3:=h.anti y z
 have t1:=h.trans x y z
 have t2:=h.trans y x z
 have t3:=h.trans z x y
 have t4:=h.trans z y x
 omega
theorem Cmp.congr' {α:Type} {c:α→α→Int} (h:Cmp c) {x y:α} (hxy:c x y=0) (z:α):c z x=c z y:=by
 have h1:=h.congr hxy z
 have a2:=h.anti x z
 have a3:=h.anti y z
 omega
theorem Cmp.lt_of {α:Type} {c:α→α→Int} (h:Cmp c) {x y z:α} (h1:c x y<0) (h2:c y z≤0):c x z<0:=by
 have t1:=h.trans x y z (by omega) h2
 rcases Int.lt_or_eq_of_le t1 with h3 | h3
 ·exact h3
 ·have:=h.congr h3 y
  have a3:=h.anti y z
  omega
def lexC {α:Type} (c d:α→α→Int) (x y:α):Int:=if c x y≠0 then c x y else d x y
theorem Cmp.lex {α:Type} {c d:α→α→Int} (hc:Cmp c) (hd:Cmp d):Cmp (lexC c d) where
 val x y:=by unfold lexC; split; exact hc.val x y; exact hd.val x y
 anti x y:=by
  unfold lexC
  have a1:=hc.anti x y
  have a2:=hd.anti x y
  by_cases h:c x y=0
  ·have:c y x=0:=by omega
   simp [h,this,a2]
  ·have:¬ c y x=0:=by omega
   simp [h,this,a1]
 trans x y z h1 h2:=by
  unfold lexC at *
  by_cases h:c x y=0
  ·have e:=hc.congr h z
   simp only [h,ne_eq,not_true,if_false] at h1
   rw [e]
   by_cases h':c y z=0
   ·simp only [h',ne_eq,not_true,if_false] at h2 ⊢
    exact hd.trans x y z h1 h2
   ·simp only [h',ne_eq,not_false_eq_true,if_true] at h2 ⊢
    exact h2
  ·simp only [h,ne_eq,not_false_eq_true,if_true] at h1
   have h1':c x y<0:=by omega
   by_cases h':c y z=0
   ·have e:=hc.congr' h' x
    rw [← e]
    simp only [h,ne_eq,not_false_eq_true,if_true]
    exact h1
   ·simp only [h',ne_eq,not_false_eq_true,if_true] at h2
    have:=hc.lt_of h1' h2
    have hne:¬ c x z=0:=by omega
    simp only [hne,ne_eq,not_false_eq_true,if_true]
    omega
theorem lexC_zero {α:Type} {c d:α→α→Int} {x y:α}:lexC c d x y=0↔c x y=0∧d x y=0:=by
 unfold lexC
 by_cases h:c x y=0<;>simp [h]
theorem Cmp.pull {α β:Type} {c:α→α→Int} (h:Cmp c) (f:β→α):Cmp (fun x y=>c (f x) (f y)):=⟨fun x y=>h.val _ _,fun x y=>h.anti _ _,fun x y z=>h.trans _ _ _⟩
def cmpI (a b:Int):Int:=if a<b then -1 else if b<a then 1 else 0
def cmpS (a b:List UInt8):Int:=if bytesLt a b then -1 else if bytesLt b a then 1 else 0
theorem qb7 {a b : Int} : cmpI a b = 0 ↔ a = b := by unfold cmpI; split; · omega
                                                     split <;> omega
theorem qe0 {a b:List UInt8}:cmpS a b=0↔a=b:=by
 unfold cmpS
 cases h:bytesLt a b with
 | true=>simp; intro e; subst e; rw [q69] at h; cases h
 | false =>
  cases h':bytesLt b a with
  | true=>simp; intro e; subst e; rw [q69] at h'; cases h'
  | false=>simp; exact q74 a b h h'
theorem qf4 : Cmp cmpI where
  val x y := by unfold cmpI; split; · simp
                split <;> simp
  anti x y := by unfold cmpI; split <;> split <;> (try split) <;> omega
  trans x y z := by
    unfold cmpI
    intro h1 h2
    split at h1 <;> split at h2 <;> (try split at h1) <;> (try split at h2) <;> (try split) <;> (try split) <;> omega
theorem qdw {a b:List UInt8} (h:bytesLt a b=true):bytesLt b a=false:=by
 cases h':bytesLt b a with
 | false=>rfl
 | true=>have:=qbi a b a h h'; rw [q69] at this; cases this
theorem cmpS_ok : Cmp cmpS where
  val x y := by unfold cmpS; split; · simp
                split <;> simp
  anti x y := by
    unfold cmpS
    cases h : bytesLt x y with
    | true => rw [qdw h]; rfl
    | false => cases h' : bytesLt y x <;> simp
  trans x y z h1 h2 := by
    have k : ∀ a b, cmpS a b ≤ 0 ↔ bytesLt b a = false := fun a b => by
      unfold cmpS
      cases h : bytesLt a b with
      | true => rw [qdw h]; simp
      | false => cases h' : bytesLt b a <;> simp
    rw [k] at *
    cases h : bytesLt z x with
    | false => rfl
    | true =>
      cases hxy : bytesLt x y with
      | true => have := qbi z x y h hxy; rw [h2] at this; cases this
      | false => have := q74 x y hxy h1; subst this; rw [h2] at h; cases h
theorem ltOf_iff {α:Type} (c:α→α→Int) (x y:α):ltOf c x y=true↔c x y<0:=by simp [ltOf]
theorem Cmp.swo {α:Type} {c:α→α→Int} (h:Cmp c):SWO (ltOf c) where
 irrefl x:=by have:=h.self x; simp [ltOf,this]
 trans x y z h1 h2:=by rw [ltOf_iff] at *; exact h.lt_of h1 (by omega)
 ntrans x y z h1 h2:=by
  have e:∀ a b,ltOf c a b=false↔c b a≤0:=fun a b=>by have:=h.anti a b; simp [ltOf]; omega
  rw [e] at *
  exact h.trans z y x h2 h1
theorem Cmp.tot {α:Type} {c:α→α→Int} (h:Cmp c) (hz:∀ x y,c x y=0→x=y) (x y:α) (h1:ltOf c x y=false) (h2:ltOf c y x=false):x=y:=by
 have:=h.anti x y
 simp [ltOf] at h1 h2
 exact hz x y (by omega)
section
variable {α:Type} {c:α→α→Int}
def Up (c:α→α→Int) (l:List α):Prop:=l.Pairwise (fun x y=>c x y<0)
theorem Up.ext (hc:Cmp c) (hz:∀ x y,c x y=0→x=y):∀ {a b:List α},Up c a→Up c b→(∀ x,x∈a↔x∈b)→a=b
 | [],[],_,_,_=>rfl
 | [],y::b,_,_,h=>by have:=(h y).2 (by simp); cases this
 | x::a,[],_,_,h=>by have:=(h x).1 (by simp); cases this
 | x::a,y::b,ha,hb,h=>by
  have pa:=List.pairwise_cons.1 ha
  have pb:=List.pairwise_cons.1 hb
  have hxy:x=y:=by
   rcases List.mem_cons.1 ((h x).1 (by simp)) with e | hx
   ·exact e
   ·rcases List.mem_cons.1 ((h y).2 (by simp)) with e | hy
    ·exact e.symm
    ·have h1:=pb.1 x hx
     have h2:=pa.1 y hy
     have:=hc.anti x y
     omega
  subst hxy
  have nx:∀ l:List α,(∀ y∈l,c x y<0)→x ∉ l:=fun l hl hm=>by have:=hl x hm; rw [hc.self] at this; omega
  congr 1
  refine Up.ext hc hz pa.2 pb.2 fun y=>?_
  have hy:=h y
  simp only [List.mem_cons] at hy
  by_cases e:y=x
  ·subst e; simp [nx a pa.1,nx b pb.1]
  ·simpa [e] using hy
def insU (c:α→α→Int) (p:α):List α→List α
 | []=>[p]
 | x::l=>if c p x<0 then p::x::l else if c p x=0 then x::l else x::insU c p l
theorem qgf (hz:∀ x y,c x y=0→x=y) (p:α):∀ (l:List α) (y:α),y∈insU c p l↔y=p∨y∈l
 | [],y=>by simp [insU]
 | x::l,y=>by
  simp only [insU]
  split
  ·simp
  ·split
   ·rename_i h; have:=hz p x h; subst this; simp
   ·simp only [List.mem_cons,qgf hz p l y]
    constructor
    ·rintro (h | h | h)<;>simp [h]
    ·rintro (h | h | h)<;>simp [h]
theorem insU_up (hc:Cmp c) (hz:∀ x y,c x y=0→x=y) (p:α):∀ {l:List α},Up c l→Up c (insU c p l)
 | [],_=>by simp [insU,Up]
 | x::l,h=>by
  have hp:=List.pairwise_cons.1 h
  simp only [insU]
  split
  ·rename_i h1
   refine List.pairwise_cons.2 ⟨fun y hy=>?_,h⟩
   rcases List.mem_cons.1 hy with rfl | hy
   ·exact h1
   ·exact hc.lt_of h1 (by have:=hp.1 y hy; omega)
  ·split
   ·exact h
   ·rename_i h1 h2
    refine List.pairwise_cons.2 ⟨fun y hy=>?_,insU_up hc hz p hp.2⟩
    rcases (qgf hz p l y).1 hy with rfl | hy
    ·have:=hc.anti y x; omega
    ·exact hp.1 y hy
theorem qbo (p:α):∀ l:List α,(insU c p l).length≤l.length+1
 | []=>by simp [insU]
 | x::l=>by
  simp only [insU]
  split
  ·simp
  ·split
   ·simp
   ·have:=qbo p l; simp; omega
def dedup (c:α→α→Int):List α→List α
 | []=>[]
 | [x]=>[x]
 | x::y::l=>if c x y=0 then dedup c (y::l) else x::dedup c (y::l)
theorem q6p (hz:∀ x y,c x y=0→x=y):∀ (l:List α) (y:α),y∈dedup c l↔y∈l
 | [],y=>by simp [dedup]
 | [x],y=>by simp [dedup]
 | x::z::l,y=>by
  simp only [dedup]
  have ih:=q6p hz (z::l) y
  split
  ·rename_i h; have:=hz x z h; subst this; rw [ih]; simp
  ·rw [List.mem_cons,ih]; simp [List.mem_cons]
theorem q9y (hc:Cmp c) (hz:∀ x y,c x y=0→x=y):∀ {l:List α},l.Pairwise (fun x y=>c x y≤0)→Up c (dedup c l)
 | [],_=>by simp [dedup,Up]
 | [x],_=>by simp [dedup,Up]
 | x::z::l,h=>by
  have hp:=List.pairwise_cons.1 h
  simp only [dedup]
  split
  ·exact q9y hc hz hp.2
  ·rename_i hne
   refine List.pairwise_cons.2 ⟨fun y hy=>?_,q9y hc hz hp.2⟩
   have hxz:=hp.1 z (by simp)
   rcases List.mem_cons.1 ((q6p hz (z::l) y).1 hy) with rfl | hy
   ·omega
   ·exact hc.lt_of (by omega) ((List.pairwise_cons.1 hp.2).1 y hy)
theorem qh7:∀ l:List α,(dedup c l).length≤l.length
 | []=>by simp [dedup]
 | [x]=>by simp [dedup]
 | x::z::l=>by
  have ih:=qh7 (z::l)
  simp only [dedup]
  split
  ·simp at *; omega
  ·simp at *; omega
theorem srt_le (hc:Cmp c) (l:List α):(srt (ltOf c) l).Pairwise (fun x y=>c x y≤0):=by
 have:=srt_asc hc.swo l
 refine List.Pairwise.imp ?_ this
 intro x y h
 have:=hc.anti x y
 simp [ltOf] at h
 omega
end
end Go.Proofs
end
section
namespace Go.Proofs
open Go Go.Rx Go.Vx Go.Shelf Go.Sort
set_option linter.unusedVariables false
set_option maxRecDepth 10000
theorem cmpInt_eq (n:Nat) (a b:Int):q2v n a b=some (cmpI a b):=by
 unfold cmpI
 simp only [q2v,q75,q08]
 by_cases h:a<b
 ·simp [h]
 ·by_cases h':b<a
  ·simp [h,h']
  ·simp [h,h']
theorem cmpStr_eq (n:Nat) (a b:List UInt8):q3h n a b=some (cmpS a b):=by
 unfold cmpS
 simp only [q3h,q4w,q08,qas]
 cases h:bytesLt a b with
 | true=>simp
 | false =>
  cases h':bytesLt b a with
  | true =>
   have:bytesEq a b=false:=by
    cases he:bytesEq a b with
    | false=>rfl
    | true=>have:=(q93 a b).1 he; subst this; rw [q69] at h'; cases h'
   simp [this]
  | false =>
   have:=q74 a b h h'
   subst this
   simp [qas]
def ccP:GProp→GProp→Int:=lexC (fun x y=>cmpI x.From y.From) (lexC (fun x y=>cmpI x.To y.To) (lexC (fun x y=>cmpI x.Kind y.Kind) (fun x y=>cmpS x.Name y.Name)))
theorem q44:Cmp ccP:=(qf4.pull _).lex ((qf4.pull _).lex ((qf4.pull _).lex (cmpS_ok.pull _)))
theorem qdy {x y:GProp}:ccP x y=0↔x=y:=by
 simp only [ccP,lexC_zero,qb7,qe0]
 cases x; cases y; simp;
 constructor
 ·rintro ⟨h1,h2,h3,h4⟩; exact ⟨h3,h4,h1,h2⟩
 ·rintro ⟨h1,h2,h3,h4⟩; exact ⟨h3,h4,h1,h2⟩
theorem or4_eq (a b c d:Int):q86 5 [a,b,c,d]=some (if a≠0 then a else if b≠0 then b else if c≠0 then c else d):=by
 have w0:IntKind.i64.wrap ((0:Int)+1)=1:=by rw [wr (by omega) (by omega)]; rfl
 have w1:IntKind.i64.wrap ((1:Int)+1)=2:=by rw [wr (by omega) (by omega)]; rfl
 have w2:IntKind.i64.wrap ((2:Int)+1)=3:=by rw [wr (by omega) (by omega)]; rfl
 have w3:IntKind.i64.wrap ((3:Int)+1)=4:=by rw [wr (by omega) (by omega)]; rfl
 have i0:idxO [a,b,c,d] 0=some a:=rfl
 have i1:idxO [a,b,c,d] 1=some b:=rfl
 have i2:idxO [a,b,c,d] 2=some c:=rfl
 have i3:idxO [a,b,c,d] 3=some d:=rfl
 have k0:decide ((0:Int)<(([a,b,c,d]:List Int).length:Int))=true:=by simp
 have k1:decide ((1:Int)<(([a,b,c,d]:List Int).length:Int))=true:=by simp
 have k2:decide ((2:Int)<(([a,b,c,d]:List Int).length:Int))=true:=by simp
 have k3:decide ((3:Int)<(([a,b,c,d]:List Int).length:Int))=true:=by simp
 have k4:decide ((4:Int)<(([a,b,c,d]:List Int).length:Int))=false:=by simp
 simp only [q86,q51,q9x,w0,w1,w2,w3,i0,i1,i2,i3,k0,k1,k2,k3,k4,cond_true,cond_false,q08]
 by_cases ha:a=0
 ·by_cases hb:b=0
  ·by_cases hc:c=0
   ·by_cases hd:d=0
    ·simp [ha,hb,hc,hd]
    ·have:(d != 0)=true:=by simpa using hd
     simp [ha,hb,hc,hd,this]
   ·have:(c != 0)=true:=by simpa using hc
    simp [ha,hb,hc,this]
  ·have:(b != 0)=true:=by simpa using hb
   simp [ha,hb,this]
 ·have:(a != 0)=true:=by simpa using ha
  simp [ha,this]
theorem orL_fuel:∀ (n m:Nat) (l:List Int) (i:Int) (r:Int),n≤m→q51 l n i=some r→q51 l m i=some r
 | 0,m,l,i,r,h,hF=>by cases hF
 | n+1,0,l,i,r,h,hF=>by omega
 | n+1,m+1,l,i,r,h,hF=>by
  unfold q51 at hF ⊢
  cases hc:decide (i<(l.length:Int)) with
  | false=>rw [hc] at hF; exact hF
  | true =>
   rw [hc] at hF
   simp only [cond_true] at hF ⊢
   obtain ⟨x,h1,h2⟩:=q00 hF
   rw [h1,q08]
   cases hx:(x != 0) with
   | true=>rw [hx] at h2; exact h2
   | false=>rw [hx] at h2; simp only [cond_false] at h2 ⊢; exact orL_fuel n m l _ r (by omega) h2
theorem order_n {n:Nat} (hn:5≤n) (x y:GProp):q88 n x y=some (ccP x y):=by
 have h5:=or4_eq (cmpI x.From y.From) (cmpI x.To y.To) (cmpI x.Kind y.Kind) (cmpS x.Name y.Name)
 have hN:=orL_fuel 5 n _ _ _ hn h5
 simp only [q88,cmpInt_eq,cmpStr_eq,q08,q86,hN]
 simp only [ccP,lexC]
theorem order_eq (x y:GProp):q88 5 x y=some (ccP x y):=order_n (Nat.le_refl _) x y
def srtP (l:List GProp):List GProp:=srt (ltOf ccP) l
theorem qa9 (l:List GProp):(srtP l).length=l.length:=(qaa (ltOf ccP) l).length_eq
def vP (x:GProp):List Value:=[.int .i64 x.Kind,.string ⟨⟨x.Name⟩⟩,.int .i64 x.From,.int .i64 x.To]
theorem srtP_ok (xs:List GProp) (hlen:xs.length<4611686018427387904) (σ:Sg) {K t:Nat} (hK:Nat.blt K σ.nx=true) (hg:gt σ.h K=some (.vec (List.map cGProp xs).flatten 33 4 t)) :
  EvU Tryz.prog 83 [.vl K t 0 xs.length,.fn (.func 84) [] []] σ (fun u σ'=>u = .tup []∧σ'=⟨ug σ.h K (.vec (List.map cGProp (srtP xs)).flatten 33 4 t),σ.nx⟩):=by
 by_cases hne:xs=[]
 ·subst hne
  have h0:=qa8 (fun x y=>some (ccP x y)) (fun a0 a1 r h=>by
    have:=qc6 5 a0 a1 r (by rw [order_eq]; exact h)
    exact this) 1 () rfl
  have h1:=EvU.view0 (args':=[.vl K t 0 ([]:List GProp).length,.fn (.func 84) [] []]) (σ:=σ) h0 (by simp [BelL,Bel,BelR]) (Gh.trans (Gh.fz K (.vec (List.map cGProp ([]:List GProp)).flatten 33 4 t) 4 hg (by simp) rfl rfl) (Gh.eqv (by
    simp only [q0o,q0y,q8i q0b,q3k]) rfl))
  refine h1.mono ?_
  rintro u σ' ⟨rfl,rfl⟩
  refine ⟨rfl,?_⟩
  have:ug σ'.h K (.vec (List.map cGProp (srtP [])).flatten 33 4 t)=σ'.h:=by
   have hu:∀ (h:List (Nat×B)) (b:B),gt h K=some b→ug h K b=h:=by
    intro h
    induction h with
    | nil=>intro b hb; simp [gt] at hb
    | cons p h ih =>
     obtain ⟨j,c⟩:=p
     intro b hb
     simp only [gt,ug,beq_eq] at hb ⊢
     by_cases e:j=K
     ·simp [e] at hb; simp [e,hb]
     ·simp only [e,decide_false,cond_false] at hb ⊢; rw [ih b hb]
   exact hu _ _ hg
  rw [this]
 ·have h:=EvU.srtT (P:=Tryz.prog) (f:=83) (g:=84) (enc:=vP) (encU:=cGProp) (k:=4) (fun _=>rfl) (by omega) (fun x=>rfl) (fun x=>rfl) (fun m x=>by simp [vP,renL,ren]) (cf:=ccP) q44.swo (q44.tot fun x y h=>qdy.1 h)
   (fun blk off cap d w h1 h2 h3=>AnyQ.slices_SortFunc Tryz.sortP 4 Tryz.isAgg33 Tryz.sizeOf33 vP (fun _=>rfl) (fun x v hv=>by
     simp only [vP,List.mem_cons,List.not_mem_nil,or_false] at hv
     rcases hv with rfl | rfl | rfl | rfl<;>rfl) ccP q44.swo 84 #[] blk off cap d w (enters_of Tryz.func84 (by kernel_rfl) rfl) (fun m os dk hs x y=>by
     have hg:=EvU.grows (P:=Tryz.prog) (g:=84) (args:=[.agg (cGProp x),.agg (cGProp y)]) (vs:=[.agg (vP x).toArray,.agg (vP y).toArray]) (u:=.int .i64 (ccP x y)) (cv:=.int .i64 (ccP x y)) ((qc6 5 x y (ccP x y) (order_eq x y)).mono fun u s h=>h.1) rfl rfl (fun m=>by simp [renL,ren,vP]) (fun m=>by simp [ren]) (sortWorldK vP 4 w blk off m dk os)
     exact hg) h1 h2 h3) (σ:=σ) (K:=K) (st:=t) (e:=33) xs hne hlen hg
  refine h.mono ?_
  rintro u σ' ⟨rfl,rfl⟩
  exact ⟨rfl,rfl⟩
end Go.Proofs
end
section
namespace Go.Vx
open Go Go.Rx Go.Proofs Go.Sort Go.Shelf
set_option linter.unusedVariables false
set_option linter.unusedSimpArgs false
theorem one_ren {m:Nm} {v:Value} (h:v.oneCell'=true):(ren m v).oneCell'=true:=by
 cases v with
 | agg _=>simp [Value.oneCell'] at h
 | tuple _=>simp [Value.oneCell'] at h
 | pointer o=>cases o<;>rfl
 | slice o _ _=>cases o<;>rfl
 | map o=>cases o<;>rfl
 | chan o=>cases o<;>rfl
 | _=>rfl
theorem one_rel {x:Cx} {m:Nm}:∀ {u:U} {v:Value},okC u=true→Rel x u v→(ren m v).oneCell'=true
 | .junk,v,h,_=>by simp [okC] at h
 | .agg _,v,h,_=>by simp [okC] at h
 | .tup _,v,h,_=>by simp [okC] at h
 | .bool _,v,_,h=>by simp only [Rel] at h; subst h; rfl
 | .int _ _,v,_,h=>by simp only [Rel] at h; subst h; rfl
 | .str _,v,_,h=>by simp only [Rel] at h; subst h; rfl
 | .nilp,v,_,h=>by simp only [Rel] at h; subst h; rfl
 | .nils,v,_,h=>by simp only [Rel] at h; subst h; rfl
 | .nilm,v,_,h=>by simp only [Rel] at h; subst h; rfl
 | .nilf,v,_,h=>by simp only [Rel] at h; subst h; rfl
 | .nili,v,_,h=>by simp only [Rel] at h; subst h; rfl
 | .ptr _ _ _,v,_,h=>by simp only [Rel] at h; exact one_ren h.1
 | .sl _ _ _ _,v,_,h=>by simp only [Rel] at h; exact one_ren h.1
 | .vl _ _ _ _,v,_,h=>by simp only [Rel] at h; exact one_ren h.1
 | .map _,v,_,h=>by simp only [Rel] at h; exact one_ren h.1
 | .iptr _,v,_,h=>by simp only [Rel] at h; obtain ⟨i,off,row,e,rfl,_⟩:=h; rfl
 | .isl _ _,v,_,h=>by
  simp only [Rel] at h
  rcases h with ⟨_,rfl | ⟨r,rfl⟩⟩ | ⟨i,off,c,rfl,_⟩<;>rfl
 | .fn _ _ _,v,_,h=>by simp only [Rel] at h; obtain ⟨va,vb,rfl,_⟩:=h; rfl
section
variable {A:Type} {encU:A→List U} {k:Nat} {x:Cx} {m:Nm}
structure El (encU:A→List U) (k:Nat) (x:Cx) (m:Nm) (ds:List A) where
 a:A
 sv:List Value
 mem:a∈ds
 len:sv.length=k
 rel:RelE x (encU a) sv
 ren:∀ m',Agree x.s.nx m m'→renL m' sv=renL m sv
theorem el_split (hk:∀ a,(encU a).length=k) {ds:List A}:∀ (ds0:List A) (l0:List Value),(∀ a∈ds0,a∈ds)→RelE x (ds0.map encU).flatten l0→(∀ m',Agree x.s.nx m m'→renL m' l0=renL m l0) →
  ∃ ps:List (El encU k x m ds),ps.map (fun p=>p.a)=ds0∧(ps.map (fun p=>p.sv)).flatten=l0
 | [],l0,_,h,_=>by
  have:=h.nil_inv
  subst this
  exact ⟨[],rfl,rfl⟩
 | a::ds0,l0,hm,h,hr=>by
  simp only [List.map_cons,List.flatten_cons] at h
  have ht:=h.take k
  have hd:=h.drop k
  rw [List.take_left' (hk a)] at ht
  rw [List.drop_left' (hk a)] at hd
  have hr':∀ m',Agree x.s.nx m m'→renL m' (l0.take k)=renL m (l0.take k)∧renL m' (l0.drop k)=renL m (l0.drop k):=fun m' ha=>by
   have:=hr m' ha
   simp only [q2x,List.map_take,List.map_drop] at this ⊢
   rw [this]; exact ⟨rfl,rfl⟩
  obtain ⟨ps,h1,h2⟩:=el_split hk ds0 (l0.drop k) (fun b hb=>hm b (by simp [hb])) hd fun m' ha=>(hr' m' ha).2
  have hlen:(l0.take k).length=k:=by rw [← ht.2,hk]
  exact ⟨⟨a,l0.take k,hm a (by simp),hlen,ht,fun m' ha=>(hr' m' ha).1⟩::ps,by simp [h1],by simp [h2]⟩
theorem el_rel {ds:List A}:∀ ps:List (El encU k x m ds),RelE x ((ps.map (fun p=>p.a)).map encU).flatten (ps.map (fun p=>p.sv)).flatten
 | []=>RelE.nil x
 | p::ps=>by simp only [List.map_cons,List.flatten_cons]; exact p.rel.append (el_rel ps)
theorem el_ren {ds:List A} {m':Nm} (ha:Agree x.s.nx m m'):∀ ps:List (El encU k x m ds),renL m' (ps.map (fun p=>p.sv)).flatten=(ps.map (fun p=>renL m p.sv)).flatten
 | []=>by simp [renL]
 | p::ps=>by
  have h1:=el_ren ha ps
  have h2:=p.ren m' ha
  simp only [q2x,List.map_cons,List.flatten_cons,List.map_append] at h1 h2 ⊢
  rw [h1,h2]
end
theorem swo_pull {α β:Type} {cf:β→β→Int} (h:SWO (ltOf cf)) (f:α→β):SWO (ltOf fun x y=>cf (f x) (f y)):=⟨fun x=>h.irrefl (f x),fun x y z=>h.trans (f x) (f y) (f z),fun x y z=>h.ntrans (f x) (f y) (f z)⟩
def SortK (P:Program) (f g:FuncId) (k:Nat):Prop:=∀ (α:Type) [Inhabited α] (enc:α→List Value) (cf:α→α→Int),(∀ x,(enc x).length=k)→(∀ x,∀ v∈enc x,v.oneCell'=true)→SWO (ltOf cf) →
 ∀ (blk off cap:Nat) (d:Array α) (w:World),CmpLays P g #[] enc k cf blk off d.size w→HoldsK enc k w blk off d→blk<w.heap.size→d.size<4611686018427387904 →
  Calls P f #[.slice (some ⟨blk,off,none⟩) d.size cap,.func (.func g) #[] #[]] w fun e w'=>e = .returned (.tuple #[])∧∃ d' n os,PermIn 0 d.size d d'∧SortedIn (ltOf cf) 0 d.size d'∧w'=sortWorldK enc k w blk off n d' os
theorem EvU.cmpI {P:Program} {g:FuncId} {args:List U} {vs cargs:List Value} {kd:IntKind} {z:Int} (h:EvU P g args ⟨[],0⟩ (fun u _=>u = .int kd z)) (hb:BelL 0 args) {x:Cx} (hh:HRel x) (he:RelE x args vs) {m:Nm} (hargs:RelL m x.s.nx vs cargs) {w:World} (hf:FitsS m (onlyI x.s) w) :
  Calls P g cargs.toArray w fun e w'=>e = .returned (.int kd z)∧∃ q os,w'=grow (w.drewN q) os:=by
 have hmo:Mo 0 x (cx (onlyI x.s)):=⟨fun k hk=>by omega,fun i row e hl=>by show lk (onlyI x.s).h i=_; rw [q78,hl]; rfl⟩
 have hno:∀ b,¬ Owns m (onlyI x.s) b:=fun b ⟨i,c,hc,ho,_⟩=>by
  rw [q78] at hc
  obtain ⟨_,l,e,rfl⟩:=q7s hc
  simp [Own] at ho
 refine (h (fun _ _=>False) (cx (onlyI x.s)) vs m w cargs rfl ⟨fun k b hb=>by simp [cx,gt] at hb,fun k k' b b' i hb=>by simp [cx,gt] at hb,fun i b hb=>?_⟩ (fun _ _ hF=>hF.elim) (hmo.ke.E hb he) hf hargs).mono ?_
 ·have hb':lk (onlyI x.s).h i=some b:=hb
  rw [q78] at hb'
  exact hh.bd i b (q7s hb').1
 rintro e w₂ ⟨y2,m₂,u',v',cv,rfl,rfl,hadv,hrel,_,_,hru,_,_⟩
 simp only [Rel] at hru
 subst hru
 have:cv = .int kd z:=by rw [← hrel.at]; simp [ren]
 subst this
 exact ⟨rfl,below_grow (hadv.below fun b=>hno b) hadv.drawn⟩
theorem holdsK_of {α:Type} [Inhabited α] {enc:α→List Value} {k:Nat} (hk:∀ x,(enc x).length=k) (hk0:0<k) {w:World} {b off:Nat} {pre rest:List Value} {e:TypeId} {ps:List α} (hheap:w.heap[b]? = some (.cells (pre++(ps.map enc).flatten++rest).toArray e (0,0))) (hpre:pre.length=off):HoldsK enc k w b off ps.toArray:=by
 unfold HoldsK Holds
 rw [qgd hk hk0]
 intro j hj
 simp only [List.size_toArray] at hj
 refine ⟨?_,?_⟩
 ·simp only [World.cell?,hheap]
  simp only [Option.isSome_none,Bool.false_eq_true,if_false,List.getElem?_toArray,id]
  rw [List.append_assoc,List.getElem?_append_right (by omega),List.getElem?_append_left (by omega)]
  rw [show off+j - pre.length=j by omega,List.getElem?_eq_getElem hj,getElem!_pos _ _ (by simpa using hj)]
  simp
 ·simp [World.frozen?,hheap]
theorem EvU.sortG {A:Type} {P:Program} {f g:FuncId} {encU:A→List U} {k:Nat} (hk:∀ a,(encU a).length=k) (hk0:0<k) (hok:∀ a,okL (encU a)=true) (hbl:∀ a,BelL 0 (encU a)) {cf:A→A→Int} (hO:SWO (ltOf cf)) (hanti:∀ x y,ltOf cf x y=false→ltOf cf y x=false→x=y) (hs:SortK P f g k)
  (ds:List A) (hcmp:∀ a∈ds,∀ b∈ds,EvU P g [.agg (encU a),.agg (encU b)] ⟨[],0⟩ (fun u _=>u = .int .i64 (cf a b)))
  {σ:Sg} {K st:Nat} {e:TypeId} (hne:ds≠[]) (hlen:ds.length<4611686018427387904) (hg:gt σ.h K=some (.vec ((ds.map encU).flatten) e k st)) :
  EvU P f [.vl K st 0 ds.length,.fn (.func g) [] []] σ (fun u σ'=>u = .tup []∧σ'=⟨ug σ.h K (.vec (((srt (ltOf cf) ds).map encU).flatten) e k st),σ.nx⟩):=fun F x vs m w cargs hx hh hfr he hfit hargs=>by
 subst hx
 obtain ⟨v0,vs0,rfl,h0,he⟩:=he.inv
 obtain ⟨v1,vs1,rfl,h1,he⟩:=he.inv
 have:=he.nil_inv
 subst this
 simp only [Rel] at h0 h1
 obtain ⟨va,vb,rfl,_,hva,_,hvb⟩:=h1
 have hva':va=[]:=by cases va with
  | nil=>rfl
  | cons=>simp at hva
 have hvb':vb=[]:=by cases vb with
  | nil=>rfl
  | cons=>simp at hvb
 subst hva'; subst hvb'
 obtain ⟨_,hK,h0⟩:=h0
 obtain ⟨l,e',sz,hb,hvl⟩:=(h0 _ hg).2 rfl
 cases hb
 obtain ⟨_,hBk⟩:=hh.ok K _ hg
 obtain ⟨_,_,hB⟩:=hBk
 have hflat:(ds.map encU).flatten≠[]:=fun hn=>by
  cases ds with
  | nil=>exact hne rfl
  | cons a ds =>
   simp only [List.map_cons,List.flatten_cons,List.append_eq_nil_iff] at hn
   have:=hk a
   rw [hn.1] at this
   simp at this
   omega
 rcases hB with ⟨hn,_⟩ | ⟨i,l',hρ,hlk,hE⟩
 ·exact absurd hn hflat
 rw [hρ] at hvl
 simp only [VlOk] at hvl
 rcases hvl with ⟨hbad,_⟩ | rfl
 ·omega
 have hfit0:=hfit m (Agree.refl _ _)
 have hinx:=hh.bd i _ hlk
 obtain ⟨pre,rest,hheap,hpre,hcap⟩:=(hfit0.ok i _ hlk:RowOk m i _ e w (k+2))
 have hcargs:=hargs.at
 simp only [renL,ren,renA] at hcargs
 subst hcargs
 have hblk:m.blk i<w.heap.size:=hfit0.size hlk
 have hag:∀ m',Agree x.s.nx m m'→renL m' l'=renL m l':=fun m' ha=>by
  obtain ⟨a1,a2,a3⟩:=ha i hinx
  obtain ⟨pre',rest',hheap',hpre',_⟩:=((hfit m' ha).ok i _ hlk:RowOk m' i _ e w (k+2))
  rw [a1,hheap] at hheap'
  simp only [Option.some.injEq,Obj.cells.injEq,and_true] at hheap'
  have h1:=congrArg Array.toList hheap'
  simp only [List.append_assoc] at h1
  have hl:pre.length=pre'.length:=by omega
  have h2:=List.append_inj_right h1 hl
  exact (List.append_inj_left h2 (by simp [q2x])).symm
 obtain ⟨ps,hps1,hps2⟩:=el_split hk ds l' (fun a h=>h) hE hag
 have hpl:ps.length=ds.length:=by have h:=congrArg List.length hps1; simpa using h
 have hpne:ps≠[]:=fun h=>by rw [h] at hpl; exact hne (List.length_eq_zero_iff.1 hpl.symm)
 let p0:El encU k x m ds:=ps.head hpne
 letI:Inhabited (El encU k x m ds):=⟨p0⟩
 let enc:El encU k x m ds→List Value:=fun p=>renL m p.sv
 let cg:El encU k x m ds→El encU k x m ds→Int:=fun p q=>cf p.a q.a
 have hek:∀ p,(enc p).length=k:=fun p=>by simp only [enc,q2x,List.length_map,p.len]
 have hone:∀ p,∀ v∈enc p,v.oneCell'=true:=fun p v hv=>by
  simp only [enc,q2x,List.mem_map] at hv
  obtain ⟨v',hv',rfl⟩:=hv
  obtain ⟨j,hj⟩:=List.getElem?_of_mem hv'
  have hjl:j<(encU p.a).length:=by rw [p.rel.2]; exact (List.getElem?_eq_some_iff.1 hj).1
  obtain ⟨v2,h1,h2⟩:=p.rel.get (List.getElem?_eq_getElem hjl)
  rw [hj] at h1; cases h1
  exact one_rel ((qcb _).1 (hok p.a) _ (List.getElem_mem hjl)) h2
 have hrl:renL m l'=(ps.map enc).flatten:=by rw [← hps2]; exact el_ren (Agree.refl _ _) ps
 rw [hrl] at hheap
 have hholds:HoldsK enc k w (m.blk i) (m.sh i+0*k) ps.toArray:=holdsK_of hek hk0 hheap (by omega)
 have hlays:CmpLays P g #[] enc k cg (m.blk i) (m.sh i+0*k) ps.toArray.size w:=fun n os dk hdk p q=>by
  have hin:=EvU.cmpI (hcmp p.a p.mem q.a q.mem) (by simp only [BelL,Bel]; exact ⟨hbl _,hbl _,trivial⟩) hh (vs:=[.agg ⟨p.sv⟩,.agg ⟨q.sv⟩]) (cargs:=[.agg (enc p).toArray,.agg (enc q).toArray]) (m:=m)
   (RelE.cons (by simp only [Rel]; exact ⟨_,rfl,p.rel.1,p.rel.2,hok _⟩) (RelE.cons (by simp only [Rel]; exact ⟨_,rfl,q.rel.1,q.rel.2,hok _⟩) (RelE.nil x)))
   (fun m' ha=>by simp only [renL,ren,renA,enc,p.ren m' ha,q.ren m' ha])
   (w:=sortWorldK enc k w (m.blk i) (m.sh i+0*k) n dk os) (fun m' ha=>by
    have ha':Agree x.s.nx m m':=ha
    have hf':=hfit m' ha'
    refine ⟨fun j b hj=>?_,fun j j' b c hj hj' hne ho=>?_,fun j b hj=>?_⟩
    ·rw [q78] at hj
     obtain ⟨hj,l2,e2,rfl⟩:=q7s hj
     refine (hf'.ok j _ hj).world ?_
     have hne:m'.blk j≠m.blk i:=fun hc=>by
      have hij:i≠j:=fun h=>by subst h; rw [hlk] at hj; cases hj
      have:=hf'.inj i j _ _ hlk hj hij rfl
      rw [(ha' i hinx).1] at this
      exact this hc.symm
     have hsz:=hf'.size hj
     unfold sortWorldK putRowK putRow mapBlock
     simp only [Sort.grow]
     rw [Array.getElem?_append_left (by simpa [Sort.ahead] using hsz)]
     simp only [Array.getElem?_modify,Sort.ahead]
     rw [if_neg (Ne.symm hne)]
    ·rw [q78] at hj
     obtain ⟨_,l2,e2,rfl⟩:=q7s hj
     simp [Own] at ho
    ·rw [q78] at hj
     exact hh.bd j b (q7s hj).1)
  simpa using hin
 have hc:=hs (El encU k x m ds) enc cg hek hone (swo_pull hO fun p:El encU k x m ds=>p.a) (m.blk i) (m.sh i+0*k) (capOf m i (capBase+0)) ps.toArray w hlays hholds hblk (by simpa [hpl] using hlen)
 simp only [List.size_toArray,hpl] at hc
 refine (show Calls P f _ w _ from hc).mono ?_
 rintro e1 w' ⟨rfl,d',n,os,hperm,hsorted,rfl⟩
 obtain ⟨ps',rfl⟩:∃ ps':List (El encU k x m ds),d'=ps'.toArray:=⟨d'.toList,by simp⟩
 have hsz':ps'.length=ps.length:=by have:=hperm.1; simpa using this
 have hsrt:ps'.map (fun p=>p.a)=srt (ltOf cf) ds:=by
  have hp:ps'.Perm ps:=by
   have h3:=hperm.2.2
   have e1:(ps'.toArray.extract 0 ds.length).toList=ps':=by simp [← hpl,← hsz']
   have e2:(ps.toArray.extract 0 ds.length).toList=ps:=by simp [← hpl]
   rwa [e1,e2] at h3
  refine qez hanti ?_ (srt_asc hO ds) (((hp.map _).trans (List.Perm.of_eq hps1)).trans (qaa _ ds).symm)
  unfold Asc
  rw [List.pairwise_iff_getElem]
  intro a b ha hb hab
  simp only [List.length_map] at ha hb
  have:=hsorted a b (Nat.zero_le _) hab (by omega)
  simpa [ha,hb,cg,ltOf] using this
 have hll:((ps'.map enc).flatten).length=((ps.map enc).flatten).length:=by rw [qaj hek,qaj hek,hsz']
 have hll2:((ps'.map fun p=>p.sv).flatten).length=l'.length:=by
  have h1:∀ qs:List (El encU k x m ds),((qs.map fun p=>p.sv).flatten).length=qs.length*k:=fun qs=>qaj (enc:=fun p:El encU k x m ds=>p.sv) (fun p=>p.len) qs
  rw [h1,hsz',← h1,hps2]
 have hrow:(putRowK enc k (Sort.ahead w n) (m.blk i) (m.sh i+0*k) ps'.toArray).heap[m.blk i]? = some (.cells (pre++(ps'.map enc).flatten++rest).toArray e (0,0)):=by
  unfold putRowK putRow mapBlock
  rw [qgd hek hk0]
  simp only [Array.getElem?_modify,if_true,Sort.ahead,hheap,Option.map_some,onCells]
  rw [show m.sh i+0*k=pre.length by omega,qfs _ _ _ _ hll]
 have hadv1:Adv m x.s w m ⟨up x.s.h i (.inl ((ps'.map fun p=>p.sv).flatten,e,k+2)),x.s.nx⟩ (putRowK enc k (Sort.ahead w n) (m.blk i) (m.sh i+0*k) ps'.toArray):=by
  refine Adv.write hfit hlk rfl (fun j hj=>?_) (by simp [putRowK,putRow,mapBlock,Sort.ahead]) rfl rfl rfl (Nat.le_add_right _ _) fun m' ha=>?_
  ·unfold putRowK putRow mapBlock
   simp only [Array.getElem?_modify,Sort.ahead]
   rw [if_neg (Ne.symm hj)]
  ·obtain ⟨a1,a2,a3⟩:=ha i hinx
   refine ⟨pre,rest,?_,by rw [a2]; exact hpre,?_⟩
   ·rw [a1,el_ren ha]; exact hrow
   ·rw [hll2,a3]; exact hcap
 have hout:=qay (c:=.inl ((ps'.map fun p=>p.sv).flatten,e,k+2)) (bK:=.vec (((srt (ltOf cf) ds).map encU).flatten) e k st) hh hg hρ hlk rfl (by rintro l e sz st h; cases h; exact ⟨_,rfl⟩) fun y h1 h2 hm=>⟨okL_flat hok _,hk0,.inr ⟨i,_,h1,h2,by
  rw [← hsrt]
  exact hm.ke.E (el_rel ps').bel (el_rel ps')⟩⟩
 refine ⟨_,m,.tup [],.tuple #[],.tuple #[],rfl,⟨rfl,rfl⟩,hadv1.trans (adv_grow hadv1.fits os),fun m' _=>by simp [ren,renA,renL],hout.h,hout.fr F hfr,by simp [Rel,RelP],hout.mo.ke,Nat.le_refl _⟩
end Go.Vx
end
section
namespace Go.Proofs
open Go Go.Rx Go.Vx Go.Shelf Go.Sort
set_option linter.unusedVariables false
set_option linter.unusedSimpArgs false
set_option maxRecDepth 10000
def lexL {α:Type} (c:α→α→Int):List α→List α→Int
 | [],[]=>0
 | [],_::_=>-1
 | _::_,[]=>1
 | x::xs,y::ys=>if c x y≠0 then c x y else lexL c xs ys
theorem Cmp.list {α:Type} {c:α→α→Int} (h:Cmp c):Cmp (lexL c) where
 val:=by
  intro x
  induction x with
  | nil=>intro y; cases y<;>simp [lexL]
  | cons a x ih =>
   intro y
   cases y with
   | nil=>simp [lexL]
   | cons b y=>simp only [lexL]; split; exact h.val a b; exact ih y
 anti:=by
  intro x
  induction x with
  | nil=>intro y; cases y<;>simp [lexL]
  | cons a x ih =>
   intro y
   cases y with
   | nil=>simp [lexL]
   | cons b y =>
    simp only [lexL]
    have a1:=h.anti a b
    have a2:=ih y
    by_cases e:c a b=0
    ·have:c b a=0:=by omega
     simp [e,this,a2]
    ·have:¬ c b a=0:=by omega
     simp [e,this,a1]
 trans:=by
  intro x
  induction x with
  | nil =>
   intro y z h1 h2
   cases z<;>simp [lexL]
  | cons a x ih =>
   intro y z h1 h2
   cases y with
   | nil=>simp [lexL] at h1
   | cons b y =>
    cases z with
    | nil=>simp [lexL] at h2
    | cons d z =>
     simp only [lexL] at *
     by_cases e:c a b=0
     ·have e2:=h.congr e d
      simp only [e,ne_eq,not_true,if_false] at h1
      rw [e2]
      by_cases e3:c b d=0
      ·simp only [e3,ne_eq,not_true,if_false] at h2 ⊢
       exact ih y z h1 h2
      ·simp only [e3,ne_eq,not_false_eq_true,if_true] at h2 ⊢
       exact h2
     ·simp only [e,ne_eq,not_false_eq_true,if_true] at h1
      have h1':c a b<0:=by omega
      by_cases e3:c b d=0
      ·have e4:=h.congr' e3 a
       rw [← e4]
       simp only [e,ne_eq,not_false_eq_true,if_true]
       exact h1
      ·simp only [e3,ne_eq,not_false_eq_true,if_true] at h2
       have:=h.lt_of h1' h2
       have hne:¬ c a d=0:=by omega
       simp only [hne,ne_eq,not_false_eq_true,if_true]
       omega
theorem lexL_zero {α:Type} {c:α→α→Int}:∀ {xs ys:List α},(∀ x∈xs,∀ y,c x y=0→x=y)→lexL c xs ys=0→xs=ys
 | [],[],_,_=>rfl
 | [],_::_,_,h=>by simp [lexL] at h
 | _::_,[],_,h=>by simp [lexL] at h
 | x::xs,y::ys,hc,h=>by
  simp only [lexL] at h
  by_cases e:c x y=0
  ·simp only [e,ne_eq,not_true,if_false] at h
   rw [hc x (by simp) y e,lexL_zero (fun a ha=>hc a (by simp [ha])) h]
  ·simp [e] at h
def hdD:GDeriv→GDeriv→Int:=lexC (fun x y=>cmpI x.From y.From) (lexC (fun x y=>cmpI x.To y.To) (lexC (fun x y=>cmpI x.Kind y.Kind) (fun x y=>cmpS x.Name y.Name)))
theorem hdD_ok:Cmp hdD:=(qf4.pull _).lex ((qf4.pull _).lex ((qf4.pull _).lex (cmpS_ok.pull _)))
def ccDn:Nat→GDeriv→GDeriv→Int
 | 0,_,_=>0
 | n+1,x,y=>if hdD x y≠0 then hdD x y else lexL (ccDn n) x.Kids y.Kids
theorem ccDn_ok:∀ n,Cmp (ccDn n)
 | 0=>⟨fun _ _=>.inr (.inl rfl),fun _ _=>rfl,fun _ _ _ _ _=>by simp [ccDn]⟩
 | n+1=>hdD_ok.lex ((ccDn_ok n).list.pull GDeriv.Kids)
theorem kid_lt (d:GDeriv) {x:GDeriv} (h:x∈d.Kids):SizeOf.sizeOf x<SizeOf.sizeOf d:=by
 cases d with
 | mk a b c e ks =>
  have:=List.sizeOf_lt_of_mem h
  simp only [GDeriv.Kids] at this
  simp only [GDeriv.mk.sizeOf_spec]
  omega
theorem qhk (d:GDeriv):d.Kids.length+1<SizeOf.sizeOf d:=by
 cases d with
 | mk a b c e ks =>
  have:=qbp ks
  simp only [GDeriv.Kids,GDeriv.mk.sizeOf_spec]
  omega
mutual
def okG:GDeriv→Prop
 | .mk _ _ _ _ ks=>ks.length≤9223372036854775807∧okGs ks
def okGs:List GDeriv→Prop
 | []=>True
 | d::l=>okG d∧okGs l
end
theorem qgj:∀ {l:List GDeriv},okGs l→∀ d∈l,okG d
 | [],_,d,h=>by cases h
 | e::l,h,d,hd=>by
  simp only [okGs] at h
  rcases List.mem_cons.1 hd with rfl | hd
  ·exact h.1
  ·exact qgj h.2 d hd
theorem qhq {d:GDeriv} (h:okG d):d.Kids.length≤9223372036854775807:=by cases d; simp only [okG] at h; exact h.1
theorem qhp {d:GDeriv} (h:okG d) {x:GDeriv} (hx:x∈d.Kids):okG x:=by cases d; simp only [okG] at h; exact qgj h.2 x hx
theorem qfa {α:Type} {c c':α→α→Int}:∀ {xs ys:List α},(∀ x∈xs,∀ y,c x y=c' x y)→lexL c xs ys=lexL c' xs ys
 | [],[],_=>rfl
 | [],_::_,_=>rfl
 | _::_,[],_=>rfl
 | x::xs,y::ys,h=>by simp only [lexL,h x (by simp) y,qfa (xs:=xs) (ys:=ys) fun a ha=>h a (by simp [ha])]
mutual
def nodes:GDeriv→Nat
 | .mk _ _ _ _ ks=>1+nodesL ks
def nodesL:List GDeriv→Nat
 | []=>0
 | d::l=>nodes d+nodesL l
end
theorem qee (d:GDeriv):nodes d=1+nodesL d.Kids:=by cases d; simp [nodes,GDeriv.Kids]
theorem qfd:∀ {l:List GDeriv} {d:GDeriv},d∈l→nodes d≤nodesL l
 | e::l,d,h=>by
  simp only [nodesL]
  rcases List.mem_cons.1 h with rfl | h
  ·omega
  ·have:=qfd h; omega
theorem kidn_lt (d:GDeriv) {x:GDeriv} (h:x∈d.Kids):nodes x<nodes d:=by have:=qfd h; rw [qee d]; omega
theorem size_pos (d:GDeriv):0<nodes d:=by rw [qee]; omega
theorem ccDn_stab:∀ (n m:Nat) (x y:GDeriv),nodes x≤n→nodes x≤m→ccDn n x y=ccDn m x y
 | 0,m,x,y,h,_=>by have:=size_pos x; omega
 | n+1,0,x,y,_,h=>by have:=size_pos x; omega
 | n+1,m+1,x,y,h1,h2=>by
  simp only [ccDn]
  rw [qfa (c:=ccDn n) (c':=ccDn m) fun a ha b=>ccDn_stab n m a b (by have:=kidn_lt x ha; omega) (by have:=kidn_lt x ha; omega)]
def ccD (x y:GDeriv):Int:=ccDn (nodes x) x y
theorem qgz {n:Nat} {x:GDeriv} (h:nodes x≤n) (y:GDeriv):ccD x y=ccDn n x y:=ccDn_stab _ _ _ _ (Nat.le_refl _) h
theorem qbj:Cmp ccD where
 val x y:=(ccDn_ok _).val x y
 anti x y:=by
  rw [qgz (n:=nodes x+nodes y) (by omega) x,qgz (n:=nodes x+nodes y) (by omega) y]
  exact (ccDn_ok _).anti x y
 trans x y z:=by
  rw [qgz (n:=nodes x+nodes y) (by omega) y,qgz (n:=nodes x+nodes y) (by omega) z,qgz (n:=nodes x+nodes y) (x:=x) (by omega) z]
  exact (ccDn_ok _).trans x y z
theorem ccDn_zero:∀ (n:Nat) (x y:GDeriv),nodes x≤n→ccDn n x y=0→x=y
 | 0,x,y,h,_=>by have:=size_pos x; omega
 | n+1,x,y,h,hz=>by
  simp only [ccDn] at hz
  by_cases e:hdD x y=0
  ·simp only [e,ne_eq,not_true,if_false] at hz
   have hk:=lexL_zero (fun a ha b hb=>ccDn_zero n a b (by have:=kidn_lt x ha; omega) hb) hz
   simp only [hdD,lexC_zero,qb7,qe0] at e
   cases x; cases y
   simp only [GDeriv.Kids,GDeriv.From,GDeriv.To,GDeriv.Kind,GDeriv.Name] at hk e
   obtain ⟨e1,e2,e3,e4⟩:=e
   subst e1; subst e2; subst e3; subst e4; subst hk; rfl
  ·simp [e] at hz
theorem qdx {x y:GDeriv}:ccD x y=0↔x=y:=⟨fun h=>ccDn_zero _ x y (Nat.le_refl _) h,fun h=>by subst h; exact qbj.self x⟩
theorem ccD_eq (x y:GDeriv):ccD x y=if hdD x y≠0 then hdD x y else lexL ccD x.Kids y.Kids:=by
 have h:=qgz (n:=nodes x+1) (x:=x) (by omega) y
 rw [h]
 simp only [ccDn]
 rw [qfa (c:=ccDn (nodes x)) (c':=ccD) fun a ha b=>(qgz (by have:=kidn_lt x ha; omega) b).symm]
theorem cmpF_L {xs ys:List GDeriv} (hl:xs.length≤9223372036854775807) {f:GDeriv→GDeriv→Option Int} (hf:∀ x∈xs,∀ y∈ys,f x y=some (ccD x y)):∀ (m i:Nat),xs.length - i<m→i≤xs.length→i≤ys.length →
  q19 xs ys f m (i:Int)=some (lexL ccD (xs.drop i) (ys.drop i))
 | 0,i,hm,_,_=>by omega
 | m+1,i,hm,hi,hi2=>by
  unfold q19
  by_cases hlt:i<xs.length
  ·obtain ⟨x,hx,hxm⟩:=q25 hlt
   simp only [dlt hlt,cond_true,q0u,hx,q08]
   by_cases hlt2:i<ys.length
   ·obtain ⟨y,hy,hym⟩:=q25 hlt2
    have hge:decide ((i:Int) ≥ (ys.length:Int))=false:=by simp; omega
    have hw:IntKind.i64.wrap ((i:Int)+1)=((i+1:Nat):Int):=wrn (by simp) (by omega)
    simp only [hge,cond_false,hy,q08,hf x hxm y hym,drop_cons' hx,drop_cons' hy,lexL,hw]
    by_cases e:ccD x y=0
    ·simp only [e,bne_self_eq_false,cond_false,ne_eq,not_true,if_false]
     exact cmpF_L hl hf m (i+1) (by omega) (by omega) (by omega)
    ·have:(ccD x y != 0)=true:=by simpa using e
     simp only [this,cond_true,ne_eq,e,not_false_eq_true,if_true]
   ·have hge:decide ((i:Int) ≥ (ys.length:Int))=true:=by simp; omega
    simp only [hge,cond_true,drop_cons' hx,drop_nil' hlt2,lexL]
  ·simp only [dnlt hlt,cond_false,q2h,drop_nil' hlt]
   by_cases hlt2:i<ys.length
   ·obtain ⟨y,hy,hym⟩:=q25 hlt2
    simp only [dlt (show xs.length<ys.length by omega),cond_true,drop_cons' hy,lexL]
   ·simp only [dnlt (show ¬ xs.length<ys.length by omega),cond_false,drop_nil' hlt2,lexL]
theorem qda:∀ (n:Nat) (x y:GDeriv),SizeOf.sizeOf x+10≤n→okG x→q3i n x y=some (ccD x y)
 | 0,x,y,h,_=>by omega
 | n+1,x,y,h,hok=>by
  have h5:=or4_eq (cmpI x.From y.From) (cmpI x.To y.To) (cmpI x.Kind y.Kind) (cmpS x.Name y.Name)
  have hN:=orL_fuel 5 n _ _ _ (by omega) h5
  have hkl:=qhk x
  have hk:=cmpF_L (ys:=y.Kids) (qhq hok) (f:=q3i n) (fun a ha b hb=>qda n a b (by have:=kid_lt x ha; omega) (qhp hok ha)) n 0 (by omega) (by omega) (by omega)
  rw [Int.ofNat_zero,List.drop_zero,List.drop_zero] at hk
  have hh:(if cmpI x.From y.From≠0 then cmpI x.From y.From else if cmpI x.To y.To≠0 then cmpI x.To y.To else if cmpI x.Kind y.Kind≠0 then cmpI x.Kind y.Kind else cmpS x.Name y.Name)=hdD x y:=by simp only [hdD,lexC]
  rw [hh] at hN
  simp only [q3i,qai,cmpInt_eq,cmpStr_eq,q08,q86,hN,q24,hk]
  rw [ccD_eq]
  by_cases e:hdD x y=0
  ·simp [e]
  ·have:(hdD x y != 0)=true:=by simpa using e
   simp [this,e]
def srtD (l:List GDeriv):List GDeriv:=srt (ltOf ccD) l
theorem qgn (l:List GDeriv):(srtD l).length=l.length:=(qaa (ltOf ccD) l).length_eq
theorem sortKD:SortK Tryz.prog 18 19 5:=fun α _ enc cf hk h1 hO blk off cap d w hc hH hb hs =>
 AnyQ.slices_SortFunc Tryz.sortD 5 Tryz.isAgg43 Tryz.sizeOf43 enc hk h1 cf hO 19 #[] blk off cap d w (enters_of Tryz.func19 (by kernel_rfl) rfl) hc hH hb hs
mutual
def okB:GDeriv→Bool
 | .mk _ _ _ _ ks=>Nat.ble ks.length 9223372036854775807&&okBs ks
def okBs:List GDeriv→Bool
 | []=>true
 | d::l=>okB d&&okBs l
end
mutual
theorem okB_iff:(d:GDeriv)→(okB d=true↔okG d)
 | .mk _ _ _ _ ks=>by simp only [okB,okG,Bool.and_eq_true,Nat.ble_eq,qgi ks]
theorem qgi:(l:List GDeriv)→(okBs l=true↔okGs l)
 | []=>by simp [okBs,okGs]
 | d::l=>by simp only [okBs,okGs,Bool.and_eq_true,okB_iff d,qgi l]
end
theorem srtD_ok (xs:List GDeriv) (hx:xs.length<4611686018427387904∧okBs xs=true) (σ:Sg) {K t:Nat} (hK:Nat.blt K σ.nx=true) (hg:gt σ.h K=some (.vec (List.map cGDeriv xs).flatten 43 5 t)) :
  EvU Tryz.prog 18 [.vl K t 0 xs.length,.fn (.func 19) [] []] σ (fun u σ'=>u = .tup []∧σ'=⟨ug σ.h K (.vec (List.map cGDeriv (srtD xs)).flatten 43 5 t),σ.nx⟩):=by
 by_cases hne:xs=[]
 ·subst hne
  have h0:=q9e (q3i 0) (fun a0 a1 r h=>q8p 0 a0 a1 r h) 1 () rfl
  have h1:=EvU.view0 (args':=[.vl K t 0 ([]:List GDeriv).length,.fn (.func 19) [] []]) (σ:=σ) h0 (by simp [BelL,Bel,BelR]) (Gh.trans (Gh.fz K (.vec (List.map cGDeriv ([]:List GDeriv)).flatten 43 5 t) 5 hg (by simp) rfl rfl) (Gh.eqv (by
    simp only [q0o,q0y,q8i q0e,q3k]) rfl))
  refine h1.mono ?_
  rintro u σ' ⟨rfl,rfl⟩
  refine ⟨rfl,?_⟩
  have:ug σ'.h K (.vec (List.map cGDeriv (srtD [])).flatten 43 5 t)=σ'.h:=by
   have hu:∀ (h:List (Nat×B)) (b:B),gt h K=some b→ug h K b=h:=by
    intro h
    induction h with
    | nil=>intro b hb; simp [gt] at hb
    | cons p h ih =>
     obtain ⟨j,c⟩:=p
     intro b hb
     simp only [gt,ug,beq_eq] at hb ⊢
     by_cases e:j=K
     ·simp [e] at hb; simp [e,hb]
     ·simp only [e,decide_false,cond_false] at hb ⊢; rw [ih b hb]
   exact hu _ _ hg
  rw [this]
 ·have hok:=qgj ((qgi xs).1 hx.2)
  exact EvU.sortG (P:=Tryz.prog) (f:=18) (g:=19) (encU:=cGDeriv) (k:=5) q0e (by omega) (fun d=>by cases d; rfl) (fun d=>qag 0 d) qbj.swo (qbj.tot fun x y h=>qdx.1 h) sortKD xs
   (fun a ha b hb=>by
    have h:=(q8p (SizeOf.sizeOf a+10) a b (ccD a b) (qda _ a b (Nat.le_refl _) (hok a ha))).mono fun u s h=>h.1
    rw [← q0m a,← q0m b] at h; exact h) hne hx.1 hg
end Go.Proofs
end
section
namespace Go.Vx
open Go Go.Rx
set_option linter.unusedVariables false
def SubH (σ τ:Sg):Prop:=∀ k b,gt σ.h k=some b→gt τ.h k=some b
section
variable {σ τ:Sg} (hs:SubH σ τ)
include hs
variable {T:Tb} {tm:List U}
def noEff:Op→Bool
 | .alloc _ | .box _ _ | .store _ _ _ | .buildSlice _ _ _ | .makeSlice _ _ _ | .makeMap _ _ | .mapUpdate _ _ _ _ | .insert _ _ _ _ | .mapEntry _ _ _ | .entryStore _ _ _ _=>false
 | .call c=>(match c.callee with
  | .builtin .append=>false
  | .builtin .copy=>false
  | .builtin .delete=>false
  | .builtin .clear=>false
  | _=>true)
 | _=>true
end
end Go.Vx
end
section
namespace Go.Vx
open Go Go.Rx
set_option linter.unusedVariables false
structure Al where
 i:Nat
 k:Nat
 l:List U
 e:TypeId
structure ChA (P:Program) (T:Tb) (ops:List Oper) (tm₀:List U) (σb σ1:Sg) (rs:List RecU) (als:List Al):Prop where
 some:als≠[]
 names:∀ al∈als,σb.nx≤al.k∧al.k<σ1.nx
 nodup:∀ a∈als,∀ b∈als,a.k=b.k→a.i=b.i
 le:σb.nx≤σ1.nx
 at_:∀ al∈als,∃ r d,rs[al.i]? = .some r∧r.u = .ptr al.k 0 0∧r.act=false∧r.mv=true∧r.o.op = .alloc al.e∧r.o.guard=none∧r.o.dst = .some d
 row:∀ al∈als,(∀ σ tm,opU T σ tm (.alloc al.e) = .some (.ptr σ.nx 0 0,newU σ (.row al.l al.e)))∧BelL 0 al.l
 all:∀ (i:Nat) (r:RecU),rs[i]? = .some r→r.act=false→r.mv=true→∃ al∈als,al.i=i
 own:∀ al∈als,gt σ1.h al.k = .some (.row al.l al.e)
 oth:∀ j,(∀ al∈als,al.k≠j)→gt σ1.h j=gt σb.h j
 acts:∀ (i:Nat) (r:RecU),rs[i]? = .some r→r.act=true→∀ al∈als,Pre ops i al.i
 early:∀ (i:Nat) (r:RecU),rs[i]? = .some r→r.act=false→r.mv=false→(∀ al∈als,Pre ops i al.i)∨(Bel σb.nx r.u∧(wantedU ops r.tm r.o = .some true→opU T r.s r.tm r.o.op = .some (r.u,r.s')→noEff r.o.op=true∧opU T ⟨σb.h,σ1.nx⟩ r.tm r.o.op = .some (r.u,⟨σb.h,σ1.nx⟩)))
section
variable {P:Program} {T:Tb} (hT:TbOk P T) (ops:Array Oper) {tm₀:List U} {σb σ1:Sg} {rs:List RecU} {tm':List U} {σ':Sg} {als:List Al}
 (htr:TrU P T ops.toList tm₀ σ1 rs tm' σ') (hst:staticOk ops.toList=true) (hch:ChU T ops.toList rs) (hal:ChA P T ops.toList tm₀ σb σ1 rs als)
include hT htr hst hch hal
end
end Go.Vx
end
section
namespace Go.Vx
open Go Go.Rx
set_option linter.unusedVariables false
def RA (P:Program) (T:Tb) (ops:List Oper) (nb:Nat) (σe:Sg):List Oper→List U→Sg→List RK→List Al→(List RK→List U→Sg→Prop)→Prop
 | [],tm,σ,acc,q,K=>q=[]∧K acc tm σ
 | o::r,tm,σ,acc,q,K =>
  (wantedU ops tm o=some true∧∃ u,opU T σ tm o.op=some (u,σ)∧RA P T ops nb σe r (putW tm o.dst u) σ ((1,⟨tm,o,u,false,false,σ,σ⟩)::acc) q K) ∨
  (wantedU ops tm o=some true∧∃ u σ',opU T σ tm o.op=some (u,σ')∧RA P T ops nb σe r (putW tm o.dst u) σ' ((3,⟨tm,o,u,true,true,σ,σ'⟩)::acc) q K) ∨
  (wantedU ops tm o=some true∧∃ f args u,callU T tm o.op=some (f,args)∧EvU P f args σ (fun u' σ'=>u'=u∧σ'=σ)∧RA P T ops nb σe r (putW tm o.dst u) σ ((2,⟨tm,o,u,true,false,σ,σ⟩)::acc) q K) ∨
  (wantedU ops tm o=some true∧∃ f args u σ',callU T tm o.op=some (f,args)∧EvU P f args σ (fun u' s'=>u'=u∧s'=σ')∧RA P T ops nb σe r (putW tm o.dst u) σ' ((3,⟨tm,o,u,true,true,σ,σ'⟩)::acc) q K) ∨
  (wantedU ops tm o=some false∧RA P T ops nb σe r (putW tm o.dst (.tup [])) σ ((0,⟨tm,o,.tup [],false,false,σ,σ⟩)::acc) q K) ∨
  (wantedU ops tm o=some true∧∃ u,FreeO P T tm o.op u∧Bel nb u∧RA P T ops nb σe r (putW tm o.dst u) σ ((6,⟨tm,o,u,false,false,σ,σ⟩)::acc) q K) ∨
  (wantedU ops tm o=some true∧∃ u,opU T σ tm o.op=some (u,σ)∧opU T σe tm o.op=some (u,σe)∧noEff o.op=true∧Bel nb u∧RA P T ops nb σe r (putW tm o.dst u) σ ((5,⟨tm,o,u,false,false,σ,σ⟩)::acc) q K) ∨
  (∃ al q' d,q=al::q'∧al.i=acc.length∧o.op = .alloc al.e∧o.guard=none∧o.dst=some d∧RA P T ops nb σe r (putW tm o.dst (.ptr al.k 0 0)) σ ((4,⟨tm,o,.ptr al.k 0 0,false,true,σ,σ⟩)::acc) q' K)
section
variable {P:Program} {T:Tb}
end
section
variable {P:Program} {T:Tb} (hT:TbOk P T) {n0:Nat} {Q:Exit→List U→Sg→Prop} {tm:List U} {σ:Sg}
include hT
end
end Go.Vx
end
section
namespace Go.Vx
open Go Go.Rx
set_option linter.unusedVariables false
section
variable {P:Program} {T:Tb} {ops r:List Oper} {o:Oper} {n nb:Nat} {σe:Sg} {l:List (Nat×U)} {σ σ':Sg} {acc:List RK} {q:List Al} {K:List RK→List U→Sg→Prop} {u:U}
theorem RQ.act (hw:wantedU ops (fr n l) o=some true) (h:opU T σ (fr n l) o.op=some (u,σ')) {d:Tmp} (he:o.dst=some d) (hd:Nat.blt d n=true) (hk:RA P T ops nb σe r (fr n ((d,u)::l)) σ' ((3,⟨fr n l,o,u,true,true,σ,σ'⟩)::acc) q K):RA P T ops nb σe (o::r) (fr n l) σ acc q K :=
 .inr (.inl ⟨hw,u,σ',h,by rw [he,q91 (d:=some d) u hd]; exact hk⟩)
theorem RQ.call {f:FuncId} {args:List U} (hw:wantedU ops (fr n l) o=some true) (hc:callU T (fr n l) o.op=some (f,args)) (hev:EvU P f args σ (fun u' σ'=>u'=u∧σ'=σ)) {d:Tmp} (he:o.dst=some d) (hd:Nat.blt d n=true) (hk:RA P T ops nb σe r (fr n ((d,u)::l)) σ ((2,⟨fr n l,o,u,true,false,σ,σ⟩)::acc) q K):RA P T ops nb σe (o::r) (fr n l) σ acc q K :=
 .inr (.inr (.inl ⟨hw,f,args,u,hc,hev,by rw [he,q91 (d:=some d) u hd]; exact hk⟩))
theorem RQ.alloc {al:Al} (hi:al.i=acc.length) (ho:o.op = .alloc al.e) (hg:o.guard=none) {d:Tmp} (he:o.dst=some d) (hd:Nat.blt d n=true) (hk:RA P T ops nb σe r (fr n ((d,.ptr al.k 0 0)::l)) σ ((4,⟨fr n l,o,.ptr al.k 0 0,false,true,σ,σ⟩)::acc) q K):RA P T ops nb σe (o::r) (fr n l) σ acc (al::q) K :=
 .inr (.inr (.inr (.inr (.inr (.inr (.inr ⟨al,q,d,rfl,hi,ho,hg,he,by rw [he,q91 (d:=some d) _ hd]; exact hk⟩))))))
end
section
variable {P:Program} {T:Tb} (hT:TbOk P T) {n0:Nat} {Q:Exit→List U→Sg→Prop} {tm:List U} {σ:Sg}
include hT
end
end Go.Vx
end
