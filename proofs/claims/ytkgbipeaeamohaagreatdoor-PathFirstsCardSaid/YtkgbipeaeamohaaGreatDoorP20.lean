/-
  Texts of the walk: Q2 Q3.
-/
import Derived.Test.YtkgbipeaeamohaaGreatDoorP19
set_option linter.unusedSimpArgs false
set_option linter.unusedVariables false
section
namespace Go.Proofs
open Go Go.Rx Go.Vx Go.Shelf Go.Sort
set_option maxRecDepth 10000
def quk:List Int→List Int→Prop
 | x::p,y::q=>x<y∨(x=y∧quk p q)
 | _,_=>False
def slt (p q:List Int):Prop:=p.length<q.length∨(p.length=q.length∧quk p q)
theorem qnm:∀ {p q r:List Int},quk p q→quk q r→quk p r
 | x::p,y::q,z::r,h,h'=>by
  rcases h with h | ⟨h,h1⟩
  ·rcases h' with h' | ⟨h',_⟩
   ·exact .inl (by omega)
   ·exact .inl (by omega)
  ·rcases h' with h' | ⟨h',h2⟩
   ·exact .inl (by omega)
   ·exact .inr ⟨by omega,qnm h1 h2⟩
 | [],q,r,h,_=>by simp [quk] at h
 | x::p,[],r,h,_=>by simp [quk] at h
 | x::p,y::q,[],_,h=>by simp [quk] at h
theorem qxt {p q r:List Int} (h:slt p q) (h':slt q r):slt p r:=by
 rcases h with h | ⟨h,h1⟩
 ·rcases h' with h' | ⟨h',_⟩
  ·exact .inl (by omega)
  ·exact .inl (by omega)
 ·rcases h' with h' | ⟨h',h2⟩
  ·exact .inl (by omega)
  ·exact .inr ⟨by omega,qnm h1 h2⟩
theorem qsz:∀ {p q s t:List Int},quk p q→quk (p++s) (q++t)
 | x::p,y::q,s,t,h=>by
  rcases h with h | ⟨h,h1⟩
  ·exact .inl h
  ·exact .inr ⟨h,qsz h1⟩
 | [],q,s,t,h=>by simp [quk] at h
 | x::p,[],s,t,h=>by simp [quk] at h
theorem z2n {p q:List Int} (x y:Int) (h:slt p q):slt (p++[x]) (q++[y]):=by
 rcases h with h | ⟨h,h1⟩
 ·exact .inl (by simp; omega)
 ·exact .inr ⟨by simp; omega,qsz h1⟩
theorem qoy (p:List Int) (x:Int):slt p (p++[x]):=.inl (by simp)
theorem qq3:∀ (p:List Int) {x y:Int},x<y→quk (p++[x]) (p++[y])
 | [],x,y,h=>.inl h
 | z::p,x,y,h=>.inr ⟨rfl,qq3 p h⟩
theorem qzz (p:List Int) {x y:Int} (h:x<y):slt (p++[x]) (p++[y]):=.inr ⟨by simp,qq3 p h⟩
abbrev DP:=List (Int×List Int)
def qc4 (p:List Int) (D:DP) (a:q15):DP:=if a.To∈D.map Prod.fst then D else D++[(a.To,p++[a.Feat])]
def bfs (f:GFS):Nat→Nat→DP→DP
 | 0,_,D=>D
 | k+1,i,D=>match D[i]? with
  | some e=>bfs f k (i+1) ((nd f e.1).Arcs.foldl (qc4 e.2) D)
  | none=>D
def firD (f:GFS):DP:=bfs f (f.Nodes.length+1) 0 [(0,[])]
def fp:DP→Int→List Int
 | [],_=>[]
 | e::D,v=>if e.1=v then e.2 else fp D v
theorem z0g {t:DP} {v:Int}:∀ {D:DP},v∈D.map Prod.fst→fp (D++t) v=fp D v
 | [],h=>by simp at h
 | e::D,h=>by
  simp only [List.cons_append,fp]
  by_cases e1:e.1=v
  ·simp [e1]
  ·rw [if_neg e1,if_neg e1]
   rw [List.map_cons,List.mem_cons] at h
   exact z0g (h.resolve_left fun h=>e1 h.symm)
theorem qz7 {t:DP} {v:Int}:∀ {D:DP},v ∉ D.map Prod.fst→fp (D++t) v=fp t v
 | [],h=>rfl
 | e::D,h=>by
  rw [List.map_cons,List.mem_cons,not_or] at h
  simp only [List.cons_append,fp]
  rw [if_neg fun h1=>h.1 h1.symm]
  exact qz7 h.2
theorem qw7:∀ {D:DP},(D.map Prod.fst).Nodup→∀ e∈D,fp D e.1=e.2
 | [],_,e,he=>by cases he
 | d::D,hn,e,he=>by
  rw [List.map_cons,List.nodup_cons] at hn
  rcases List.mem_cons.1 he with rfl | he
  ·simp [fp]
  ·have:d.1≠e.1:=fun h=>hn.1 (h ▸ List.mem_map_of_mem he)
   rw [fp,if_neg this]
   exact qw7 hn.2 e he
theorem fp_in {D:DP} (hn:(D.map Prod.fst).Nodup) {v:Int} (hv:v∈D.map Prod.fst):(v,fp D v)∈D:=by
 obtain ⟨e,he,rfl⟩:=List.mem_map.1 hv
 rw [qw7 hn e he]
 exact he
def qj8 (N:Nat) (D:DP):List Bool:=(idN N).map fun v=>decide (v∈D.map Prod.fst)
def qhq (N:Nat) (D:DP):List (List Int):=(idN N).map (fp D)
theorem z0n {N:Nat} {v:Int} (h:0≤v∧v<(N:Int)):(idN N)[v.toNat]? = some v:=by
 rw [qeb (by omega)]
 congr 1
 omega
theorem qws {α:Type} {N:Nat} (F:Int→α) {v:Int} (h:0≤v∧v<(N:Int)):qgx ((idN N).map F) 0 N v=some (F v):=by
 rw [qgx,if_pos h,Nat.zero_add,List.getElem?_map,z0n h]
 rfl
theorem qec (N:Nat):(idN N).length=N:=by simp [idN]
theorem qt6 {α:Type} {N:Nat} {F G:Int→α} {w:Int} {x:α} (h:0≤w∧w<(N:Int)) (hw:G w=x) (hG:∀ v,v≠w→G v=F v):((idN N).map F).set w.toNat x=(idN N).map G:=by
 apply List.ext_getElem?
 intro i
 by_cases hi:i<N
 ·rw [List.getElem?_set,List.getElem?_map,List.getElem?_map,qeb hi]
  by_cases e:w.toNat=i
  ·have:((i:Nat):Int)=w:=by omega
   simp [e,this,hw,qec,hi]
  ·have:((i:Nat):Int)≠w:=by omega
   simp [e,hG _ this]
 ·rw [List.getElem?_eq_none (by simp [qec]; omega),List.getElem?_eq_none (by simp [qec]; omega)]
theorem qow {N:Nat} {D:DP} {w:Int} (q:List Int) (h:0≤w∧w<(N:Int)):(qj8 N D).set w.toNat true=qj8 N (D++[(w,q)]) :=
 qt6 h (by simp) fun v hv=>by simp [hv]
theorem qrv {N:Nat} {D:DP} {w:Int} {q:List Int} (h:0≤w∧w<(N:Int)) (hn:w ∉ D.map Prod.fst):(qhq N D).set w.toNat q=qhq N (D++[(w,q)]) :=
 qt6 h (by rw [qz7 hn]; simp [fp]) fun v hv=>by
  by_cases hm:v∈D.map Prod.fst
  ·exact z0g hm
  ·rw [qz7 hm]
   have:fp D v=[]:=by
    have:=qz7 (t:=[]) hm
    rwa [List.append_nil] at this
   rw [this,fp,if_neg (fun h=>hv h.symm),fp]
theorem stp_of {f:GFS} {v:Int} (hd:Dis (nd f v).Arcs) {a:q15} (ha:a∈(nd f v).Arcs):stp f v a.Feat=some a.To:=by
 unfold stp
 cases h:(nd f v).Arcs.find? fun b=>b.Feat == a.Feat with
 | none=>have:=List.find?_eq_none.1 h a ha; simp at this
 | some b =>
  have h1:=List.mem_of_find?_eq_some h
  have h2:=List.find?_some h
  have:=hd.eq b h1 a ha (by simpa using h2)
  subst this
  rfl
theorem qvb {f:GFS} {q:List Int}:∀ {p:List Int} {v w:Int},atG f p v=some w→atG f (p++q) v=atG f q w
 | [],v,w,h=>by simp only [atG,Option.some.injEq] at h; subst h; rfl
 | x::p,v,w,h=>by
  simp only [atG,List.cons_append] at h ⊢
  cases hs:stp f v x with
  | none=>rw [hs] at h; cases h
  | some u=>rw [hs] at h; exact qvb h
theorem z1l {f:GFS} {v:Int} (hd:Dis (nd f v).Arcs) {a:q15} (ha:a∈(nd f v).Arcs):atG f [a.Feat] v=some a.To:=by simp [atG,stp_of hd ha]
structure BIn (f:GFS) (i:Nat) (v:Int) (p:List Int) (l:List q15) (D:DP):Prop where
 hd:∃ t,D=(0,[])::t
 nod:(D.map Prod.fst).Nodup
 ing:∀ e∈D,InG f e.1
 at_i:D[i]? = some (v,p)
 pl:p.length≤i
 len:∀ e∈D,e.2.length≤i+1
 at_:∀ e∈D,atG f e.2 0=some e.1
 par:∀ e∈D,e=(0,[])∨∃ d∈D,∃ a∈(nd f d.1).Arcs,e=(a.To,d.2++[a.Feat])
 don:∀ e∈D.take i,∀ a∈(nd f e.1).Arcs,∃ d∈D,d.1=a.To∧(d.2=e.2++[a.Feat]∨slt d.2 (e.2++[a.Feat]))
 dn2:∀ a∈(nd f v).Arcs,a∈l∨∃ d∈D,d.1=a.To∧(d.2=p++[a.Feat]∨slt d.2 (p++[a.Feat]))
 srt:D.Pairwise fun d e=>slt d.2 e.2
 aft:∀ e∈D,∀ d∈D.drop (i+1),∀ x,slt e.2 (d.2++[x])
 rem:∀ e∈D,∀ a∈l,slt e.2 (p++[a.Feat])
 up:UpA l
 sub:∀ a∈l,a∈(nd f v).Arcs
theorem BIn.lt {f:GFS} {i:Nat} {v:Int} {p:List Int} {l:List q15} {D:DP} (h:BIn f i v p l D):i<D.length:=(List.getElem?_eq_some_iff.1 h.at_i).1
theorem BIn.mem {f:GFS} {i:Nat} {v:Int} {p:List Int} {l:List q15} {D:DP} (h:BIn f i v p l D):(v,p)∈D:=List.mem_of_getElem? h.at_i
theorem BIn.bnd {f:GFS} {i:Nat} {v:Int} {p:List Int} {l:List q15} {D:DP} (h:BIn f i v p l D):D.length≤f.Nodes.length:=by
 have:=qcs f.Nodes.length h.nod fun u hu=>by
  obtain ⟨e,he,rfl⟩:=List.mem_map.1 hu
  exact h.ing e he
 rwa [List.length_map] at this
theorem BIn.step {f:GFS} (hg:GOK f) {i:Nat} {v:Int} {p:List Int} {a:q15} {l:List q15} {D:DP} (h:BIn f i v p (a::l) D):BIn f i v p l (qc4 p D a):=by
 obtain ⟨u1,u2⟩:=List.pairwise_cons.1 h.up
 have hvm:=h.mem
 have hin:=h.ing _ hvm
 have ham:=h.sub a (by simp)
 have hno:=hg _ (qal hin).2
 have hai:=hno.arc a ham
 unfold qc4
 by_cases hm:a.To∈D.map Prod.fst
 ·rw [if_pos hm]
  obtain ⟨d,hd,hde⟩:=List.mem_map.1 hm
  exact { h with
   dn2:=fun b hb=>by
    rcases h.dn2 b hb with hb' | hb'
    ·rcases List.mem_cons.1 hb' with rfl | hb'
     ·exact .inr ⟨d,hd,hde,.inr (h.rem d hd b (by simp))⟩
     ·exact .inl hb'
    ·exact .inr hb'
   rem:=fun e he b hb=>h.rem e he b (by simp [hb])
   up:=u2
   sub:=fun b hb=>h.sub b (by simp [hb]) }
 ·rw [if_neg hm]
  have hlt:=h.lt
  have hmem:∀ e,e∈D++[(a.To,p++[a.Feat])]↔e∈D∨e=(a.To,p++[a.Feat]):=fun e=>by simp
  refine ⟨?_,?_,?_,?_,h.pl,?_,?_,?_,?_,?_,?_,?_,?_,u2,fun b hb=>h.sub b (by simp [hb])⟩
  ·obtain ⟨t,ht⟩:=h.hd
   exact ⟨t++[(a.To,p++[a.Feat])],by rw [ht]; rfl⟩
  ·rw [List.map_append,List.nodup_append]
   refine ⟨h.nod,by simp,fun x hx y hy=>?_⟩
   simp at hy
   subst hy
   intro e; subst e; exact hm hx
  ·intro e he
   rcases (hmem e).1 he with he | rfl
   ·exact h.ing e he
   ·exact ⟨hai.2.1,hai.2.2⟩
  ·rw [List.getElem?_append_left hlt]; exact h.at_i
  ·intro e he
   rcases (hmem e).1 he with he | rfl
   ·exact h.len e he
   ·have:=h.pl; simp; omega
  ·intro e he
   rcases (hmem e).1 he with he | rfl
   ·exact h.at_ e he
   ·show atG f (p++[a.Feat]) 0=some a.To
    rw [qvb (h.at_ _ hvm)]
    exact z1l hno.dis ham
  ·intro e he
   rcases (hmem e).1 he with he | rfl
   ·rcases h.par e he with h1 | ⟨d,h1,h2⟩
    ·exact .inl h1
    ·exact .inr ⟨d,(hmem d).2 (.inl h1),h2⟩
   ·exact .inr ⟨(v,p),(hmem _).2 (.inl hvm),a,ham,rfl⟩
  ·intro e he b hb
   rw [List.take_append_of_le_length (by omega)] at he
   obtain ⟨d,h1,h2⟩:=h.don e he b hb
   exact ⟨d,(hmem d).2 (.inl h1),h2⟩
  ·intro b hb
   rcases h.dn2 b hb with hb' | ⟨d,h1,h2⟩
   ·rcases List.mem_cons.1 hb' with rfl | hb'
    ·exact .inr ⟨_,(hmem _).2 (.inr rfl),rfl,.inl rfl⟩
    ·exact .inl hb'
   ·exact .inr ⟨d,(hmem d).2 (.inl h1),h2⟩
  ·rw [List.pairwise_append]
   refine ⟨h.srt,by simp,fun d hd e he=>?_⟩
   simp at he
   subst he
   exact h.rem d hd a (by simp)
  ·intro e he d hd x
   rw [List.drop_append_of_le_length (by omega)] at hd
   have hpd:∀ d∈D.drop (i+1),slt p d.2:=fun d hd=>by
    have h1:=h.srt
    have h3:D=D.take (i+1)++D.drop (i+1):=(List.take_append_drop (i+1) D).symm
    rw [h3,List.pairwise_append] at h1
    refine h1.2.2 (v,p) ?_ d hd
    rw [List.take_add_one,h.at_i]
    simp
   rcases List.mem_append.1 hd with hd | hd
   ·rcases (hmem e).1 he with he | rfl
    ·exact h.aft e he d hd x
    ·exact z2n _ _ (hpd d hd)
   ·simp at hd
    subst hd
    rcases (hmem e).1 he with he | rfl
    ·exact qxt (h.rem e he a (by simp)) (qoy _ x)
    ·exact qoy _ x
  ·intro e he b hb
   rcases (hmem e).1 he with he | rfl
   ·exact h.rem e he b (by simp [hb])
   ·exact qzz p (u1 b hb)
theorem BIn.fold {f:GFS} (hg:GOK f) {i:Nat} {v:Int} {p:List Int}:∀ {l:List q15} {D:DP},BIn f i v p l D→BIn f i v p [] (l.foldl (qc4 p) D)
 | [],D,h=>h
 | a::l,D,h=>(h.step hg).fold hg
structure BI (f:GFS) (i:Nat) (D:DP):Prop where
 hd:∃ t,D=(0,[])::t
 nod:(D.map Prod.fst).Nodup
 ing:∀ e∈D,InG f e.1
 len:∀ e∈D,e.2.length≤i
 at_:∀ e∈D,atG f e.2 0=some e.1
 par:∀ e∈D,e=(0,[])∨∃ d∈D,∃ a∈(nd f d.1).Arcs,e=(a.To,d.2++[a.Feat])
 don:∀ e∈D.take i,∀ a∈(nd f e.1).Arcs,∃ d∈D,d.1=a.To∧(d.2=e.2++[a.Feat]∨slt d.2 (e.2++[a.Feat]))
 srt:D.Pairwise fun d e=>slt d.2 e.2
 aft:∀ e∈D,∀ d∈D.drop i,∀ x,slt e.2 (d.2++[x])
 le:i≤D.length
theorem BI.bnd {f:GFS} {i:Nat} {D:DP} (h:BI f i D):D.length≤f.Nodes.length:=by
 have:=qcs f.Nodes.length h.nod fun u hu=>by
  obtain ⟨e,he,rfl⟩:=List.mem_map.1 hu
  exact h.ing e he
 rwa [List.length_map] at this
theorem BI.into {f:GFS} {i:Nat} {D:DP} (h:BI f i D) {e:Int×List Int} (he:D[i]? = some e) (hup:UpA (nd f e.1).Arcs):BIn f i e.1 e.2 (nd f e.1).Arcs D:=by
 have hm:=List.mem_of_getElem? he
 have hd:∀ d∈D.drop (i+1),d∈D.drop i:=fun d hd=>by
  rw [← List.drop_drop] at hd
  exact List.mem_of_mem_drop hd
 refine ⟨h.hd,h.nod,h.ing,he,h.len e hm,fun d hd=>by have:=h.len d hd; omega,h.at_,h.par,h.don,fun a ha=>.inl ha,h.srt,fun d h1 c h2=>h.aft d h1 c (hd c h2),fun d h1 a ha=>h.aft d h1 e ?_ a.Feat,hup,fun a ha=>ha⟩
 rw [drop_cons' he]
 simp
theorem BIn.out {f:GFS} {i:Nat} {v:Int} {p:List Int} {D:DP} (h:BIn f i v p [] D):BI f (i+1) D:=by
 refine ⟨h.hd,h.nod,h.ing,h.len,h.at_,h.par,fun e he a ha=>?_,h.srt,h.aft,h.lt⟩
 rw [List.take_add_one,h.at_i] at he
 rcases List.mem_append.1 he with he | he
 ·exact h.don e he a ha
 ·simp at he
  subst he
  rcases h.dn2 a ha with h1 | h1
  ·cases h1
  ·exact h1
theorem BI.start {f:GFS} (h0:InG f 0):BI f 0 [(0,[])]:=by
 refine ⟨⟨[],rfl⟩,by simp,fun e he=>?_,fun e he=>?_,fun e he=>?_,fun e he=>?_,by simp,by simp,fun e he d hd x=>?_,by simp⟩
 ·simp at he; subst he; exact h0
 ·simp at he; subst he; simp
 ·simp at he; subst he; rfl
 ·simp at he; exact .inl he
 ·simp at he hd; subst he; subst hd; exact qoy _ _
theorem z0a {f:GFS} (hg:GOK f) (hup:∀ x∈f.Nodes,UpA x.Arcs):∀ (k i:Nat) (D:DP),BI f i D→f.Nodes.length - i<k→BI f (bfs f k i D).length (bfs f k i D)
 | 0,i,D,h,hk=>by omega
 | k+1,i,D,h,hk=>by
  unfold bfs
  cases he:D[i]? with
  | none =>
   have:=List.getElem?_eq_none_iff.1 he
   have hl:=h.le
   rw [show D.length=i by omega]
   exact h
  | some e =>
   have hm:=List.mem_of_getElem? he
   have h1:=h.into he (hup _ (qal (h.ing e hm)).2)
   have:=h1.lt
   have:=h1.bnd
   exact z0a hg hup k (i+1) _ (h1.fold hg).out (by omega)
theorem VOK.up {f:GFS} (h:VOK f):∀ x∈f.Nodes,UpA x.Arcs:=by
 have:=(qkz h.g h.root).up
 rwa [h.c] at this
structure FOK (f:GFS) (D:DP):Prop extends BI f D.length D where
 all:∀ v,InG f v→v∈D.map Prod.fst
theorem qw3 {f:GFS} (h:VOK f):FOK f (firD f):=by
 have h1:=z0a h.g h.up (f.Nodes.length+1) 0 _ (BI.start h.root) (by omega)
 refine ⟨h1,?_⟩
 have key:∀ (n i:Nat),i<n→i<f.Nodes.length→(i:Int)∈(firD f).map Prod.fst:=by
  intro n
  induction n with
  | zero=>intro i hi; omega
  | succ n ih =>
   intro i hi hlt
   by_cases h0:i=0
   ·subst h0
    obtain ⟨t,ht⟩:=h1.hd
    show _∈(bfs f (f.Nodes.length+1) 0 [(0,[])]).map Prod.fst
    rw [ht]
    simp
   ·obtain ⟨j,hj,a,ha,e⟩:=parent h.g h.root (i:=i) (by omega) (by rw [h.c]; exact hlt)
    rw [h.c] at ha
    obtain ⟨e',he',hej⟩:=List.mem_map.1 (ih j (by omega) (by omega))
    rw [← hej] at ha
    have:=h1.don e' (by rw [List.take_of_length_le (Nat.le_refl _)]; exact he') a ha
    obtain ⟨d,hd,hd1,_⟩:=this
    rw [← e,← hd1]
    exact List.mem_map_of_mem hd
 intro v hv
 have:=key (v.toNat+1) v.toNat (by omega) (by have:=hv.1; have:=hv.2; omega)
 rwa [show ((v.toNat:Nat):Int)=v by have:=hv.1; omega] at this
end Go.Proofs
end
section
namespace Go.Proofs
open Go Go.Rx Go.Vx Go.Shelf Go.Sort
set_option maxRecDepth 10000
theorem qe2 {β:Type} {p:Prop} [Decidable p] {k:Option β} (h:p):q1b p k=k:=if_pos h
theorem qsj {n:Nat} {p:List Int} (h:p.length≤1000000):q3j n p=some p:=by
 unfold q3j
 cases p with
 | nil=>rfl
 | cons x p =>
  simp only [qyi,cond_false]
  rw [qe2 (by simp only [List.length_cons] at *; omega)]
theorem qxl {N:Nat} {D:DP} {v:Int} (h:0≤v∧v<(N:Int)):qgx (qj8 N D) 0 N v=some (decide (v∈D.map Prod.fst)):=qws _ h
theorem qru {N:Nat} {D:DP} {v:Int} (h:0≤v∧v<(N:Int)):qgx (qhq N D) 0 N v=some (fp D v):=qws _ h
theorem qkj (N:Nat) (D:DP):(qhq N D).length=N:=by simp [qhq,qec]
theorem qtb {N:Nat} {D:DP} {v:Int} (h:0≤v∧v<(N:Int)):q0w (qhq N D) v=some (fp D v):=by
 rw [q0w,if_pos (by rw [qkj]; exact h),qhq,List.getElem?_map,z0n h]
 rfl
theorem qsp (p:List Int):∀ (l:List q15) (D:DP),∃ t,l.foldl (qc4 p) D=D++t
 | [],D=>⟨[],by simp⟩
 | a::l,D=>by
  obtain ⟨t,ht⟩:=qsp p l (qc4 p D a)
  rw [List.foldl_cons,ht]
  unfold qc4
  by_cases h:a.To∈D.map Prod.fst
  ·rw [if_pos h]; exact ⟨t,rfl⟩
  ·rw [if_neg h]; exact ⟨_,List.append_assoc _ _ _⟩
theorem bn {a b:Nat} (h:a≤1000) (hb:b≤32):a*b≤140737488355328∧a≤140737488355328:=by
 have:a*b≤1000*32:=Nat.mul_le_mul h hb
 omega
theorem z0j {f:GFS} (hg:GOK f) (hN:f.Nodes.length≤900) {i:Nat} {v:Int} {p:List Int} (hal:(nd f v).Arcs.length≤900) {n:Nat} {l23:List (List Int)} {rc2:Int→List (List Int)→List Int→List Bool→List (List Int)→Option (List (List Int))} {x32:Int} {x34:List Int} :
  ∀ (m k:Nat) (D:DP),(nd f v).Arcs.length - k<m→k≤(nd f v).Arcs.length→BIn f i v p ((nd f v).Arcs.drop k) D →
   q3k n f.Nodes i l23 rc2 x32 x34 (nd f v) m k (D.map Prod.snd) (D.map Prod.fst) (qj8 f.Nodes.length D)=q6l i l23 rc2 x32 x34 ((((nd f v).Arcs.drop k).foldl (qc4 p) D).map Prod.snd) ((((nd f v).Arcs.drop k).foldl (qc4 p) D).map Prod.fst) (qj8 f.Nodes.length (((nd f v).Arcs.drop k).foldl (qc4 p) D))
 | 0,k,D,hm,_,_=>by omega
 | m+1,k,D,hm,hk,h=>by
  have hlt:=h.lt
  have hb:=h.bnd
  have hpl:=h.pl
  unfold q3k
  by_cases hkl:k<(nd f v).Arcs.length
  ·obtain ⟨a,ha,ham⟩:=q4w hkl
   rw [drop_cons' ha] at h ⊢
   have hai:=(hg _ (qal (h.ing _ h.mem)).2).arc a ham
   have hst:=h.step hg
   have ih:=z0j hg hN hal (n:=n) (l23:=l23) (rc2:=rc2) (x32:=x32) (x34:=x34) m (k+1) (qc4 p D a) (by omega) (by omega) hst
   simp only [dlt hkl,cond_true,q22,ha,q0t,Int.toNat_natCast,qxl ⟨hai.2.1,hai.2.2⟩,List.foldl_cons,q6k,wr1 hkl (show (nd f v).Arcs.length≤9223372036854775807 by omega)]
   by_cases hmem:a.To∈D.map Prod.fst
   ·have e:qc4 p D a=D:=if_pos hmem
    rw [e] at ih ⊢
    simp only [hmem,decide_true,Bool.not_true,cond_false]
    exact ih
   ·have e:qc4 p D a=D++[(a.To,p++[a.Feat])]:=if_neg hmem
    have hp:(D.map Prod.snd)[i]? = some p:=by rw [List.getElem?_map,h.at_i]; rfl
    simp only [hmem,decide_false,Bool.not_false,cond_true,q0t,hp,qsj (n:=n) (show p.length≤1000000 by omega),List.length_map,List.length_cons,List.length_nil]
    rw [qe2 (bn (show D.length+1≤1000 by omega) (by omega)),qe2 (bn (show p.length+(0+1)≤1000 by omega) (by omega)),qe2 (bn (show D.length+1≤1000 by omega) (by omega)),qow (p++[a.Feat]) ⟨hai.2.1,hai.2.2⟩]
    rw [e] at ih
    rw [e,← ih]
    simp only [List.map_append,List.map_cons,List.map_nil]
  ·simp only [qka hkl,cond_false]
   rw [drop_nil' hkl]
   rfl
theorem qy2 {D:DP} {i:Nat} {e:Int×List Int} (he:D[i]? = some e) (p:List Int) (l:List q15):(l.foldl (qc4 p) D).take (i+1)=D.take i++[(e.1,e.2)]:=by
 obtain ⟨t,ht⟩:=qsp p l D
 have:=(List.getElem?_eq_some_iff.1 he).1
 rw [ht,List.take_append_of_le_length (by omega),qce he]
theorem qz8 {D:DP} (hn:(D.map Prod.fst).Nodup) {i:Nat} {e:Int×List Int} (he:D[i]? = some e):e.1 ∉ (D.take i).map Prod.fst:=by
 have h1:D=D.take i++e::D.drop (i+1):=by rw [← drop_cons' he,List.take_append_drop]
 rw [h1,List.map_append,List.nodup_append] at hn
 intro hm
 exact hn.2.2 _ hm _ (by simp) rfl
theorem z0i {f:GFS} (hg:GOK f) (hup:∀ x∈f.Nodes,UpA x.Arcs) (hs:Small f 900) {n:Nat} (hn:900<n):∀ (m k i:Nat) (D:DP),BI f i D→f.Nodes.length - i<m→f.Nodes.length - i<k →
  q28 f n f.Nodes m i (D.map Prod.snd) (D.map Prod.fst) (qj8 f.Nodes.length D) (qhq f.Nodes.length (D.take i))=some (qhq f.Nodes.length (bfs f k i D))
 | 0,k,i,D,_,hm,_=>by omega
 | m+1,0,i,D,_,_,hk=>by omega
 | m+1,k+1,i,D,h,hm,hk=>by
  have hN:=hs.nodes
  have hb:=h.bnd
  have hle:=h.le
  unfold q28 bfs
  cases he:D[i]? with
  | none =>
   have:=List.getElem?_eq_none_iff.1 he
   have e1:decide ((i:Int)<((D.map Prod.fst).length:Int))=false:=by rw [List.length_map]; exact qka (by omega)
   simp only [e1,cond_false,q99,qkj]
   rw [qe2 (by omega),List.take_of_length_le (by omega)]
  | some e =>
   have hlt:=(List.getElem?_eq_some_iff.1 he).1
   have hm':=List.mem_of_getElem? he
   have hin:=h.ing e hm'
   have h1:=h.into he (hup _ (qal hin).2)
   have e1:decide ((i:Int)<((D.map Prod.fst).length:Int))=true:=by rw [List.length_map]; exact dlt hlt
   have hx:(D.map Prod.fst)[i]? = some e.1:=by rw [List.getElem?_map,he]; rfl
   have hy:(D.map Prod.snd)[i]? = some e.2:=by rw [List.getElem?_map,he]; rfl
   have hal:=hs.arcs _ (qal hin).2
   have h2:=z0j hg hN hal (n:=n) (l23:=qhq f.Nodes.length (D.take i)) (rc2:=q28 f n f.Nodes m) (x32:=e.1) (x34:=e.2) n 0 D (by omega) (by omega) (by rw [List.drop_zero]; exact h1)
   rw [Int.ofNat_zero,List.drop_zero] at h2
   have ih:=z0i hg hup hs hn m k (i+1) _ (h1.fold hg).out (by omega) (by omega)
   simp only [e1,cond_true,q22,hx,hy,q0t,Int.toNat_natCast,qru hin,q9a,(qal hin).1]
   rw [h2]
   simp only [q6l,wr1 hlt (show D.length≤9223372036854775807 by omega)]
   rw [qrv hin (qz8 h.nod he),← qy2 he e.2 (nd f e.1).Arcs]
   exact ih
theorem z1b {N:Nat} (h:0<N):(List.replicate N false).set (0:Int).toNat true=qj8 N [(0,[])]:=by
 have h1:List.replicate N false=qj8 N []:=by
  apply List.ext_getElem?
  intro i
  by_cases hi:i<N
  ·simp [qj8,List.getElem?_replicate,qeb hi,hi]
  ·rw [List.getElem?_eq_none (by simp; omega),List.getElem?_eq_none (by simp [qj8,qec]; omega)]
 rw [h1]
 exact qow [] ⟨by omega,by omega⟩
theorem out_0 (N:Nat):List.replicate N ([]:List Int)=qhq N []:=by
 apply List.ext_getElem?
 intro i
 by_cases hi:i<N
 ·simp [qhq,List.getElem?_replicate,qeb hi,hi,fp]
 ·rw [List.getElem?_eq_none (by simp; omega),List.getElem?_eq_none (by simp [qhq,qec]; omega)]
theorem VOK.s9 {f:GFS} (h:VOK f):Small f 900:=h.s.up (by omega)
theorem qar {f:GFS} (h:VOK f) {n:Nat} (hn:1000≤n):q7c n f=some (qhq f.Nodes.length (firD f)):=by
 have hN:=h.s.nodes
 have hp:=h.pos
 have h1:=z0i h.g h.up h.s9 (n:=n) (by omega) n (f.Nodes.length+1) 0 _ (BI.start h.root) (by omega) (by omega)
 have hz:qgx (List.replicate f.Nodes.length false) 0 f.Nodes.length 0=some false:=by
  rw [qgx,if_pos ⟨by omega,by omega⟩]
  simp [List.getElem?_replicate,hp]
 rw [Int.ofNat_zero,List.take_zero,← out_0] at h1
 simp only [q7c,q7q,q0t,Int.toNat_natCast,hz]
 rw [qe2 (by omega),qe2 (by omega),z1b hp]
 exact h1
theorem qxk {f:GFS} (hg:GOK f) (hN:f.Nodes.length≤900) {i:Nat} {v:Int} {p:List Int} (hal:(nd f v).Arcs.length≤900) {rc:Int→List Int→List Bool→List (List Int)→Option (List (List Int))} :
  ∀ (m k:Nat) (D:DP),(nd f v).Arcs.length - k<m→k≤(nd f v).Arcs.length→BIn f i v p ((nd f v).Arcs.drop k) D →
   q2z f i rc (nd f v) m k (D.map Prod.fst) (qj8 f.Nodes.length D) (qhq f.Nodes.length D)=q5q i rc ((((nd f v).Arcs.drop k).foldl (qc4 p) D).map Prod.fst) (qj8 f.Nodes.length (((nd f v).Arcs.drop k).foldl (qc4 p) D)) (qhq f.Nodes.length (((nd f v).Arcs.drop k).foldl (qc4 p) D))
 | 0,k,D,hm,_,_=>by omega
 | m+1,k,D,hm,hk,h=>by
  have hlt:=h.lt
  have hb:=h.bnd
  have hpl:=h.pl
  unfold q2z
  by_cases hkl:k<(nd f v).Arcs.length
  ·obtain ⟨a,ha,ham⟩:=q4w hkl
   rw [drop_cons' ha] at h ⊢
   have hin:=h.ing _ h.mem
   have hai:=(hg _ (qal hin).2).arc a ham
   have hst:=h.step hg
   have ih:=qxk hg hN hal (rc:=rc) m (k+1) (qc4 p D a) (by omega) (by omega) hst
   simp only [dlt hkl,cond_true,q22,ha,q0t,Int.toNat_natCast,qxl ⟨hai.2.1,hai.2.2⟩,qru ⟨hai.2.1,hai.2.2⟩,List.foldl_cons,q5p,wr1 hkl (show (nd f v).Arcs.length≤9223372036854775807 by omega)]
   by_cases hmem:a.To∈D.map Prod.fst
   ·have e:qc4 p D a=D:=if_pos hmem
    rw [e] at ih ⊢
    simp only [hmem,decide_true,Bool.not_true,cond_false]
    exact ih
   ·have e:qc4 p D a=D++[(a.To,p++[a.Feat])]:=if_neg hmem
    have hx:(D.map Prod.fst)[i]? = some v:=by rw [List.getElem?_map,h.at_i]; rfl
    have hfp:fp D v=p:=qw7 h.nod _ h.mem
    simp only [hmem,decide_false,Bool.not_false,cond_true,q0t,hx,qru hin,hfp,List.length_map,List.length_cons,List.length_nil]
    rw [qe2 (bn (show p.length≤1000 by omega) (by omega)),qe2 (bn (show p.length+(0+1)≤1000 by omega) (by omega)),qe2 (bn (show D.length+1≤1000 by omega) (by omega)),qow (p++[a.Feat]) ⟨hai.2.1,hai.2.2⟩,qrv ⟨hai.2.1,hai.2.2⟩ hmem]
    rw [e] at ih
    rw [e,← ih]
    simp only [List.map_append,List.map_cons,List.map_nil]
  ·simp only [qka hkl,cond_false]
   rw [drop_nil' hkl]
   rfl
theorem qxj {f:GFS} (hg:GOK f) (hup:∀ x∈f.Nodes,UpA x.Arcs) (hs:Small f 900) {n:Nat} (hn:900<n):∀ (m k i:Nat) (D:DP),BI f i D→f.Nodes.length - i<m→f.Nodes.length - i<k →
  q26 f n m i (D.map Prod.fst) (qj8 f.Nodes.length D) (qhq f.Nodes.length D)=some (qhq f.Nodes.length (bfs f k i D))
 | 0,k,i,D,_,hm,_=>by omega
 | m+1,0,i,D,_,_,hk=>by omega
 | m+1,k+1,i,D,h,hm,hk=>by
  have hN:=hs.nodes
  have hb:=h.bnd
  have hle:=h.le
  unfold q26 bfs
  cases he:D[i]? with
  | none =>
   have:=List.getElem?_eq_none_iff.1 he
   have e1:decide ((i:Int)<((D.map Prod.fst).length:Int))=false:=by rw [List.length_map]; exact qka (by omega)
   simp only [e1,cond_false,q8e,qkj]
   rw [qe2 (by omega)]
  | some e =>
   have hlt:=(List.getElem?_eq_some_iff.1 he).1
   have hm':=List.mem_of_getElem? he
   have hin:=h.ing e hm'
   have h1:=h.into he (hup _ (qal hin).2)
   have e1:decide ((i:Int)<((D.map Prod.fst).length:Int))=true:=by rw [List.length_map]; exact dlt hlt
   have hx:(D.map Prod.fst)[i]? = some e.1:=by rw [List.getElem?_map,he]; rfl
   have hal:=hs.arcs _ (qal hin).2
   have h2:=qxk hg hN hal (rc:=q26 f n m) n 0 D (by omega) (by omega) (by rw [List.drop_zero]; exact h1)
   rw [Int.ofNat_zero,List.drop_zero] at h2
   have ih:=qxj hg hup hs hn m k (i+1) _ (h1.fold hg).out (by omega) (by omega)
   simp only [e1,cond_true,q22,hx,q0t,(qal hin).1]
   rw [h2]
   simp only [q5q,wr1 hlt (show D.length≤9223372036854775807 by omega)]
   exact ih
theorem qm6 {f:GFS} (h:VOK f) {n:Nat} (hn:1000≤n):q7k n f=some (qhq f.Nodes.length (firD f)):=by
 have hN:=h.s.nodes
 have hp:=h.pos
 have h1:=qxj h.g h.up h.s9 (n:=n) (by omega) n (f.Nodes.length+1) 0 _ (BI.start h.root) (by omega) (by omega)
 have hz:qgx (List.replicate f.Nodes.length false) 0 f.Nodes.length 0=some false:=by
  rw [qgx,if_pos ⟨by omega,by omega⟩]
  simp [List.getElem?_replicate,hp]
 have hn0:(0:Int) ∉ ([]:DP).map Prod.fst:=by simp
 have ho:qhq f.Nodes.length [(0,[])]=List.replicate f.Nodes.length []:=by
  have:=qrv (N:=f.Nodes.length) (D:=[]) (w:=0) (q:=[]) ⟨by omega,by omega⟩ hn0
  rw [List.nil_append] at this
  rw [← this,← out_0]
  cases hL:f.Nodes.length with
  | zero=>omega
  | succ k=>simp [List.replicate_succ]
 rw [Int.ofNat_zero,ho] at h1
 simp only [q7k,q0t,Int.toNat_natCast,hz]
 rw [qe2 (by omega),qe2 (by omega),z1b hp]
 exact h1
def shA (F:DP) (p:List Int) (l:List q15):List q0e:=l.flatMap fun a=>if p++[a.Feat]=fp F a.To then [] else [⟨fp F a.To,p++[a.Feat]⟩]
def shN (f:GFS) (F:DP) (l:List Int):List q0e:=l.flatMap fun v=>shA F (fp F v) (nd f v).Arcs
def qzw (f:GFS):List q0e:=shN f (firD f) (idN f.Nodes.length)
theorem qtt (F:DP) (p:List Int) (a:q15) (l:List q15):shA F p (a::l)=(if p++[a.Feat]=fp F a.To then [] else [⟨fp F a.To,p++[a.Feat]⟩])++shA F p l:=rfl
theorem qsb (F:DP) (p:List Int):∀ l:List q15,(shA F p l).length≤l.length
 | []=>by simp [shA]
 | a::l=>by
  have:=qsb F p l
  rw [qtt,List.length_append]
  split<;>simp<;>omega
theorem FOK.fpl {f:GFS} {D:DP} (h:FOK f D) {v:Int} (hv:InG f v):(v,fp D v)∈D∧(fp D v).length≤f.Nodes.length:=by
 have h1:=fp_in h.nod (h.all v hv)
 have:=h.len _ h1
 have:=h.toBI.bnd
 exact ⟨h1,by simp only at *; omega⟩
theorem qzv {f:GFS} (hg:GOK f) (hN:f.Nodes.length≤900) {F:DP} (hF:FOK f F) {i:Nat} (hi:i<f.Nodes.length) (hal:(nd f i).Arcs.length≤900) {n:Nat} (hn:1000≤n) {rc:Int→List q0e→Option (List q0e)} :
  ∀ (m k:Nat) (acc:List q0e),(nd f i).Arcs.length - k<m→k≤(nd f i).Arcs.length→acc.length+((nd f i).Arcs.length - k)≤900 →
   q2y n (qhq f.Nodes.length F) i rc (nd f i) m k acc=q5n i rc (acc++shA F (fp F i) ((nd f i).Arcs.drop k)) ∧
   q2k n (qhq f.Nodes.length F) i rc (nd f i) m k acc=q52 i rc (acc++shA F (fp F i) ((nd f i).Arcs.drop k))
 | 0,k,acc,hm,_,_=>by omega
 | m+1,k,acc,hm,hk,hac=>by
  have hin:InG f (i:Int):=⟨by omega,by omega⟩
  unfold q2y q2k
  by_cases hkl:k<(nd f i).Arcs.length
  ·obtain ⟨a,ha,ham⟩:=q4w hkl
   have hai:=(hg _ (qal hin).2).arc a ham
   have hto:InG f a.To:=⟨hai.2.1,hai.2.2⟩
   have l1:=(hF.fpl hin).2
   have l2:=(hF.fpl hto).2
   have hl:(fp F i++[a.Feat]).length≤901:=by simp; omega
   rw [drop_cons' ha,qtt]
   simp only [dlt hkl,cond_true,q22,ha,q0t,q5m,q51,wr1 hkl (show (nd f i).Arcs.length≤9223372036854775807 by omega),qtb hto]
   have h3:(qhq f.Nodes.length F)[i]? = some (fp F i):=by rw [← q22]; exact qtb hin
   simp only [h3,q0t,qsj (n:=n) (show (fp F i).length≤1000000 by omega),qyx (p:=fp F i++[a.Feat]) (q:=fp F a.To) (n:=n) (by omega) (by omega),qs8 (p:=fp F i++[a.Feat]) (q:=fp F a.To) (n:=n) (by omega) (by omega),List.length_cons,List.length_nil]
   rw [qe2 (bn (show (fp F i).length+(0+1)≤1000 by omega) (by omega)),qe2 (bn (show (fp F i).length≤1000 by omega) (by omega)),qe2 (bn (show (fp F i).length+(0+1)≤1000 by omega) (by omega))]
   by_cases e:fp F i++[a.Feat]=fp F a.To
   ·have:=qzv hg hN hF hi hal hn (rc:=rc) m (k+1) acc (by omega) (by omega) (by omega)
    rw [if_pos e,List.nil_append]
    simp only [e,decide_true,Bool.not_true,cond_false]
    exact this
   ·have:=qzv hg hN hF hi hal hn (rc:=rc) m (k+1) (acc++[⟨fp F a.To,fp F i++[a.Feat]⟩]) (by omega) (by omega) (by simp; omega)
    have hb:(acc.length+1)*48≤140737488355328∧acc.length+1≤140737488355328:=by omega
    rw [if_neg e]
    simp only [e,decide_false,Bool.not_false,cond_true]
    rw [qe2 hb,qe2 hb,← List.append_assoc]
    exact this
  ·simp only [qka hkl,cond_false]
   rw [drop_nil' hkl]
   simp [shA]
theorem sh_L1 {f:GFS} (h:VOK f) {F:DP} (hF:FOK f F) {n:Nat} (hn:1000≤n) :
  ∀ (m i:Nat) (acc:List q0e),f.Nodes.length - i<m→i≤f.Nodes.length→acc.length≤12*i →
   q25 f n (qhq f.Nodes.length F) m i acc=some (acc++shN f F ((idN f.Nodes.length).drop i)) ∧
   q1v f n (qhq f.Nodes.length F) m i acc=some (acc++shN f F ((idN f.Nodes.length).drop i))
 | 0,i,acc,hm,_,_=>by omega
 | m+1,i,acc,hm,hi,hac=>by
  have hN:=h.s.nodes
  unfold q25 q1v
  by_cases hlt:i<f.Nodes.length
  ·have hin:InG f (i:Int):=⟨by omega,by omega⟩
   have hal:=h.s.arcs _ (qal hin).2
   have h1:=qzv h.g (by omega) hF hlt (by omega) hn (rc:=q25 f n (qhq f.Nodes.length F) m) n 0 acc (by omega) (by omega) (by omega)
   have h2:=qzv h.g (by omega) hF hlt (by omega) hn (rc:=q1v f n (qhq f.Nodes.length F) m) n 0 acc (by omega) (by omega) (by omega)
   have hl:=qsb F (fp F i) (nd f i).Arcs
   have ih:=sh_L1 h hF hn m (i+1) (acc++shA F (fp F i) (nd f i).Arcs) (by omega) (by omega) (by rw [List.length_append]; omega)
   rw [Int.ofNat_zero,List.drop_zero] at h1 h2
   have hd:shN f F ((idN f.Nodes.length).drop i)=shA F (fp F i) (nd f i).Arcs++shN f F ((idN f.Nodes.length).drop (i+1)):=by rw [drop_cons' (qeb hlt)]; rfl
   simp only [dlt hlt,cond_true,q0t,(qal hin).1,h1.1,h2.2,q5n,q52,wr1 hlt (show f.Nodes.length≤9223372036854775807 by omega),hd]
   rw [← List.append_assoc]
   exact ih
  ·simp only [qka hlt,cond_false,q7p,q73]
   rw [List.drop_eq_nil_of_le (by rw [qec]; omega)]
   simp [shN]
theorem qxo {f:GFS} (h:VOK f) {n:Nat} (hn:1000≤n):q62 n f=some (qzw f)∧q8p n f=some (qzw f):=by
 have hN:=h.s.nodes
 have h1:=sh_L1 h (qw3 h) hn n 0 [] (by omega) (by omega) (by simp)
 rw [Int.ofNat_zero,List.drop_zero,List.nil_append] at h1
 simp only [q62,q8p,qar h hn,qm6 h hn,q0t]
 exact h1
theorem z1d {f:GFS} (h:VOK f) {F:DP} (hF:FOK f F):∀ {l:List Int},(∀ v∈l,InG f v)→(∀ x∈shN f F l,∃ v a,InG f v∧a∈(nd f v).Arcs∧x=⟨fp F a.To,fp F v++[a.Feat]⟩)∧(shN f F l).length≤12*l.length
 | [],_=>by simp [shN]
 | v::l,hl=>by
  have hv:=hl v (by simp)
  obtain ⟨i1,i2⟩:=z1d h hF (l:=l) fun u hu=>hl u (by simp [hu])
  have e:shN f F (v::l)=shA F (fp F v) (nd f v).Arcs++shN f F l:=rfl
  have:=qsb F (fp F v) (nd f v).Arcs
  have:=h.s.arcs _ (qal hv).2
  rw [e]
  refine ⟨fun x hx=>?_,by rw [List.length_append,List.length_cons]; omega⟩
  rcases List.mem_append.1 hx with hx | hx
  ·obtain ⟨a,ha,hx⟩:=List.mem_flatMap.1 hx
   split at hx
   ·cases hx
   ·simp at hx
    exact ⟨v,a,hv,ha,hx⟩
  ·exact i1 x hx
theorem z0o {f:GFS}:∀ v∈idN f.Nodes.length,InG f v:=fun v hv=>by
 obtain ⟨i,hi,rfl⟩:=List.mem_map.1 hv
 have:=List.mem_range.1 hi
 exact ⟨by omega,by omega⟩
theorem qn3 {l:List (List Int)} (hl:l.length≤1000) (hp:∀ p∈l,p.length≤1000) {n:Nat} (hn:1000<n):q3y n l l=some true:=by
 have key:∀ (m i:Nat),l.length - i<m→i≤l.length→q2n l l n m i=some true:=by
  intro m
  induction m with
  | zero=>intro i hm; omega
  | succ m ih =>
   intro i hm hi
   unfold q2n
   by_cases hlt:i<l.length
   ·obtain ⟨x,hx,hxm⟩:=q4w hlt
    have:=hp x hxm
    simp only [dlt hlt,cond_true,q22,hx,q0t,qs7 (p:=x) (q:=x) (n:=n) (by omega) (by omega),decide_true,Bool.not_true,cond_false,wr1 hlt (show l.length≤9223372036854775807 by omega)]
    exact ih (i+1) (by omega) (by omega)
   ·simp only [qka hlt,cond_false,q4s]
 have:=key n 0 (by omega) (by omega)
 rw [Int.ofNat_zero] at this
 simp [q3y,this]
theorem qm8 {l:List q0e} (hl:l.length≤1000) (hp:∀ x∈l,x.A.length≤1000∧x.B.length≤1000) {n:Nat} (hn:1000<n):q2p n l l=some true:=by
 have key:∀ (m i:Nat),l.length - i<m→i≤l.length→q2g l l n m i=some true:=by
  intro m
  induction m with
  | zero=>intro i hm; omega
  | succ m ih =>
   intro i hm hi
   unfold q2g
   by_cases hlt:i<l.length
   ·obtain ⟨x,hx,hxm⟩:=q4w hlt
    have:=hp x hxm
    simp only [dlt hlt,cond_true,q22,hx,q0t,qs8 (p:=x.A) (q:=x.A) (n:=n) (by omega) (by omega),qs8 (p:=x.B) (q:=x.B) (n:=n) (by omega) (by omega),decide_true,Bool.not_true,cond_false,wr1 hlt (show l.length≤9223372036854775807 by omega)]
    exact ih (i+1) (by omega) (by omega)
   ·simp only [qka hlt,cond_false,q47]
 have:=key n 0 (by omega) (by omega)
 rw [Int.ofNat_zero] at this
 simp [q2p,this]
theorem qur {f:GFS} (h:VOK f) {F:DP} (hF:FOK f F):∀ p∈qhq f.Nodes.length F,p.length≤12:=fun p hp=>by
 obtain ⟨v,hv,rfl⟩:=List.mem_map.1 hp
 have:=(hF.fpl (z0o v hv)).2
 have:=h.s.nodes
 omega
theorem quh (f:GFS) {n:Nat} (hn:3000000≤n):q5s n f=some true:=by
 obtain ⟨b,h1,h2⟩:=z03 (f:=f) hn
 have hex:=ex_n (show 200≤n by omega)
 simp only [q5s,h1,hex,q0t]
 cases b with
 | false=>simp [q0t]
 | true =>
  have hv:=h2 rfl
  have hN:=hv.s.nodes
  have hF:=qw3 hv
  have hs:=qxo hv (show 1000≤n by omega)
  have a1:=qn3 (l:=qhq f.Nodes.length (firD f)) (by rw [qkj]; omega) (fun p hp=>by have:=qur hv hF p hp; omega) (show 1000<n by omega)
  obtain ⟨s1,s2⟩:=z1d hv hF (l:=idN f.Nodes.length) z0o
  rw [qec] at s2
  have a2:=qm8 (l:=qzw f) (by unfold qzw; omega) (fun x hx=>by
   obtain ⟨v,a,i1,i2,rfl⟩:=s1 x hx
   have hai:=(hv.g _ (qal i1).2).arc a i2
   have:=(hF.fpl i1).2
   have:=(hF.fpl (v:=a.To) ⟨hai.2.1,hai.2.2⟩).2
   simp
   omega) (show 1000<n by omega)
  simp [qar hv (show 1000≤n by omega),qm6 hv (show 1000≤n by omega),hs.1,hs.2,q0t,a1,a2]
end Go.Proofs
end
