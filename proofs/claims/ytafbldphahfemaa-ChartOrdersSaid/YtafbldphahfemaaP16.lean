/-
  Texts of the walk: SrtI C0 C2 C3 C4 PlA C5.
-/
import Derived.Shelf.SlSortCmp.Whole1
import Derived.Test.YtafbldphahfemaaP15
section
namespace Go.Proofs
open Go
set_option maxRecDepth 100000
def Try.sortI_ren:Shelf.Ren where
 f:=fun x=>match x with
  | 6=>44
  | 15=>57
  | 14=>56
  | 28=>68
  | 29=>69
  | 20=>60
  | 21=>61
  | 22=>62
  | 23=>63
  | 24=>64
  | 25=>65
  | 26=>66
  | 27=>67
  | 46=>70
  | 47=>71
  | 48=>72
  | 49=>73
  | 50=>74
  | 57=>75
  | n=>n
 t:=fun x=>match x with
  | 22=>34
  | 24=>3
  | 25=>67
  | 3=>3
  | 39=>79
  | 0=>0
  | 53=>92
  | 55=>80
  | 4=>4
  | 46=>85
  | 45=>84
  | 50=>89
  | 5=>5
  | 9=>9
  | 66=>94
  | 70=>98
  | 76=>100
  | 77=>101
  | n=>n
 g:=fun x=>x
theorem Try.sortI:SlLaysF.n6 Try.prog Try.sortI_ren where
 mixed:=rfl
 f6:=⟨Try.f44.name,by decide,Try.func44.trans rfl⟩
 f14:=⟨Try.f56.name,by decide,Try.func56.trans rfl⟩
 f15:=Try.func57.trans rfl
 f20:=⟨Try.f60.name,by decide,Try.func60.trans rfl⟩
 f21:=⟨Try.f61.name,by decide,Try.func61.trans rfl⟩
 f22:=⟨Try.f62.name,by decide,Try.func62.trans rfl⟩
 f23:=⟨Try.f63.name,by decide,Try.func63.trans rfl⟩
 f24:=⟨Try.f64.name,by decide,Try.func64.trans rfl⟩
 f25:=⟨Try.f65.name,by decide,Try.func65.trans rfl⟩
 f26:=⟨Try.f66.name,by decide,Try.func66.trans rfl⟩
 f27:=⟨Try.f67.name,by decide,Try.func67.trans rfl⟩
 f28:=Try.func68.trans rfl
 f29:=Try.func69.trans rfl
 f46:=⟨Try.f70.name,by decide,Try.func70.trans rfl⟩
 f47:=Try.func71.trans rfl
 f48:=Try.func72.trans rfl
 f49:=⟨Try.f73.name,by decide,Try.func73.trans rfl⟩
 f50:=⟨Try.f74.name,by decide,Try.func74.trans rfl⟩
 f57:=⟨Try.f75.name,by decide,Try.func75.trans rfl⟩
 t0:=Try.underlying0
 a0:=Try.isAgg0
 z0:=Try.sizeOf0
 v0:=Try.zeroValue0
 t3:=Try.underlying3
 a3:=Try.isAgg3
 z3:=Try.sizeOf3
 v3:=Try.zeroValue3
 t4:=Try.underlying4
 a4:=Try.isAgg4
 z4:=Try.sizeOf4
 v4:=Try.zeroValue4
 t5:=Try.underlying5
 a5:=Try.isAgg5
 z5:=Try.sizeOf5
 v5:=Try.zeroValue5
 t9:=Try.underlying9
 a9:=Try.isAgg9
 z9:=Try.sizeOf9
 v9:=Try.zeroValue9
 t22:=Try.underlying34
 a22:=Try.isAgg34
 z22:=Try.sizeOf34
 v22:=Try.zeroValue34
 a24:=Try.isAgg3
 z24:=Try.sizeOf3
 t25:=Try.underlying67
 a25:=Try.isAgg67
 z25:=Try.sizeOf67
 v25:=Try.zeroValue67
 t39:=Try.underlying79
 a39:=Try.isAgg79
 z39:=Try.sizeOf79
 v39:=Try.zeroValue79
 t45:=Try.underlying84
 a45:=Try.isAgg84
 z45:=Try.sizeOf84
 v45:=Try.zeroValue84
 t46:=Try.underlying85
 a46:=Try.isAgg85
 z46:=Try.sizeOf85
 v46:=Try.zeroValue85
 t50:=Try.underlying89
 a50:=Try.isAgg89
 z50:=Try.sizeOf89
 v50:=Try.zeroValue89
 t53:=Try.underlying92
 a53:=Try.isAgg92
 z53:=Try.sizeOf92
 v53:=Try.zeroValue92
 t55:=Try.underlying80
 a55:=Try.isAgg80
 z55:=Try.sizeOf80
 v55:=Try.zeroValue80
 t66:=Try.underlying94
 a66:=Try.isAgg94
 z66:=Try.sizeOf94
 v66:=Try.zeroValue94
 t70:=Try.underlying98
 a70:=Try.isAgg98
 z70:=Try.sizeOf98
 v70:=Try.zeroValue98
 t76:=Try.underlying100
 a76:=Try.isAgg100
 z76:=Try.sizeOf100
 v76:=Try.zeroValue100
 t77:=Try.underlying101
 a77:=Try.isAgg101
 z77:=Try.sizeOf101
 v77:=Try.zeroValue101
end Go.Proofs
end
section
namespace Go.Proofs
open Go Go.Rx Go.Vx Go.Shelf
def q7t (n:Nat) (x:Int):Option Int:=cond (x == 0) (some 0) none
theorem qb9 (n:Nat) (p1:Int) (r:Int) (hF:q7t n p1=some r) (σ:Sg):EvU Try.prog 57 [.int .u64 p1] σ (fun u σ'=>u = .int .i64 r∧σ'=σ):=by
 unfold q7t at hF
 cases hp:(p1 == 0) with
 | false=>rw [hp] at hF; cases hF
 | true =>
  rw [hp] at hF
  simp at hF hp
  subst hF; subst hp
  refine EvU.of_same (vs:=[.int .u64 0]) (cv:=.int .i64 0) rfl (fun m=>by simp [renL,ren]) rfl (fun m=>by simp [ren]) (fun w=>?_) σ
  have h:=Any.bits_Len (SlLaysF0.n15.bits (P:=Try.prog) (ρ:=Try.sortI_ren) { Try.sortI with }) 0 w (by omega) (by omega)
  exact h
end Go.Proofs
end
section
namespace Go.Proofs
open Go Go.Rx Go.Vx Try
set_option maxRecDepth 10000
set_option linter.unusedSimpArgs false
set_option linter.unusedVariables false
def q14   : Option (Unit) :=
 some ()
def q15  : Nat→Option (Unit)
 | 0=>none
 | m1+1 =>
  q14
def q0s (f3:Int→Int→GChart→(List GDeriv)→Option (Int)) (n:Nat) (c1:GChart) (c2:List GDeriv):Option (Unit) :=
 q15 n
theorem q3x (f3:Int→Int→GChart→(List GDeriv)→Option (Int)) (hf3:∀ (a0:Int) (a1:Int) (a2:GChart) (a3:List GDeriv) (r:Int),f3 a0 a1 a2 a3=some r→EvU Try.prog 45 [.int .i64 a0,.int .i64 a1,.iptr (cGChart a2),.iptr [.isl false (List.map cGDeriv a3)]] ⟨[],0⟩ (fun u _=>u = .int .i64 r∧Bel 0 u)) (n:Nat) (c1:GChart) (c2:List GDeriv) (r:Unit) (hF:q0s f3 n c1 c2=some r):EvU Try.prog 60 [.isl false (List.map (cI .i64) ([]:List Int)),.int .i64 0,.int .i64 0,.fn (.func 45) [] [.iptr (cGChart c1),.iptr [.isl false (List.map cGDeriv c2)]]] ⟨[],0⟩ (fun u _=>u = .tup []∧Bel 0 u):=by
 unfold q0s at hF
 have hf3S:∀ (a0:Int) (a1:Int) (a2:GChart) (a3:List GDeriv) (r:Int),f3 a0 a1 a2 a3=some r→∀ σ,EvU Try.prog 45 [.int .i64 a0,.int .i64 a1,.iptr (cGChart a2),.iptr [.isl false (List.map cGDeriv a3)]] σ (fun u σ'=>u = .int .i64 r∧σ'=σ):=fun a0 a1 a2 a3 r h σ=>EvU.pure1C (hf3 a0 a1 a2 a3 r h) σ
 refine EvU.of_body Try.tb_ok fn60 rfl ?_
 refine WPU.ghost (tm':=fr 53 [(0,.isl false (List.map (cI .i64) ([]:List Int))),(1,.int .i64 0),(2,.int .i64 0),(3,.fn (.func 45) [] [.iptr (cGChart c1),.iptr [.isl false (List.map cGDeriv c2)]])]) (Gh.start (Nat.le_of_ble_eq_true rfl)) (Nat.zero_le _) ?_
 refine sr ?_
 refine RS.q rfl (q02 rfl rfl (q32 _ _ _) rfl) ?_
 refine sd ?_
 refine WPU.ghost (tm':=fr 53 [(0,.isl false (List.map (cI .i64) ([]:List Int))),(1,.int .i64 0),(2,.int .i64 0),(3,.fn (.func 45) [] [.iptr (cGChart c1),.iptr [.isl false (List.map cGDeriv c2)]]),(8,.int .i64 1)]) (Gh.sub ⟨rfl,rfl,rfl,rfl,rfl,trivial⟩) (Nat.zero_le _) ?_
 refine WPU.loopK (fun m tm σ=>q15 m=some r∧tm=fr 53 [(0,.isl false (List.map (cI .i64) ([]:List Int))),(1,.int .i64 0),(2,.int .i64 0),(3,.fn (.func 45) [] [.iptr (cGChart c1),.iptr [.isl false (List.map cGDeriv c2)]]),(8,.int .i64 1)]∧σ=⟨[],0⟩) (fun tm σ=>q14=some r∧tm=fr 53 []∧σ=⟨[],0⟩) n ⟨hF,rfl,rfl⟩ ?_ ?_
 rintro _ _ ⟨hF,rfl,rfl⟩
 unfold q14 at hF
 refine st ?_
 have hr:=Option.some.inj hF
 subst hr
 exact ⟨.inl rfl,[],q0q,.tup [],⟨[],0⟩,Nat.le_refl _,Gh.toR (.tup []) rfl,rfl,BU.h⟩
 rintro m1 _ _ ⟨hF,rfl,rfl⟩
 rcases m1 with _ | m1
 cases hF
 unfold q15 at hF
 refine sr ?_
 repeat refine RS.mv rfl rfl rfl rfl ?_
 refine RS.q rfl (q02 rfl rfl (q1i _ _ _) rfl) ?_
 refine sd ?_
 refine WPU.condS (t:=false) rfl (fun hc=>by cases hc) (fun _=>?_)
 refine st ?_
 refine WPU.exit ?_
 refine st ?_
 exact ⟨_,_,⟨hF,rfl,rfl⟩,(Nat.zero_le _),Gh.toC (n1:=0) trivial rfl (Nat.zero_le _) (by simp)⟩
theorem q3q (f3:Int→Int→GChart→(List GDeriv)→Option (Int)) (hf3:∀ (a0:Int) (a1:Int) (a2:GChart) (a3:List GDeriv) (r:Int),f3 a0 a1 a2 a3=some r→EvU Try.prog 45 [.int .i64 a0,.int .i64 a1,.iptr (cGChart a2),.iptr [.isl false (List.map cGDeriv a3)]] ⟨[],0⟩ (fun u _=>u = .int .i64 r∧Bel 0 u)) (n:Nat) (c1:GChart) (c2:List GDeriv) (r:Unit) (hF:q0s f3 n c1 c2=some r) (σ:Sg):EvU Try.prog 60 [.isl false (List.map (cI .i64) ([]:List Int)),.int .i64 0,.int .i64 0,.fn (.func 45) [] [.iptr (cGChart c1),.iptr [.isl false (List.map cGDeriv c2)]]] σ (fun u σ'=>u = .tup []∧σ'=σ) :=
 EvU.pure1C (q3x f3 hf3 n c1 c2 r hF) σ
def q1k (c2:GChart) (c3:List GDeriv) (f4:Int→Int→GChart→(List GDeriv)→Option (Int)) (n:Nat):Nat→Option (Unit)
 | 0=>none
 | m1+1 =>
  bindO (q0s f4 n c2 c3) fun r4 =>
  some ()
def q1e (f4:Int→Int→GChart→(List GDeriv)→Option (Int)) (n:Nat) (p1:Int) (c2:GChart) (c3:List GDeriv):Option (Unit) :=
 q1k c2 c3 f4 n n
theorem q4w (f4:Int→Int→GChart→(List GDeriv)→Option (Int)) (hf4:∀ (a0:Int) (a1:Int) (a2:GChart) (a3:List GDeriv) (r:Int),f4 a0 a1 a2 a3=some r→EvU Try.prog 45 [.int .i64 a0,.int .i64 a1,.iptr (cGChart a2),.iptr [.isl false (List.map cGDeriv a3)]] ⟨[],0⟩ (fun u _=>u = .int .i64 r∧Bel 0 u)) (n:Nat) (p1:Int) (c2:GChart) (c3:List GDeriv) (r:Unit) (hF:q1e f4 n p1 c2 c3=some r):EvU Try.prog 56 [.isl false (List.map (cI .i64) ([]:List Int)),.int .i64 0,.int .i64 0,.int .i64 p1,.fn (.func 45) [] [.iptr (cGChart c2),.iptr [.isl false (List.map cGDeriv c3)]]] ⟨[],0⟩ (fun u _=>u = .tup []∧Bel 0 u):=by
 unfold q1e at hF
 have hf4S:∀ (a0:Int) (a1:Int) (a2:GChart) (a3:List GDeriv) (r:Int),f4 a0 a1 a2 a3=some r→∀ σ,EvU Try.prog 45 [.int .i64 a0,.int .i64 a1,.iptr (cGChart a2),.iptr [.isl false (List.map cGDeriv a3)]] σ (fun u σ'=>u = .int .i64 r∧σ'=σ):=fun a0 a1 a2 a3 r h σ=>EvU.pure1C (hf4 a0 a1 a2 a3 r h) σ
 refine EvU.of_body Try.tb_ok fn56 rfl ?_
 refine WPU.ghost (tm':=fr 148 [(0,.isl false (List.map (cI .i64) ([]:List Int))),(1,.int .i64 0),(2,.int .i64 0),(3,.int .i64 p1),(4,.fn (.func 45) [] [.iptr (cGChart c2),.iptr [.isl false (List.map cGDeriv c3)]])]) (Gh.start (Nat.le_of_ble_eq_true rfl)) (Nat.zero_le _) ?_
 refine sr ?_
 refine se ?_
 refine sd ?_
 refine WPU.ghost (tm':=fr 148 [(0,.isl false (List.map (cI .i64) ([]:List Int))),(1,.int .i64 0),(2,.int .i64 0),(3,.int .i64 p1),(4,.fn (.func 45) [] [.iptr (cGChart c2),.iptr [.isl false (List.map cGDeriv c3)]]),(10,.bool true),(11,.bool true)]) (Gh.sub ⟨rfl,rfl,rfl,rfl,rfl,rfl,rfl,trivial⟩) (Nat.zero_le _) ?_
 refine WPU.loopK (fun m tm σ=>q1k c2 c3 f4 n m=some r∧tm=fr 148 [(0,.isl false (List.map (cI .i64) ([]:List Int))),(1,.int .i64 0),(2,.int .i64 0),(3,.int .i64 p1),(4,.fn (.func 45) [] [.iptr (cGChart c2),.iptr [.isl false (List.map cGDeriv c3)]]),(10,.bool true),(11,.bool true)]∧σ=⟨[],0⟩) (fun _ _=>False) n ⟨hF,rfl,rfl⟩ ?_ ?_
 rintro _ _ h; exact h.elim
 rintro m1 _ _ ⟨hF,rfl,rfl⟩
 rcases m1 with _ | m1
 cases hF
 unfold q1k at hF
 refine st ?_
 refine WPU.block ?_
 refine sr ?_
 repeat refine RS.mv rfl rfl rfl rfl ?_
 refine RS.q rfl (q02 rfl rfl (ix_sub _ _ _) rfl) ?_
 refine se ?_
 refine RS.q rfl (q02 rfl rfl (ix_leq _ _ _) rfl) ?_
 refine sd ?_
 refine WPU.condS (t:=true) rfl (fun _=>?_) (fun hc=>by cases hc)
 refine st ?_
 obtain ⟨r4,h5,hF⟩:=q01 hF
 refine sr ?_
 repeat refine RS.mv rfl rfl rfl rfl ?_
 refine RS.call (u:=.tup []) (args:=[.isl false (List.map (cI .i64) ([]:List Int)),.int .i64 0,.int .i64 0,.fn (.func 45) [] [.iptr (cGChart c2),.iptr [.isl false (List.map cGDeriv c3)]]]) rfl (q0b rfl rfl fn60 hb60 rfl rfl) (q3q f4 hf4 n c2 c3 r4 h5 _) rfl rfl ?_
 refine sd ?_
 refine WPU.ret ?_
 refine st ?_
 have hr:=Option.some.inj hF
 subst hr
 exact ⟨.inr rfl,[],q0q,.tup [],⟨[],0⟩,Nat.le_refl _,Gh.toR (.tup []) rfl,rfl,BU.h⟩
theorem q4l (f4:Int→Int→GChart→(List GDeriv)→Option (Int)) (hf4:∀ (a0:Int) (a1:Int) (a2:GChart) (a3:List GDeriv) (r:Int),f4 a0 a1 a2 a3=some r→EvU Try.prog 45 [.int .i64 a0,.int .i64 a1,.iptr (cGChart a2),.iptr [.isl false (List.map cGDeriv a3)]] ⟨[],0⟩ (fun u _=>u = .int .i64 r∧Bel 0 u)) (n:Nat) (p1:Int) (c2:GChart) (c3:List GDeriv) (r:Unit) (hF:q1e f4 n p1 c2 c3=some r) (σ:Sg):EvU Try.prog 56 [.isl false (List.map (cI .i64) ([]:List Int)),.int .i64 0,.int .i64 0,.int .i64 p1,.fn (.func 45) [] [.iptr (cGChart c2),.iptr [.isl false (List.map cGDeriv c3)]]] σ (fun u σ'=>u = .tup []∧σ'=σ) :=
 EvU.pure1C (q4w f4 hf4 n p1 c2 c3 r hF) σ
def q43 (f1:Int→Int→GChart→(List GDeriv)→Option (Int)) (n:Nat) (c1:GChart) (c2:List GDeriv):Option (Unit) :=
 bindO (q7t n 0) fun r3 =>
 bindO (q1e f1 n r3 c1 c2) fun r5 =>
 some ()
theorem q6b (f1:Int→Int→GChart→(List GDeriv)→Option (Int)) (hf1:∀ (a0:Int) (a1:Int) (a2:GChart) (a3:List GDeriv) (r:Int),f1 a0 a1 a2 a3=some r→EvU Try.prog 45 [.int .i64 a0,.int .i64 a1,.iptr (cGChart a2),.iptr [.isl false (List.map cGDeriv a3)]] ⟨[],0⟩ (fun u _=>u = .int .i64 r∧Bel 0 u)) (n:Nat) (c1:GChart) (c2:List GDeriv) (r:Unit) (hF:q43 f1 n c1 c2=some r):EvU Try.prog 44 [.isl false (List.map (cI .i64) ([]:List Int)),.fn (.func 45) [] [.iptr (cGChart c1),.iptr [.isl false (List.map cGDeriv c2)]]] ⟨[],0⟩ (fun u _=>u = .tup []∧Bel 0 u):=by
 unfold q43 at hF
 have hf1S:∀ (a0:Int) (a1:Int) (a2:GChart) (a3:List GDeriv) (r:Int),f1 a0 a1 a2 a3=some r→∀ σ,EvU Try.prog 45 [.int .i64 a0,.int .i64 a1,.iptr (cGChart a2),.iptr [.isl false (List.map cGDeriv a3)]] σ (fun u σ'=>u = .int .i64 r∧σ'=σ):=fun a0 a1 a2 a3 r h σ=>EvU.pure1C (hf1 a0 a1 a2 a3 r h) σ
 refine EvU.of_body Try.tb_ok fn44 rfl ?_
 refine WPU.ghost (tm':=fr 14 [(0,.isl false (List.map (cI .i64) ([]:List Int))),(1,.fn (.func 45) [] [.iptr (cGChart c1),.iptr [.isl false (List.map cGDeriv c2)]])]) (Gh.start (Nat.le_of_ble_eq_true rfl)) (Nat.zero_le _) ?_
 refine sr ?_
 refine RS.q rfl (q0i rfl rfl rfl (q0d (cI .i64) und34)) ?_
 refine sd ?_
 obtain ⟨r3,h4,hF⟩:=q01 hF
 obtain ⟨r5,h6,hF⟩:=q01 hF
 refine sr ?_
 repeat refine RS.mv rfl rfl rfl rfl ?_
 refine RS.q (u:=.int .u64 0) rfl (qca rfl rfl (by simp only [convX,und3,und79]<;>rfl) rfl) ?_
 refine RS.call (u:=.int .i64 r3) (args:=[.int .u64 0]) rfl (q0b rfl rfl fn57 hb57 rfl rfl) (qb9 n 0 r3 h4 _) rfl rfl (RS.mv rfl rfl rfl rfl (RS.call (u:=.tup []) (args:=[.isl false (List.map (cI .i64) ([]:List Int)),.int .i64 0,.int .i64 0,.int .i64 r3,.fn (.func 45) [] [.iptr (cGChart c1),.iptr [.isl false (List.map cGDeriv c2)]]]) rfl (q0b rfl rfl fn56 hb56 rfl rfl) (q4l f1 hf1 n r3 c1 c2 r5 h6 _) rfl rfl ?_))
 refine sd ?_
 have hr:=Option.some.inj hF
 subst hr
 exact ⟨.inl rfl,[],q0q,.tup [],⟨[],0⟩,Nat.le_refl _,Gh.toR (.tup []) rfl,rfl,BU.h⟩
end Go.Proofs
end
section
namespace Go.Proofs
open Go Go.Rx Go.Vx Go.Shelf Go.Sort
set_option linter.unusedVariables false
set_option linter.unusedSimpArgs false
set_option maxRecDepth 10000
theorem sortOneI:SortOne Try.prog 44 45:=fun α _ enc cf h1 hO cb blk off cap d w hc hH hb hs =>
 Any.slices_SortFunc Try.sortI enc h1 cf hO 45 cb blk off cap d w (enters_of Try.func45 (by kernel_rfl) rfl) hc hH hb hs
theorem srtI_nil (c2:GChart) (c3:List GDeriv):EvU Try.prog 44 [.isl false [],.fn (.func 45) [] [.iptr (cGChart c2),.iptr [.isl false (List.map cGDeriv c3)]]] ⟨[],0⟩ (fun u _=>u = .tup []∧Bel 0 u) :=
 q6b (fun _ _ _ _=>none) (fun a0 a1 a2 a3 r h=>by cases h) 1 c2 c3 () rfl
theorem srtI_caps (c2:GChart) (c3:List GDeriv):BelL 0 [.iptr (cGChart c2),.iptr [.isl false (List.map cGDeriv c3)]]:=BUL.h
theorem srtI_okR (c2:GChart) (c3:List GDeriv) {f1:Int→Int→Option Int} (hcmp:∀ a b r,f1 a b=some r→EvU Try.prog 45 [.int .i64 a,.int .i64 b,.iptr (cGChart c2),.iptr [.isl false (List.map cGDeriv c3)]] ⟨[],0⟩ (fun u _=>u = .int .i64 r∧Bel 0 u))
  (xs ys:List Int) (h:sortO (fun x y=>x == y) f1 xs=some ys) (σ:Sg) {K n:Nat} {e:TypeId} (hn:n=xs.length) (hK:Nat.blt K σ.nx=true) (hg:gt σ.h K=some (.row (xs.map (cI .i64)).flatten e)) :
  EvU Try.prog 44 [.sl K 0 n n,.fn (.func 45) [] [.iptr (cGChart c2),.iptr [.isl false (List.map cGDeriv c3)]]] σ (fun u σ'=>u = .tup []∧σ'=⟨ug σ.h K (.row (ys.map (cI .i64)).flatten e),σ.nx⟩) :=
 sortO_okR1 (encU1:=fun z:Int=>.int .i64 z) (fun _=>rfl) (fun _=>trivial) (srtI_caps c2 c3) sortOneI (fun x y h=>by simpa using h) (srtI_nil c2 c3) hcmp xs ys h σ hn hK hg
end Go.Proofs
end
section
namespace Go.Proofs
open Go Go.Rx Go.Vx Try
set_option maxRecDepth 10000
set_option linter.unusedSimpArgs false
set_option linter.unusedVariables false
def q5q (z37:Int) (l38:List GEdge) (rc3:Int→(List GEdge)→Option (GChart)) (x45:GEdge) (l74:List Int):Option (GChart) :=
 needO ((x45.Kids.length:Int).toNat=l74.length) (
 needO ((l38.length+1)*160≤140737488355328∧l38.length+1≤140737488355328) (
 rc3 (IntKind.i64.wrap (z37+1)) (l38++[(GEdge.mk x45.From x45.To x45.Unary x45.Kind x45.Name l74 x45.Lex x45.FS)])))
def q3s (p1:GChart) (l28:List Int) (z37:Int) (l38:List GEdge) (rc3:Int→(List GEdge)→Option (GChart)) (x45:GEdge):Nat→Int→(List Int)→Option (GChart)
 | 0,_,_=>none
 | m4+1,z72,l73 =>
  cond (decide (z72<(x45.Kids.length:Int)))
   (bindO (idxO x45.Kids z72) fun x78 =>
   bindO (idxV l28 0 ((((p1.Edges.length:Int).toNat:Nat):Int).toNat) x78) fun x80 =>
   bindO (idxV l73 0 ((x45.Kids.length:Int).toNat) z72) fun x82 =>
   (q3s p1 l28 z37 l38 rc3 x45 m4) (IntKind.i64.wrap (z72+1)) (l73.set z72.toNat x80))
   (q5q z37 l38 rc3 x45 l73)
def q5p (p1:GChart) (l40:List GEdge):Option (GChart) :=
 some (GChart.mk p1.Words l40)
def q2c (p1:GChart) (n:Nat) (r18:List Int) (l28:List Int):Nat→Int→(List GEdge)→Option (GChart)
 | 0,_,_=>none
 | m3+1,z37,l38 =>
  cond (decide (z37<(((p1.Edges.length:Int).toNat:Nat):Int)))
   (bindO (idxV r18 0 ((p1.Edges.length:Int).toNat) z37) fun x43 =>
   bindO (idxO p1.Edges x43) fun x45 =>
   needO (0≤(x45.Kids.length:Int)∧8*(x45.Kids.length:Int).toNat≤281474976710656∧(x45.Kids.length:Int)≤281474976710656) (
   q3s p1 l28 z37 l38 (q2c p1 n r18 l28 m3) x45 n 0 (List.replicate (x45.Kids.length:Int).toNat 0)))
   (q5p p1 l38)
def q4g (p1:GChart) (n:Nat) (r18:List Int) (l28:List Int):Option (GChart) :=
 q2c p1 n r18 l28 n 0 ([]:List GEdge)
def q39 (p1:GChart) (n:Nat) (r18:List Int):Nat→Int→(List Int)→Option (GChart)
 | 0,_,_=>none
 | m2+1,z26,l27 =>
  cond (decide (z26<(((p1.Edges.length:Int).toNat:Nat):Int)))
   (bindO (idxV r18 0 ((p1.Edges.length:Int).toNat) z26) fun x85 =>
   bindO (idxV l27 0 ((((p1.Edges.length:Int).toNat:Nat):Int).toNat) x85) fun x87 =>
   (q39 p1 n r18 m2) (IntKind.i64.wrap (z26+1)) (l27.set x85.toNat z26))
   (q4g p1 n r18 l27)
def q4f (p1:GChart) (n:Nat) (l14:List GDeriv) (l15:List Int):Option (GChart) :=
 needO ((p1.Edges.length:Int).toNat=l14.length) (
 needO ((p1.Edges.length:Int).toNat=l15.length) (
 bindO (sortO (fun x y=>x == y) (fun a b=>q45 n a b p1 l14) l15) fun r18 =>
 needO (0≤(((p1.Edges.length:Int).toNat:Nat):Int)∧8*(((p1.Edges.length:Int).toNat:Nat):Int).toNat≤281474976710656∧(((p1.Edges.length:Int).toNat:Nat):Int)≤281474976710656) (
 q39 p1 n r18 n 0 (List.replicate (((p1.Edges.length:Int).toNat:Nat):Int).toNat 0))))
def q3r (p1:GChart) (n:Nat):Nat→Int→(List GDeriv)→(List Int)→Option (GChart)
 | 0,_,_,_=>none
 | m1+1,z11,l12,l13 =>
  cond (decide (z11<(((p1.Edges.length:Int).toNat:Nat):Int)))
   (bindO (q4s n p1 z11) fun r90 =>
   bindO (idxV l13 0 ((p1.Edges.length:Int).toNat) z11) fun x92 =>
   bindO (idxV l12 0 ((p1.Edges.length:Int).toNat) z11) fun x94 =>
   (q3r p1 n m1) (IntKind.i64.wrap (z11+1)) (l12.set z11.toNat r90) (l13.set z11.toNat z11))
   (q4f p1 n l12 l13)
def q3l (n:Nat) (p1:GChart):Option (GChart) :=
 needO (0≤(p1.Edges.length:Int)∧8*(p1.Edges.length:Int).toNat≤281474976710656∧(p1.Edges.length:Int)≤281474976710656) (
 needO (0≤(p1.Edges.length:Int)∧64*(p1.Edges.length:Int).toNat≤281474976710656∧(p1.Edges.length:Int)≤281474976710656) (
 q3r p1 n n 0 (List.replicate (p1.Edges.length:Int).toNat (GDeriv.mk 0 [] 0 0 [])) (List.replicate (p1.Edges.length:Int).toNat 0)))
theorem chart_Canon_0 (n:Nat) (p1:GChart) (r:GChart) (hF:q3l n p1=some r):EvU Try.prog 25 [.agg (cGChart p1)] ⟨[],0⟩ (fun u _=>u = .agg (cGChart r)∧Bel 0 u):=by
 unfold q3l at hF
 refine EvU.of_body Try.tb_ok fn25 rfl ?_
 refine WPU.ghost (tm':=fr 102 [(0,.agg (cGChart p1))]) (Gh.start (Nat.le_of_ble_eq_true rfl)) (Nat.zero_le _) ?_
 refine sr ?_
 refine RS.q (u:=.ptr 0 0 0) (σ':=⟨[(0,.row (cGChart p1) 24)],1⟩) rfl (q2v rfl rfl rfl) (RS.q (u:=.ptr 1 0 0) (σ':=⟨[(1,.row [.int .i64 0,.nils] 24),(0,.row (cGChart p1) 24)],2⟩) rfl (q1d inf24 rfl rfl) ?_)
 refine sd ?_
 obtain ⟨h2,hF⟩:=q0y hF
 refine sr ?_
 refine RS.q (u:=.ptr 0 0 1) rfl (q06 und24 rfl (q00 inf22) rfl rfl rfl) (RS.q (u:=.isl false (List.map cGEdge p1.Edges)) rfl (q05 und22 rfl rfl rfl rfl) (RS.q rfl (q0i rfl rfl rfl (q0d cGEdge und22)) (RS.q (u:=.sl 2 0 ((p1.Edges.length:Int).toNat) ((p1.Edges.length:Int).toNat)) (σ':=⟨[(2,.row (List.map (cI .i64) (List.replicate (p1.Edges.length:Int).toNat 0)).flatten 3),(1,.row [.int .i64 0,.nils] 24),(0,.row (cGChart p1) 24)],3⟩) rfl (op_mks (cI .i64) 0 rfl rfl und34 inf3 rfl rfl rfl rfl h2) ?_)))
 refine sd ?_
 obtain ⟨h3,hF⟩:=q0y hF
 refine sr ?_
 refine RS.q (u:=.ptr 0 0 1) rfl (q06 und24 rfl (q00 inf22) rfl rfl rfl) (RS.q (u:=.isl false (List.map cGEdge p1.Edges)) rfl (q05 und22 rfl rfl rfl rfl) (RS.q rfl (q0i rfl rfl rfl (q0d cGEdge und22)) (RS.q (u:=.sl 3 0 ((p1.Edges.length:Int).toNat) ((p1.Edges.length:Int).toNat)) (σ':=⟨[(3,.row (List.map cGDeriv (List.replicate (p1.Edges.length:Int).toNat (GDeriv.mk 0 [] 0 0 []))).flatten 37),(2,.row (List.map (cI .i64) (List.replicate (p1.Edges.length:Int).toNat 0)).flatten 3),(1,.row [.int .i64 0,.nils] 24),(0,.row (cGChart p1) 24)],4⟩) rfl (op_mks cGDeriv (GDeriv.mk 0 [] 0 0 []) rfl rfl und35 inf37 rfl rfl rfl rfl h3) (RS.q (u:=.ptr 4 0 0) (σ':=⟨[(4,.row [.nils] 35),(3,.row (List.map cGDeriv (List.replicate (p1.Edges.length:Int).toNat (GDeriv.mk 0 [] 0 0 []))).flatten 37),(2,.row (List.map (cI .i64) (List.replicate (p1.Edges.length:Int).toNat 0)).flatten 3),(1,.row [.int .i64 0,.nils] 24),(0,.row (cGChart p1) 24)],5⟩) rfl (q1d inf35 rfl rfl) (RS.opn (u:=.junk) (σ':=⟨[(4,.row [.sl 3 0 ((p1.Edges.length:Int).toNat) ((p1.Edges.length:Int).toNat)] 35),(3,.row (List.map cGDeriv (List.replicate (p1.Edges.length:Int).toNat (GDeriv.mk 0 [] 0 0 []))).flatten 37),(2,.row (List.map (cI .i64) (List.replicate (p1.Edges.length:Int).toNat 0)).flatten 3),(1,.row [.int .i64 0,.nils] 24),(0,.row (cGChart p1) 24)],5⟩) rfl (q0g (q00 inf35) rfl rfl rfl rfl rfl rfl rfl rfl) rfl ?_)))))
 refine se ?_
 refine RS.q rfl (q0i rfl rfl rfl (len_sl und34 rfl)) (RS.mv rfl rfl rfl rfl ?_)
 refine sd ?_
 refine WPU.ghost (tm':=fr 102 [(1,.ptr 0 0 0),(2,.ptr 1 0 0),(3,.sl 2 0 ((p1.Edges.length:Int).toNat) ((p1.Edges.length:Int).toNat)),(4,.ptr 4 0 0),(25,.int .i64 (((p1.Edges.length:Int).toNat:Nat):Int)),(26,.int .i64 0)]) (Gh.sub ⟨rfl,rfl,rfl,rfl,rfl,rfl,trivial⟩) (Nat.zero_le _) ?_
 refine WPU.loopK (fun m tm σ=>∃ z11:Int,∃ l12:List GDeriv,∃ l13:List Int,q3r p1 n m z11 l12 l13=some r∧tm=fr 102 [(1,.ptr 0 0 0),(2,.ptr 1 0 0),(3,.sl 2 0 ((p1.Edges.length:Int).toNat) ((p1.Edges.length:Int).toNat)),(4,.ptr 4 0 0),(25,.int .i64 (((p1.Edges.length:Int).toNat:Nat):Int)),(26,.int .i64 z11)]∧σ=⟨[(4,.row [.sl 3 0 ((p1.Edges.length:Int).toNat) ((p1.Edges.length:Int).toNat)] 35),(3,.row (List.map cGDeriv l12).flatten 37),(2,.row (List.map (cI .i64) l13).flatten 3),(1,.row [.int .i64 0,.nils] 24),(0,.row (cGChart p1) 24)],5⟩) (fun tm σ=>∃ l14:List GDeriv,∃ l15:List Int,q4f p1 n l14 l15=some r∧tm=fr 102 [(1,.ptr 0 0 0),(2,.ptr 1 0 0),(3,.sl 2 0 ((p1.Edges.length:Int).toNat) ((p1.Edges.length:Int).toNat)),(4,.ptr 4 0 0)]∧σ=⟨[(4,.row [.sl 3 0 ((p1.Edges.length:Int).toNat) ((p1.Edges.length:Int).toNat)] 35),(3,.row (List.map cGDeriv l14).flatten 37),(2,.row (List.map (cI .i64) l15).flatten 3),(1,.row [.int .i64 0,.nils] 24),(0,.row (cGChart p1) 24)],5⟩) n ⟨0,(List.replicate (p1.Edges.length:Int).toNat (GDeriv.mk 0 [] 0 0 [])),(List.replicate (p1.Edges.length:Int).toNat 0),hF,rfl,rfl⟩ ?_ ?_
 rintro _ _ ⟨l14,l15,hF,rfl,rfl⟩
 unfold q4f at hF
 refine st ?_
 refine WPU.ghost (tm':=fr 102 [(1,.iptr (cGChart p1)),(2,.ptr 1 0 0),(3,.sl 2 0 ((p1.Edges.length:Int).toNat) ((p1.Edges.length:Int).toNat)),(4,.ptr 4 0 0)]) (σ':=⟨[(4,.row [.sl 3 0 ((p1.Edges.length:Int).toNat) ((p1.Edges.length:Int).toNat)] 35),(3,.row (List.map cGDeriv l14).flatten 37),(2,.row (List.map (cI .i64) l15).flatten 3),(1,.row [.int .i64 0,.nils] 24)],5⟩) (Gh.trans (Gh.sub (l':=[(1,.ptr 0 0 0),(2,.ptr 1 0 0),(3,.sl 2 0 ((p1.Edges.length:Int).toNat) ((p1.Edges.length:Int).toNat)),(4,.ptr 4 0 0)]) ⟨rfl,rfl,rfl,rfl,trivial⟩) (Gh.fzS (l':=[(1,.iptr (cGChart p1)),(2,.ptr 1 0 0),(3,.sl 2 0 ((p1.Edges.length:Int).toNat) ((p1.Edges.length:Int).toNat)),(4,.ptr 4 0 0)]) (h':=[(4,.row [.sl 3 0 ((p1.Edges.length:Int).toNat) ((p1.Edges.length:Int).toNat)] 35),(3,.row (List.map cGDeriv l14).flatten 37),(2,.row (List.map (cI .i64) l15).flatten 3),(1,.row [.int .i64 0,.nils] 24)]) 0 (.row [.int .i64 p1.Words,.isl false (List.map cGEdge p1.Edges)] 24) 2 rfl (by simp) (by simp only [fzS,oneU,q11,q0o,q22,q17,q25,q1b,q1a,q19,q18,q12,q23,q24,q21,q26,q3o,junkT,q7c,q7k,q68,q0m,q3i (show Nat.beq 1 0=false from rfl),q3h (show Nat.beq 1 0=false from rfl),q3g (show Nat.beq 1 0=false from rfl),q3i (show Nat.beq 2 0=false from rfl),q3h (show Nat.beq 2 0=false from rfl),q3g (show Nat.beq 2 0=false from rfl),q3i (show Nat.beq 3 0=false from rfl),q3h (show Nat.beq 3 0=false from rfl),q3g (show Nat.beq 3 0=false from rfl),q3i (show Nat.beq 4 0=false from rfl),q3h (show Nat.beq 4 0=false from rfl),q3g (show Nat.beq 4 0=false from rfl),q1o _ _ _ (q2i 0 (fun q=>q5j _ q) l14),q1o _ _ _ (q2i 0 (fun q=>q6c _ .i64 q) l15),Nat.reduceLeDiff,Nat.reduceMul,List.length_cons,List.length_nil,Nat.reduceAdd]<;>simp only [chunks,List.take,List.drop,List.map,cGChart]) (by simp only [fzH,fzB,ug,Nat.beq,cond_true,cond_false,oneU,q11,q0o,q22,q17,q25,q1b,q1a,q19,q18,q12,q23,q24,q21,q26,q3o,junkT,q7c,q7k,q68,q0m,q3i (show Nat.beq 1 0=false from rfl),q3h (show Nat.beq 1 0=false from rfl),q3g (show Nat.beq 1 0=false from rfl),q3i (show Nat.beq 2 0=false from rfl),q3h (show Nat.beq 2 0=false from rfl),q3g (show Nat.beq 2 0=false from rfl),q3i (show Nat.beq 3 0=false from rfl),q3h (show Nat.beq 3 0=false from rfl),q3g (show Nat.beq 3 0=false from rfl),q3i (show Nat.beq 4 0=false from rfl),q3h (show Nat.beq 4 0=false from rfl),q3g (show Nat.beq 4 0=false from rfl),q1o _ _ _ (q2i 0 (fun q=>q5j _ q) l14),q1o _ _ _ (q2i 0 (fun q=>q6c _ .i64 q) l15),Nat.reduceLeDiff,Nat.reduceMul,List.length_cons,List.length_nil,Nat.reduceAdd]<;>simp only [chunks,List.take,List.drop,List.map,cGChart]))) (Nat.zero_le _) ?_
 obtain ⟨h16,hF⟩:=q0y hF
 refine WPU.ghost (tm':=fr 102 [(1,.iptr (cGChart p1)),(2,.ptr 1 0 0),(3,.sl 2 0 ((p1.Edges.length:Int).toNat) ((p1.Edges.length:Int).toNat)),(4,.ptr 4 0 0)]) (σ':=⟨[(4,.row [.isl false (List.map cGDeriv l14)] 35),(2,.row (List.map (cI .i64) l15).flatten 3),(1,.row [.int .i64 0,.nils] 24)],5⟩) (Gh.trans (Gh.sub (l':=[(1,.iptr (cGChart p1)),(2,.ptr 1 0 0),(3,.sl 2 0 ((p1.Edges.length:Int).toNat) ((p1.Edges.length:Int).toNat)),(4,.ptr 4 0 0)]) ⟨rfl,rfl,rfl,rfl,trivial⟩) (Gh.fzS (l':=[(1,.iptr (cGChart p1)),(2,.ptr 1 0 0),(3,.sl 2 0 ((p1.Edges.length:Int).toNat) ((p1.Edges.length:Int).toNat)),(4,.ptr 4 0 0)]) (h':=[(4,.row [.isl false (List.map cGDeriv l14)] 35),(2,.row (List.map (cI .i64) l15).flatten 3),(1,.row [.int .i64 0,.nils] 24)]) 3 (.row (List.map cGDeriv l14).flatten 37) 5 rfl (by simp) (by simp only [fzS,oneU,q11,q0o,q22,q17,q25,q1b,q1a,q19,q18,q12,q23,q24,q21,q26,q3o,junkT,fz_rl q0x h16,q68,q0m,q3i (show Nat.beq 1 3=false from rfl),q3h (show Nat.beq 1 3=false from rfl),q3g (show Nat.beq 1 3=false from rfl),q3i (show Nat.beq 2 3=false from rfl),q3h (show Nat.beq 2 3=false from rfl),q3g (show Nat.beq 2 3=false from rfl),q3i (show Nat.beq 4 3=false from rfl),q3h (show Nat.beq 4 3=false from rfl),q3g (show Nat.beq 4 3=false from rfl),q1o _ _ _ (q2i 3 (fun q=>q6c _ .i64 q) l15)]) (by simp only [fzH,fzB,ug,Nat.beq,cond_true,cond_false,oneU,q11,q0o,q22,q17,q25,q1b,q1a,q19,q18,q12,q23,q24,q21,q26,q3o,junkT,fz_rl q0x h16,q68,q0m,q3i (show Nat.beq 1 3=false from rfl),q3h (show Nat.beq 1 3=false from rfl),q3g (show Nat.beq 1 3=false from rfl),q3i (show Nat.beq 2 3=false from rfl),q3h (show Nat.beq 2 3=false from rfl),q3g (show Nat.beq 2 3=false from rfl),q3i (show Nat.beq 4 3=false from rfl),q3h (show Nat.beq 4 3=false from rfl),q3g (show Nat.beq 4 3=false from rfl),q1o _ _ _ (q2i 3 (fun q=>q6c _ .i64 q) l15)]))) (Nat.zero_le _) ?_
 refine WPU.ghost (tm':=fr 102 [(1,.iptr (cGChart p1)),(2,.ptr 1 0 0),(3,.sl 2 0 ((p1.Edges.length:Int).toNat) ((p1.Edges.length:Int).toNat)),(4,.iptr [.isl false (List.map cGDeriv l14)])]) (σ':=⟨[(2,.row (List.map (cI .i64) l15).flatten 3),(1,.row [.int .i64 0,.nils] 24)],5⟩) (Gh.trans (Gh.sub (l':=[(1,.iptr (cGChart p1)),(2,.ptr 1 0 0),(3,.sl 2 0 ((p1.Edges.length:Int).toNat) ((p1.Edges.length:Int).toNat)),(4,.ptr 4 0 0)]) ⟨rfl,rfl,rfl,rfl,trivial⟩) (Gh.fzS (l':=[(1,.iptr (cGChart p1)),(2,.ptr 1 0 0),(3,.sl 2 0 ((p1.Edges.length:Int).toNat) ((p1.Edges.length:Int).toNat)),(4,.iptr [.isl false (List.map cGDeriv l14)])]) (h':=[(2,.row (List.map (cI .i64) l15).flatten 3),(1,.row [.int .i64 0,.nils] 24)]) 4 (.row [.isl false (List.map cGDeriv l14)] 35) 1 rfl (by simp) (by simp only [fzS,oneU,q11,q0o,q22,q17,q25,q1b,q1a,q19,q18,q12,q23,q24,q21,q26,q3o,junkT,q7c,q7k,q68,q0m,q3i (show Nat.beq 1 4=false from rfl),q3h (show Nat.beq 1 4=false from rfl),q3g (show Nat.beq 1 4=false from rfl),q3i (show Nat.beq 2 4=false from rfl),q3h (show Nat.beq 2 4=false from rfl),q3g (show Nat.beq 2 4=false from rfl),q1o _ _ _ (q2i 4 (fun q=>q6c _ .i64 q) l15),Nat.reduceLeDiff,Nat.reduceMul,List.length_cons,List.length_nil,Nat.reduceAdd]<;>simp only [chunks,List.take,List.drop,List.map,cI,cB,cS,cL]) (by simp only [fzH,fzB,ug,Nat.beq,cond_true,cond_false,oneU,q11,q0o,q22,q17,q25,q1b,q1a,q19,q18,q12,q23,q24,q21,q26,q3o,junkT,q7c,q7k,q68,q0m,q3i (show Nat.beq 1 4=false from rfl),q3h (show Nat.beq 1 4=false from rfl),q3g (show Nat.beq 1 4=false from rfl),q3i (show Nat.beq 2 4=false from rfl),q3h (show Nat.beq 2 4=false from rfl),q3g (show Nat.beq 2 4=false from rfl),q1o _ _ _ (q2i 4 (fun q=>q6c _ .i64 q) l15),Nat.reduceLeDiff,Nat.reduceMul,List.length_cons,List.length_nil,Nat.reduceAdd]<;>simp only [chunks,List.take,List.drop,List.map,cI,cB,cS,cL]))) (Nat.zero_le _) ?_
 refine st ?_
 obtain ⟨h19,hF⟩:=q0y hF
 obtain ⟨r18,h17,hF⟩:=q01 hF
 refine sr ?_
 refine RS.q rfl (op_fun rfl rfl) ?_
 refine RS.callx (args:=[.sl 2 0 ((p1.Edges.length:Int).toNat) ((p1.Edges.length:Int).toNat),.fn (.func 45) [] [.iptr (cGChart p1),.iptr [.isl false (List.map cGDeriv l14)]]]) rfl (q0b rfl rfl fn44 hb44 rfl rfl) (srtI_okR p1 l14 (fun a b r h=>qby n a b p1 l14 r h) l15 r18 h17 _ h19 rfl rfl) rfl rfl ?_
 rintro _ _ ⟨rfl,rfl⟩
 refine sd ?_
 obtain ⟨h20,hF⟩:=q0y hF
 refine sr ?_
 refine RS.q rfl (q0i rfl rfl rfl (len_sl und34 rfl)) (RS.q (u:=.sl 5 0 ((((p1.Edges.length:Int).toNat:Nat):Int).toNat) ((((p1.Edges.length:Int).toNat:Nat):Int).toNat)) (σ':=⟨[(5,.row (List.map (cI .i64) (List.replicate (((p1.Edges.length:Int).toNat:Nat):Int).toNat 0)).flatten 3),(2,.row (List.map (cI .i64) r18).flatten 3),(1,.row [.int .i64 0,.nils] 24)],6⟩) rfl (op_mks (cI .i64) 0 rfl rfl und34 inf3 rfl rfl rfl rfl h20) ?_)
 refine se ?_
 refine RS.q rfl (q0i rfl rfl rfl (len_sl und34 rfl)) (RS.mv rfl rfl rfl rfl ?_)
 refine sd ?_
 refine WPU.ghost (tm':=fr 102 [(1,.iptr (cGChart p1)),(2,.ptr 1 0 0),(3,.sl 2 0 ((p1.Edges.length:Int).toNat) ((p1.Edges.length:Int).toNat)),(6,.sl 5 0 ((((p1.Edges.length:Int).toNat:Nat):Int).toNat) ((((p1.Edges.length:Int).toNat:Nat):Int).toNat)),(46,.sl 2 0 ((p1.Edges.length:Int).toNat) ((p1.Edges.length:Int).toNat)),(47,.int .i64 (((p1.Edges.length:Int).toNat:Nat):Int)),(48,.int .i64 0)]) (Gh.sub ⟨rfl,rfl,rfl,rfl,rfl,rfl,rfl,trivial⟩) (Nat.zero_le _) ?_
 refine WPU.loopK (fun m tm σ=>∃ z26:Int,∃ l27:List Int,q39 p1 n r18 m z26 l27=some r∧tm=fr 102 [(1,.iptr (cGChart p1)),(2,.ptr 1 0 0),(3,.sl 2 0 ((p1.Edges.length:Int).toNat) ((p1.Edges.length:Int).toNat)),(6,.sl 5 0 ((((p1.Edges.length:Int).toNat:Nat):Int).toNat) ((((p1.Edges.length:Int).toNat:Nat):Int).toNat)),(46,.sl 2 0 ((p1.Edges.length:Int).toNat) ((p1.Edges.length:Int).toNat)),(47,.int .i64 (((p1.Edges.length:Int).toNat:Nat):Int)),(48,.int .i64 z26)]∧σ=⟨[(5,.row (List.map (cI .i64) l27).flatten 3),(2,.row (List.map (cI .i64) r18).flatten 3),(1,.row [.int .i64 0,.nils] 24)],6⟩) (fun tm σ=>∃ l28:List Int,q4g p1 n r18 l28=some r∧tm=fr 102 [(1,.iptr (cGChart p1)),(2,.ptr 1 0 0),(3,.sl 2 0 ((p1.Edges.length:Int).toNat) ((p1.Edges.length:Int).toNat)),(6,.sl 5 0 ((((p1.Edges.length:Int).toNat:Nat):Int).toNat) ((((p1.Edges.length:Int).toNat:Nat):Int).toNat))]∧σ=⟨[(5,.row (List.map (cI .i64) l28).flatten 3),(2,.row (List.map (cI .i64) r18).flatten 3),(1,.row [.int .i64 0,.nils] 24)],6⟩) n ⟨0,(List.replicate (((p1.Edges.length:Int).toNat:Nat):Int).toNat 0),hF,rfl,rfl⟩ ?_ ?_
 rintro _ _ ⟨l28,hF,rfl,rfl⟩
 unfold q4g at hF
 refine sr ?_
 refine RS.q (u:=.iptr (cGChart p1)) rfl (q58 und24 rfl (q00 inf3) rfl rfl) (RS.q (u:=.int .i64 p1.Words) rfl (q1c und3 rfl rfl rfl) (RS.q (u:=.agg [.int .i64 p1.Words,.nils]) rfl (q80 bd24 rfl rfl rfl) (RS.q (u:=.ptr 6 0 0) (σ':=⟨[(6,.row [.int .i64 0,.nils] 24),(5,.row (List.map (cI .i64) l28).flatten 3),(2,.row (List.map (cI .i64) r18).flatten 3),(1,.row [.int .i64 0,.nils] 24)],7⟩) rfl (q1d inf24 rfl rfl) (RS.opn (u:=.junk) (σ':=⟨[(6,.row [.int .i64 p1.Words,.nils] 24),(5,.row (List.map (cI .i64) l28).flatten 3),(2,.row (List.map (cI .i64) r18).flatten 3),(1,.row [.int .i64 0,.nils] 24)],7⟩) rfl (q0g (q00 inf24) rfl rfl rfl rfl rfl rfl rfl rfl) rfl ?_))))
 refine se ?_
 refine RS.q rfl (q0i rfl rfl rfl (len_sl und34 rfl)) (RS.mv rfl rfl rfl rfl ?_)
 refine sd ?_
 refine WPU.ghost (tm':=fr 102 [(1,.iptr (cGChart p1)),(2,.ptr 1 0 0),(6,.sl 5 0 ((((p1.Edges.length:Int).toNat:Nat):Int).toNat) ((((p1.Edges.length:Int).toNat:Nat):Int).toNat)),(9,.ptr 6 0 0),(61,.sl 2 0 ((p1.Edges.length:Int).toNat) ((p1.Edges.length:Int).toNat)),(62,.int .i64 (((p1.Edges.length:Int).toNat:Nat):Int)),(63,.int .i64 0)]) (σ':=⟨[(7,.vec (List.map cGEdge ([]:List GEdge)).flatten 42 12 0),(6,.row [.int .i64 p1.Words,.vl 7 0 0 (([]:List GEdge).length)] 24),(5,.row (List.map (cI .i64) l28).flatten 3),(2,.row (List.map (cI .i64) r18).flatten 3),(1,.row [.int .i64 0,.nils] 24)],8⟩) (Gh.trans (Gh.nilC 6 1 42 12 (by decide) (Nat.zero_le _) rfl rfl) (Gh.eqS ⟨rfl,rfl,rfl,rfl,rfl,rfl,rfl,trivial⟩ rfl)) (Nat.zero_le _) ?_
 refine WPU.ghost (tm':=fr 102 [(1,.iptr (cGChart p1)),(2,.ptr 1 0 0),(6,.sl 5 0 ((((p1.Edges.length:Int).toNat:Nat):Int).toNat) ((((p1.Edges.length:Int).toNat:Nat):Int).toNat)),(9,.ptr 6 0 0),(61,.sl 2 0 ((p1.Edges.length:Int).toNat) ((p1.Edges.length:Int).toNat)),(62,.int .i64 (((p1.Edges.length:Int).toNat:Nat):Int)),(63,.int .i64 0)]) (Gh.sub ⟨rfl,rfl,rfl,rfl,rfl,rfl,rfl,trivial⟩) (Nat.zero_le _) ?_
 refine WPU.loopK (fun m tm σ=>∃ z37:Int,∃ l38:List GEdge,∃ t39:Nat,q2c p1 n r18 l28 m z37 l38=some r∧tm=fr 102 [(1,.iptr (cGChart p1)),(2,.ptr 1 0 0),(6,.sl 5 0 ((((p1.Edges.length:Int).toNat:Nat):Int).toNat) ((((p1.Edges.length:Int).toNat:Nat):Int).toNat)),(9,.ptr 6 0 0),(61,.sl 2 0 ((p1.Edges.length:Int).toNat) ((p1.Edges.length:Int).toNat)),(62,.int .i64 (((p1.Edges.length:Int).toNat:Nat):Int)),(63,.int .i64 z37)]∧σ=⟨[(7,.vec (List.map cGEdge l38).flatten 42 12 t39),(6,.row [.int .i64 p1.Words,.vl 7 t39 0 l38.length] 24),(5,.row (List.map (cI .i64) l28).flatten 3),(2,.row (List.map (cI .i64) r18).flatten 3),(1,.row [.int .i64 0,.nils] 24)],8⟩) (fun tm σ=>∃ l40:List GEdge,∃ t41:Nat,q5p p1 l40=some r∧tm=fr 102 [(2,.ptr 1 0 0),(9,.ptr 6 0 0)]∧σ=⟨[(7,.vec (List.map cGEdge l40).flatten 42 12 t41),(6,.row [.int .i64 p1.Words,.vl 7 t41 0 l40.length] 24),(5,.row (List.map (cI .i64) l28).flatten 3),(2,.row (List.map (cI .i64) r18).flatten 3),(1,.row [.int .i64 0,.nils] 24)],8⟩) n ⟨0,([]:List GEdge),0,hF,rfl,rfl⟩ ?_ ?_
 rintro _ _ ⟨l40,t41,hF,rfl,rfl⟩
 unfold q5p at hF
 refine sr ?_
 refine RS.q (u:=.agg [.int .i64 p1.Words,.vl 7 t41 0 l40.length]) rfl (q0f und24 rfl (q00 inf24) rfl rfl rfl) (RS.opn (u:=.junk) (σ':=⟨[(7,.vec (List.map cGEdge l40).flatten 42 12 t41),(6,.row [.int .i64 p1.Words,.vl 7 t41 0 l40.length] 24),(5,.row (List.map (cI .i64) l28).flatten 3),(2,.row (List.map (cI .i64) r18).flatten 3),(1,.row [.int .i64 p1.Words,.vl 7 t41 0 l40.length] 24)],8⟩) rfl (q0g (q00 inf24) rfl rfl rfl rfl rfl rfl rfl rfl) rfl ?_)
 refine sd ?_
 refine WPU.ret ?_
 refine st ?_
 have hr:=Option.some.inj hF
 subst hr
 exact ⟨.inr rfl,[.agg [.int .i64 p1.Words,.vl 7 t41 0 l40.length]],q9d (q0f und24 rfl (q00 inf24) rfl rfl rfl) (q0q),.agg [.int .i64 p1.Words,.isl false (List.map cGEdge l40)],⟨[],0⟩,Nat.le_refl _,Gh.trans (Gh.fz (tm':=[.agg [.int .i64 p1.Words,.isl false (List.map cGEdge l40)]]) (h':=[(6,.row [.int .i64 p1.Words,.isl false (List.map cGEdge l40)] 24),(5,.row (List.map (cI .i64) l28).flatten 3),(2,.row (List.map (cI .i64) r18).flatten 3),(1,.row [.int .i64 p1.Words,.isl false (List.map cGEdge l40)] 24)]) 7 (.vec (List.map cGEdge l40).flatten 42 12 t41) 12 rfl (by simp) (by simp only [oneU,q11,q0o,q22,q17,q25,q1b,q1a,q19,q18,q12,q23,q24,q21,q26,q3o,junkT,qb8 q0h,q1o _ _ _ (q2i 7 (fun q=>q6c _ .i64 q) l28),q1o _ _ _ (q2i 7 (fun q=>q6c _ .i64 q) r18)]) (by simp only [fzH,fzB,ug,Nat.beq,cond_true,cond_false,oneU,q11,q0o,q22,q17,q25,q1b,q1a,q19,q18,q12,q23,q24,q21,q26,q3o,junkT,qb8 q0h,q1o _ _ _ (q2i 7 (fun q=>q6c _ .i64 q) l28),q1o _ _ _ (q2i 7 (fun q=>q6c _ .i64 q) r18)])) (Gh.toR (.agg [.int .i64 p1.Words,.isl false (List.map cGEdge l40)]) rfl),rfl,BU.h⟩
 rintro m3 _ _ ⟨z37,l38,t39,hF,rfl,rfl⟩
 rcases m3 with _ | m3
 cases hF
 unfold q2c at hF
 refine sr ?_
 refine RS.q rfl (q02 rfl rfl (q1i _ _ _) rfl) ?_
 refine sd ?_
 refine WPU.condS (t:=(decide (z37<(((p1.Edges.length:Int).toNat:Nat):Int)))) rfl (fun h42=>?_) (fun h42=>?_)
 replace hF:=q09 h42 hF
 refine st ?_
 refine WPU.skip ?_
 refine st ?_
 refine WPU.block ?_
 refine st ?_
 obtain ⟨x43,h44,hF⟩:=q01 hF
 refine sr ?_
 refine RS.q (u:=.ptr 2 0 (0*1+z37.toNat*1)) rfl (q13 rfl rfl (ia_rl und34 (q00 inf3) rfl h44)) (RS.q (u:=.int .i64 x43) rfl (ld_rl1 (cI .i64) (fun x=>.int .i64 x) und3 rfl (fun _=>rfl) rfl rfl h44) ?_)
 refine sd ?_
 obtain ⟨x45,h46,hF⟩:=q01 hF
 refine sr ?_
 refine RS.q (u:=.iptr [.isl false (List.map cGEdge p1.Edges)]) rfl (q58 und24 rfl (q00 inf22) rfl rfl) (RS.q (u:=.isl false (List.map cGEdge p1.Edges)) rfl (q1c und22 rfl rfl rfl) (RS.mv rfl rfl rfl rfl (RS.q (u:=.iptr (cGEdge x45)) rfl (q13 rfl rfl (q0n cGEdge und22 (q00 inf42) q0h h46 rfl)) (RS.q (u:=.agg (cGEdge x45)) rfl (q2u und42 rfl (q00 inf42) rfl rfl) (RS.q (u:=.ptr 8 0 0) (σ':=⟨[(8,.row [.int .i64 0,.int .i64 0,.int .i64 0,.int .i64 0,.str [],.nils,.int .i64 0,.str [],.int .i64 0,.int .i64 0,.nils,.nils] 42),(7,.vec (List.map cGEdge l38).flatten 42 12 t39),(6,.row [.int .i64 p1.Words,.vl 7 t39 0 l38.length] 24),(5,.row (List.map (cI .i64) l28).flatten 3),(2,.row (List.map (cI .i64) r18).flatten 3),(1,.row [.int .i64 0,.nils] 24)],9⟩) rfl (q1d inf42 rfl rfl) (RS.opn (u:=.junk) (σ':=⟨[(8,.row (cGEdge x45) 42),(7,.vec (List.map cGEdge l38).flatten 42 12 t39),(6,.row [.int .i64 p1.Words,.vl 7 t39 0 l38.length] 24),(5,.row (List.map (cI .i64) l28).flatten 3),(2,.row (List.map (cI .i64) r18).flatten 3),(1,.row [.int .i64 0,.nils] 24)],9⟩) rfl (q0g (q00 inf42) rfl rfl rfl rfl rfl rfl rfl rfl) rfl ?_))))))
 refine sd ?_
 obtain ⟨h47,hF⟩:=q0y hF
 refine sr ?_
 refine RS.q (u:=.ptr 8 0 5) rfl (q06 und42 rfl (q00 inf34) rfl rfl rfl) (RS.q (u:=.isl false (List.map (cI .i64) x45.Kids)) rfl (q05 und34 rfl rfl rfl rfl) (RS.q rfl (q0i rfl rfl rfl (q0d (cI .i64) und34)) (RS.q (u:=.sl 9 0 ((x45.Kids.length:Int).toNat) ((x45.Kids.length:Int).toNat)) (σ':=⟨[(9,.row (List.map (cI .i64) (List.replicate (x45.Kids.length:Int).toNat 0)).flatten 3),(8,.row (cGEdge x45) 42),(7,.vec (List.map cGEdge l38).flatten 42 12 t39),(6,.row [.int .i64 p1.Words,.vl 7 t39 0 l38.length] 24),(5,.row (List.map (cI .i64) l28).flatten 3),(2,.row (List.map (cI .i64) r18).flatten 3),(1,.row [.int .i64 0,.nils] 24)],10⟩) rfl (op_mks (cI .i64) 0 rfl rfl und34 inf3 rfl rfl rfl rfl h47) ?_)))
 refine se ?_
 refine RS.q (u:=.ptr 8 0 5) rfl (q06 und42 rfl (q00 inf34) rfl rfl rfl) (RS.q (u:=.isl false (List.map (cI .i64) x45.Kids)) rfl (q05 und34 rfl rfl rfl rfl) (RS.q rfl (q0i rfl rfl rfl (q0d (cI .i64) und34)) (RS.mv rfl rfl rfl rfl ?_)))
 refine sd ?_
 refine WPU.ghost (tm':=fr 102 [(1,.iptr (cGChart p1)),(2,.ptr 1 0 0),(6,.sl 5 0 ((((p1.Edges.length:Int).toNat:Nat):Int).toNat) ((((p1.Edges.length:Int).toNat:Nat):Int).toNat)),(9,.ptr 6 0 0),(12,.ptr 8 0 0),(13,.sl 9 0 ((x45.Kids.length:Int).toNat) ((x45.Kids.length:Int).toNat)),(61,.sl 2 0 ((p1.Edges.length:Int).toNat) ((p1.Edges.length:Int).toNat)),(62,.int .i64 (((p1.Edges.length:Int).toNat:Nat):Int)),(63,.int .i64 z37),(77,.isl false (List.map (cI .i64) x45.Kids)),(78,.int .i64 (x45.Kids.length:Int)),(79,.int .i64 0)]) (Gh.sub ⟨rfl,rfl,rfl,rfl,rfl,rfl,rfl,rfl,rfl,rfl,rfl,rfl,trivial⟩) (Nat.zero_le _) ?_
 refine WPU.loopK (fun m tm σ=>∃ z72:Int,∃ l73:List Int,q3s p1 l28 z37 l38 (q2c p1 n r18 l28 m3) x45 m z72 l73=some r∧tm=fr 102 [(1,.iptr (cGChart p1)),(2,.ptr 1 0 0),(6,.sl 5 0 ((((p1.Edges.length:Int).toNat:Nat):Int).toNat) ((((p1.Edges.length:Int).toNat:Nat):Int).toNat)),(9,.ptr 6 0 0),(12,.ptr 8 0 0),(13,.sl 9 0 ((x45.Kids.length:Int).toNat) ((x45.Kids.length:Int).toNat)),(61,.sl 2 0 ((p1.Edges.length:Int).toNat) ((p1.Edges.length:Int).toNat)),(62,.int .i64 (((p1.Edges.length:Int).toNat:Nat):Int)),(63,.int .i64 z37),(77,.isl false (List.map (cI .i64) x45.Kids)),(78,.int .i64 (x45.Kids.length:Int)),(79,.int .i64 z72)]∧σ=⟨[(9,.row (List.map (cI .i64) l73).flatten 3),(8,.row (cGEdge x45) 42),(7,.vec (List.map cGEdge l38).flatten 42 12 t39),(6,.row [.int .i64 p1.Words,.vl 7 t39 0 l38.length] 24),(5,.row (List.map (cI .i64) l28).flatten 3),(2,.row (List.map (cI .i64) r18).flatten 3),(1,.row [.int .i64 0,.nils] 24)],10⟩) (fun tm σ=>∃ l74:List Int,q5q z37 l38 (q2c p1 n r18 l28 m3) x45 l74=some r∧tm=fr 102 [(1,.iptr (cGChart p1)),(2,.ptr 1 0 0),(6,.sl 5 0 ((((p1.Edges.length:Int).toNat:Nat):Int).toNat) ((((p1.Edges.length:Int).toNat:Nat):Int).toNat)),(9,.ptr 6 0 0),(12,.ptr 8 0 0),(13,.sl 9 0 ((x45.Kids.length:Int).toNat) ((x45.Kids.length:Int).toNat)),(61,.sl 2 0 ((p1.Edges.length:Int).toNat) ((p1.Edges.length:Int).toNat)),(62,.int .i64 (((p1.Edges.length:Int).toNat:Nat):Int)),(63,.int .i64 z37)]∧σ=⟨[(9,.row (List.map (cI .i64) l74).flatten 3),(8,.row (cGEdge x45) 42),(7,.vec (List.map cGEdge l38).flatten 42 12 t39),(6,.row [.int .i64 p1.Words,.vl 7 t39 0 l38.length] 24),(5,.row (List.map (cI .i64) l28).flatten 3),(2,.row (List.map (cI .i64) r18).flatten 3),(1,.row [.int .i64 0,.nils] 24)],10⟩) n ⟨0,(List.replicate (x45.Kids.length:Int).toNat 0),hF,rfl,rfl⟩ ?_ ?_
 rintro _ _ ⟨l74,hF,rfl,rfl⟩
 unfold q5q at hF
 refine sr ?_
 refine RS.q (u:=.ptr 8 0 5) rfl (q06 und42 rfl (q00 inf34) rfl rfl rfl) (RS.opn (u:=.junk) (σ':=⟨[(9,.row (List.map (cI .i64) l74).flatten 3),(8,.row [.int .i64 x45.From,.int .i64 x45.To,.int .i64 x45.Unary,.int .i64 x45.Kind,.str x45.Name,.sl 9 0 ((x45.Kids.length:Int).toNat) ((x45.Kids.length:Int).toNat),.int .i64 x45.Lex.Kind,.str x45.Lex.Name,.int .i64 x45.Lex.From,.int .i64 x45.Lex.To,.isl false (List.map cGDeriv x45.Lex.Kids),.isl false (List.map cGNode x45.FS.Nodes)] 42),(7,.vec (List.map cGEdge l38).flatten 42 12 t39),(6,.row [.int .i64 p1.Words,.vl 7 t39 0 l38.length] 24),(5,.row (List.map (cI .i64) l28).flatten 3),(2,.row (List.map (cI .i64) r18).flatten 3),(1,.row [.int .i64 0,.nils] 24)],10⟩) rfl (q0g (q00 inf34) rfl rfl rfl rfl rfl rfl rfl rfl) rfl ?_)
 refine sd ?_
 obtain ⟨h75,hF⟩:=q0y hF
 refine WPU.ghost (tm':=fr 102 [(1,.iptr (cGChart p1)),(2,.ptr 1 0 0),(6,.sl 5 0 ((((p1.Edges.length:Int).toNat:Nat):Int).toNat) ((((p1.Edges.length:Int).toNat:Nat):Int).toNat)),(9,.ptr 6 0 0),(12,.ptr 8 0 0),(61,.sl 2 0 ((p1.Edges.length:Int).toNat) ((p1.Edges.length:Int).toNat)),(62,.int .i64 (((p1.Edges.length:Int).toNat:Nat):Int)),(63,.int .i64 z37)]) (σ':=⟨[(8,.row [.int .i64 x45.From,.int .i64 x45.To,.int .i64 x45.Unary,.int .i64 x45.Kind,.str x45.Name,.isl false (List.map (cI .i64) l74),.int .i64 x45.Lex.Kind,.str x45.Lex.Name,.int .i64 x45.Lex.From,.int .i64 x45.Lex.To,.isl false (List.map cGDeriv x45.Lex.Kids),.isl false (List.map cGNode x45.FS.Nodes)] 42),(7,.vec (List.map cGEdge l38).flatten 42 12 t39),(6,.row [.int .i64 p1.Words,.vl 7 t39 0 l38.length] 24),(5,.row (List.map (cI .i64) l28).flatten 3),(2,.row (List.map (cI .i64) r18).flatten 3),(1,.row [.int .i64 0,.nils] 24)],10⟩) (Gh.trans (Gh.sub (l':=[(1,.iptr (cGChart p1)),(2,.ptr 1 0 0),(6,.sl 5 0 ((((p1.Edges.length:Int).toNat:Nat):Int).toNat) ((((p1.Edges.length:Int).toNat:Nat):Int).toNat)),(9,.ptr 6 0 0),(12,.ptr 8 0 0),(61,.sl 2 0 ((p1.Edges.length:Int).toNat) ((p1.Edges.length:Int).toNat)),(62,.int .i64 (((p1.Edges.length:Int).toNat:Nat):Int)),(63,.int .i64 z37)]) ⟨rfl,rfl,rfl,rfl,rfl,rfl,rfl,rfl,trivial⟩) (Gh.fzS (l':=[(1,.iptr (cGChart p1)),(2,.ptr 1 0 0),(6,.sl 5 0 ((((p1.Edges.length:Int).toNat:Nat):Int).toNat) ((((p1.Edges.length:Int).toNat:Nat):Int).toNat)),(9,.ptr 6 0 0),(12,.ptr 8 0 0),(61,.sl 2 0 ((p1.Edges.length:Int).toNat) ((p1.Edges.length:Int).toNat)),(62,.int .i64 (((p1.Edges.length:Int).toNat:Nat):Int)),(63,.int .i64 z37)]) (h':=[(8,.row [.int .i64 x45.From,.int .i64 x45.To,.int .i64 x45.Unary,.int .i64 x45.Kind,.str x45.Name,.isl false (List.map (cI .i64) l74),.int .i64 x45.Lex.Kind,.str x45.Lex.Name,.int .i64 x45.Lex.From,.int .i64 x45.Lex.To,.isl false (List.map cGDeriv x45.Lex.Kids),.isl false (List.map cGNode x45.FS.Nodes)] 42),(7,.vec (List.map cGEdge l38).flatten 42 12 t39),(6,.row [.int .i64 p1.Words,.vl 7 t39 0 l38.length] 24),(5,.row (List.map (cI .i64) l28).flatten 3),(2,.row (List.map (cI .i64) r18).flatten 3),(1,.row [.int .i64 0,.nils] 24)]) 9 (.row (List.map (cI .i64) l74).flatten 3) 1 rfl (by simp) (by simp only [fzS,oneU,q11,q0o,q22,q17,q25,q1b,q1a,q19,q18,q12,q23,q24,q21,q26,q3o,junkT,fz_rl (q27 .i64) h75,q68,q0m,q3i (show Nat.beq 1 9=false from rfl),q3h (show Nat.beq 1 9=false from rfl),q3g (show Nat.beq 1 9=false from rfl),q3i (show Nat.beq 2 9=false from rfl),q3h (show Nat.beq 2 9=false from rfl),q3g (show Nat.beq 2 9=false from rfl),q3i (show Nat.beq 5 9=false from rfl),q3h (show Nat.beq 5 9=false from rfl),q3g (show Nat.beq 5 9=false from rfl),q3i (show Nat.beq 6 9=false from rfl),q3h (show Nat.beq 6 9=false from rfl),q3g (show Nat.beq 6 9=false from rfl),q3i (show Nat.beq 7 9=false from rfl),q3h (show Nat.beq 7 9=false from rfl),q3g (show Nat.beq 7 9=false from rfl),q3i (show Nat.beq 8 9=false from rfl),q3h (show Nat.beq 8 9=false from rfl),q3g (show Nat.beq 8 9=false from rfl),q1o _ _ _ (q2i 9 (fun q=>q6h _ q) l38),q1o _ _ _ (q2i 9 (fun q=>q6c _ .i64 q) l28),q1o _ _ _ (q2i 9 (fun q=>q6c _ .i64 q) r18)]) (by simp only [fzH,fzB,ug,Nat.beq,cond_true,cond_false,oneU,q11,q0o,q22,q17,q25,q1b,q1a,q19,q18,q12,q23,q24,q21,q26,q3o,junkT,fz_rl (q27 .i64) h75,q68,q0m,q3i (show Nat.beq 1 9=false from rfl),q3h (show Nat.beq 1 9=false from rfl),q3g (show Nat.beq 1 9=false from rfl),q3i (show Nat.beq 2 9=false from rfl),q3h (show Nat.beq 2 9=false from rfl),q3g (show Nat.beq 2 9=false from rfl),q3i (show Nat.beq 5 9=false from rfl),q3h (show Nat.beq 5 9=false from rfl),q3g (show Nat.beq 5 9=false from rfl),q3i (show Nat.beq 6 9=false from rfl),q3h (show Nat.beq 6 9=false from rfl),q3g (show Nat.beq 6 9=false from rfl),q3i (show Nat.beq 7 9=false from rfl),q3h (show Nat.beq 7 9=false from rfl),q3g (show Nat.beq 7 9=false from rfl),q3i (show Nat.beq 8 9=false from rfl),q3h (show Nat.beq 8 9=false from rfl),q3g (show Nat.beq 8 9=false from rfl),q1o _ _ _ (q2i 9 (fun q=>q6h _ q) l38),q1o _ _ _ (q2i 9 (fun q=>q6c _ .i64 q) l28),q1o _ _ _ (q2i 9 (fun q=>q6c _ .i64 q) r18)]))) (Nat.zero_le _) ?_
 refine st ?_
 obtain ⟨h76,hF⟩:=q0y hF
 refine sr ?_
 refine RS.q (u:=.ptr 6 0 1) rfl (q06 und24 rfl (q00 inf22) rfl rfl rfl) (RS.q (u:=.vl 7 t39 0 l38.length) rfl (q05 und22 rfl rfl rfl rfl) (RS.q (u:=.agg [.int .i64 x45.From,.int .i64 x45.To,.int .i64 x45.Unary,.int .i64 x45.Kind,.str x45.Name,.isl false (List.map (cI .i64) l74),.int .i64 x45.Lex.Kind,.str x45.Lex.Name,.int .i64 x45.Lex.From,.int .i64 x45.Lex.To,.isl false (List.map cGDeriv x45.Lex.Kids),.isl false (List.map cGNode x45.FS.Nodes)]) rfl (q0f und42 rfl (q00 inf42) rfl rfl rfl) (RS.q (u:=.sl 10 0 1 1) (σ':=⟨[(10,.row [.int .i64 x45.From,.int .i64 x45.To,.int .i64 x45.Unary,.int .i64 x45.Kind,.str x45.Name,.isl false (List.map (cI .i64) l74),.int .i64 x45.Lex.Kind,.str x45.Lex.Name,.int .i64 x45.Lex.From,.int .i64 x45.Lex.To,.isl false (List.map cGDeriv x45.Lex.Kids),.isl false (List.map cGNode x45.FS.Nodes)] 42),(8,.row [.int .i64 x45.From,.int .i64 x45.To,.int .i64 x45.Unary,.int .i64 x45.Kind,.str x45.Name,.isl false (List.map (cI .i64) l74),.int .i64 x45.Lex.Kind,.str x45.Lex.Name,.int .i64 x45.Lex.From,.int .i64 x45.Lex.To,.isl false (List.map cGDeriv x45.Lex.Kids),.isl false (List.map cGNode x45.FS.Nodes)] 42),(7,.vec (List.map cGEdge l38).flatten 42 12 t39),(6,.row [.int .i64 p1.Words,.vl 7 t39 0 l38.length] 24),(5,.row (List.map (cI .i64) l28).flatten 3),(2,.row (List.map (cI .i64) r18).flatten 3),(1,.row [.int .i64 0,.nils] 24)],11⟩) rfl (q77 und22 inf42 rfl rfl rfl rfl rfl rfl rfl) (RS.q (u:=.vl 7 (t39+1) 0 ((l38++[(GEdge.mk x45.From x45.To x45.Unary x45.Kind x45.Name l74 x45.Lex x45.FS)]).length)) (σ':=⟨[(10,.row [.int .i64 x45.From,.int .i64 x45.To,.int .i64 x45.Unary,.int .i64 x45.Kind,.str x45.Name,.isl false (List.map (cI .i64) l74),.int .i64 x45.Lex.Kind,.str x45.Lex.Name,.int .i64 x45.Lex.From,.int .i64 x45.Lex.To,.isl false (List.map cGDeriv x45.Lex.Kids),.isl false (List.map cGNode x45.FS.Nodes)] 42),(8,.row [.int .i64 x45.From,.int .i64 x45.To,.int .i64 x45.Unary,.int .i64 x45.Kind,.str x45.Name,.isl false (List.map (cI .i64) l74),.int .i64 x45.Lex.Kind,.str x45.Lex.Name,.int .i64 x45.Lex.From,.int .i64 x45.Lex.To,.isl false (List.map cGDeriv x45.Lex.Kids),.isl false (List.map cGNode x45.FS.Nodes)] 42),(7,.vec (List.map cGEdge (l38++[(GEdge.mk x45.From x45.To x45.Unary x45.Kind x45.Name l74 x45.Lex x45.FS)])).flatten 42 12 (t39+1)),(6,.row [.int .i64 p1.Words,.vl 7 t39 0 l38.length] 24),(5,.row (List.map (cI .i64) l28).flatten 3),(2,.row (List.map (cI .i64) r18).flatten 3),(1,.row [.int .i64 0,.nils] 24)],11⟩) rfl (op_app rfl rfl rfl rfl (app_vl cGEdge ([(GEdge.mk x45.From x45.To x45.Unary x45.Kind x45.Name l74 x45.Lex x45.FS)]) und22 und22 inf42 rfl q0h rfl (qau cGEdge [(GEdge.mk x45.From x45.To x45.Unary x45.Kind x45.Name l74 x45.Lex x45.FS)] rfl rfl rfl rfl) h76)) (RS.q (u:=.ptr 6 0 1) rfl (q06 und24 rfl (q00 inf22) rfl rfl rfl) (RS.opn (u:=.junk) (σ':=⟨[(10,.row [.int .i64 x45.From,.int .i64 x45.To,.int .i64 x45.Unary,.int .i64 x45.Kind,.str x45.Name,.isl false (List.map (cI .i64) l74),.int .i64 x45.Lex.Kind,.str x45.Lex.Name,.int .i64 x45.Lex.From,.int .i64 x45.Lex.To,.isl false (List.map cGDeriv x45.Lex.Kids),.isl false (List.map cGNode x45.FS.Nodes)] 42),(8,.row [.int .i64 x45.From,.int .i64 x45.To,.int .i64 x45.Unary,.int .i64 x45.Kind,.str x45.Name,.isl false (List.map (cI .i64) l74),.int .i64 x45.Lex.Kind,.str x45.Lex.Name,.int .i64 x45.Lex.From,.int .i64 x45.Lex.To,.isl false (List.map cGDeriv x45.Lex.Kids),.isl false (List.map cGNode x45.FS.Nodes)] 42),(7,.vec (List.map cGEdge (l38++[(GEdge.mk x45.From x45.To x45.Unary x45.Kind x45.Name l74 x45.Lex x45.FS)])).flatten 42 12 (t39+1)),(6,.row [.int .i64 p1.Words,.vl 7 (t39+1) 0 ((l38++[(GEdge.mk x45.From x45.To x45.Unary x45.Kind x45.Name l74 x45.Lex x45.FS)]).length)] 24),(5,.row (List.map (cI .i64) l28).flatten 3),(2,.row (List.map (cI .i64) r18).flatten 3),(1,.row [.int .i64 0,.nils] 24)],11⟩) rfl (q0g (q00 inf22) rfl rfl rfl rfl rfl rfl rfl rfl) rfl ?_))))))
 refine se ?_
 refine RS.q rfl (q02 rfl rfl (q32 _ _ _) rfl) (RS.mv rfl rfl rfl rfl ?_)
 refine sd ?_
 exact ⟨m3,_,_,Nat.lt_succ_self _,⟨(IntKind.i64.wrap (z37+1)),(l38++[(GEdge.mk x45.From x45.To x45.Unary x45.Kind x45.Name l74 x45.Lex x45.FS)]),(t39+1),hF,rfl,rfl⟩,(Nat.zero_le _),Gh.toC (n1:=8) ⟨rfl,rfl,rfl,rfl,rfl,rfl,rfl,trivial⟩ rfl (Nat.zero_le _) (by simp)⟩
 rintro m4 _ _ ⟨z72,l73,hF,rfl,rfl⟩
 rcases m4 with _ | m4
 cases hF
 unfold q3s at hF
 refine sr ?_
 refine RS.q rfl (q02 rfl rfl (q1i _ _ _) rfl) ?_
 refine sd ?_
 refine WPU.condS (t:=(decide (z72<(x45.Kids.length:Int)))) rfl (fun h77=>?_) (fun h77=>?_)
 replace hF:=q09 h77 hF
 refine st ?_
 refine WPU.skip ?_
 refine st ?_
 refine WPU.block ?_
 refine st ?_
 obtain ⟨x78,h79,hF⟩:=q01 hF
 refine sr ?_
 refine RS.q (u:=.iptr [.int .i64 x78]) rfl (q13 rfl rfl (q0n (cI .i64) und34 (q00 inf3) (q27 .i64) h79 rfl)) (RS.q (u:=.int .i64 x78) rfl (q1c und3 rfl rfl rfl) ?_)
 repeat refine RS.as rfl rfl rfl rfl ?_
 refine sd ?_
 obtain ⟨x80,h81,hF⟩:=q01 hF
 obtain ⟨x82,h83,hF⟩:=q01 hF
 refine sr ?_
 repeat refine RS.mv rfl rfl rfl rfl ?_
 refine RS.q (u:=.ptr 5 0 (0*1+x78.toNat*1)) rfl (q13 rfl rfl (ia_rl und34 (q00 inf3) rfl h81)) (RS.q (u:=.int .i64 x80) rfl (ld_rl1 (cI .i64) (fun x=>.int .i64 x) und3 rfl (fun _=>rfl) rfl rfl h81) (RS.q (u:=.ptr 9 0 (0*1+z72.toNat*1)) rfl (q13 rfl rfl (ia_rl und34 (q00 inf3) rfl h83)) (RS.opn (u:=.junk) (σ':=⟨[(9,.row (List.map (cI .i64) (l73.set z72.toNat x80)).flatten 3),(8,.row (cGEdge x45) 42),(7,.vec (List.map cGEdge l38).flatten 42 12 t39),(6,.row [.int .i64 p1.Words,.vl 7 t39 0 l38.length] 24),(5,.row (List.map (cI .i64) l28).flatten 3),(2,.row (List.map (cI .i64) r18).flatten 3),(1,.row [.int .i64 0,.nils] 24)],10⟩) rfl (st_rl (cI .i64) (q00 inf3) (q27 .i64) rfl rfl rfl rfl rfl rfl h83 rfl) rfl ?_)))
 refine se ?_
 refine RS.q rfl (q02 rfl rfl (q32 _ _ _) rfl) (RS.mv rfl rfl rfl rfl ?_)
 refine sd ?_
 exact ⟨m4,_,_,Nat.lt_succ_self _,⟨(IntKind.i64.wrap (z72+1)),(l73.set z72.toNat x80),hF,rfl,rfl⟩,(Nat.zero_le _),Gh.toC (n1:=10) ⟨rfl,rfl,rfl,rfl,rfl,rfl,rfl,rfl,rfl,rfl,rfl,rfl,trivial⟩ rfl (Nat.zero_le _) (by simp)⟩
 replace hF:=q08 h77 hF
 refine st ?_
 refine WPU.exit ?_
 refine st ?_
 exact ⟨_,_,⟨l73,hF,rfl,rfl⟩,(Nat.zero_le _),Gh.toC (n1:=10) ⟨rfl,rfl,rfl,rfl,rfl,rfl,rfl,rfl,rfl,trivial⟩ rfl (Nat.zero_le _) (by simp)⟩
 replace hF:=q08 h42 hF
 refine st ?_
 refine WPU.exit ?_
 refine st ?_
 exact ⟨_,_,⟨l38,t39,hF,rfl,rfl⟩,(Nat.zero_le _),Gh.toC (n1:=8) ⟨rfl,rfl,trivial⟩ rfl (Nat.zero_le _) (by simp)⟩
 rintro m2 _ _ ⟨z26,l27,hF,rfl,rfl⟩
 rcases m2 with _ | m2
 cases hF
 unfold q39 at hF
 refine sr ?_
 refine RS.q rfl (q02 rfl rfl (q1i _ _ _) rfl) ?_
 refine sd ?_
 refine WPU.condS (t:=(decide (z26<(((p1.Edges.length:Int).toNat:Nat):Int)))) rfl (fun h84=>?_) (fun h84=>?_)
 replace hF:=q09 h84 hF
 refine st ?_
 refine WPU.skip ?_
 refine st ?_
 refine WPU.block ?_
 refine st ?_
 obtain ⟨x85,h86,hF⟩:=q01 hF
 refine sr ?_
 refine RS.q (u:=.ptr 2 0 (0*1+z26.toNat*1)) rfl (q13 rfl rfl (ia_rl und34 (q00 inf3) rfl h86)) (RS.q (u:=.int .i64 x85) rfl (ld_rl1 (cI .i64) (fun x=>.int .i64 x) und3 rfl (fun _=>rfl) rfl rfl h86) ?_)
 repeat refine RS.as rfl rfl rfl rfl ?_
 refine sd ?_
 obtain ⟨x87,h88,hF⟩:=q01 hF
 refine sr ?_
 repeat refine RS.mv rfl rfl rfl rfl ?_
 refine RS.q (u:=.ptr 5 0 (0*1+x85.toNat*1)) rfl (q13 rfl rfl (ia_rl und34 (q00 inf3) rfl h88)) (RS.opn (u:=.junk) (σ':=⟨[(5,.row (List.map (cI .i64) (l27.set x85.toNat z26)).flatten 3),(2,.row (List.map (cI .i64) r18).flatten 3),(1,.row [.int .i64 0,.nils] 24)],6⟩) rfl (st_rl (cI .i64) (q00 inf3) (q27 .i64) rfl rfl rfl rfl rfl rfl h88 rfl) rfl ?_)
 refine se ?_
 refine RS.q rfl (q02 rfl rfl (q32 _ _ _) rfl) (RS.mv rfl rfl rfl rfl ?_)
 refine sd ?_
 exact ⟨m2,_,_,Nat.lt_succ_self _,⟨(IntKind.i64.wrap (z26+1)),(l27.set x85.toNat z26),hF,rfl,rfl⟩,(Nat.zero_le _),Gh.toC (n1:=6) ⟨rfl,rfl,rfl,rfl,rfl,rfl,rfl,trivial⟩ rfl (Nat.zero_le _) (by simp)⟩
 replace hF:=q08 h84 hF
 refine st ?_
 refine WPU.exit ?_
 refine st ?_
 exact ⟨_,_,⟨l27,hF,rfl,rfl⟩,(Nat.zero_le _),Gh.toC (n1:=6) ⟨rfl,rfl,rfl,rfl,trivial⟩ rfl (Nat.zero_le _) (by simp)⟩
 rintro m1 _ _ ⟨z11,l12,l13,hF,rfl,rfl⟩
 rcases m1 with _ | m1
 cases hF
 unfold q3r at hF
 refine sr ?_
 refine RS.q rfl (q02 rfl rfl (q1i _ _ _) rfl) ?_
 refine sd ?_
 refine WPU.condS (t:=(decide (z11<(((p1.Edges.length:Int).toNat:Nat):Int)))) rfl (fun h89=>?_) (fun h89=>?_)
 replace hF:=q09 h89 hF
 refine st ?_
 refine WPU.skip ?_
 refine st ?_
 refine WPU.block ?_
 refine sr ?_
 refine sd ?_
 obtain ⟨r90,h91,hF⟩:=q01 hF
 obtain ⟨x92,h93,hF⟩:=q01 hF
 obtain ⟨x94,h95,hF⟩:=q01 hF
 refine WPU.drawE Try.tb_ok [(2,9),(3,9)] (by kernel_rfl) ?_
 repeat refine RD.mv rfl rfl rfl rfl ?_
 refine RD.q (u:=.sl 3 0 ((p1.Edges.length:Int).toNat) ((p1.Edges.length:Int).toNat)) rfl (q05 und35 rfl rfl rfl rfl) ?_
 repeat refine RD.mv rfl rfl rfl rfl ?_
 refine RD.q (u:=.agg (cGChart p1)) rfl (q0f und24 rfl (q00 inf24) rfl rfl rfl) (RD.mv rfl rfl rfl rfl (RD.free (u:=.agg (xGDeriv r90)) (args:=[.agg (cGChart p1),.int .i64 z11]) rfl (q0b rfl rfl fn22 hb22 rfl rfl) (fun s=>q7a n p1 z11 r90 h91 s) rfl rfl (RD.q (u:=.ptr 2 0 (0*1+z11.toNat*1)) rfl (q13 rfl rfl (ia_rl und34 (q00 inf3) rfl h93)) (RD.actn (u:=.junk) (σ':=⟨[(4,.row [.sl 3 0 ((p1.Edges.length:Int).toNat) ((p1.Edges.length:Int).toNat)] 35),(3,.row (List.map cGDeriv l12).flatten 37),(2,.row (List.map (cI .i64) (l13.set z11.toNat z11)).flatten 3),(1,.row [.int .i64 0,.nils] 24),(0,.row (cGChart p1) 24)],5⟩) rfl (st_rl (cI .i64) (q00 inf3) (q27 .i64) rfl rfl rfl rfl rfl rfl h93 rfl) rfl (RD.q (u:=.ptr 3 0 (0*5+z11.toNat*5)) rfl (q13 rfl rfl (ia_rl und35 (q00 inf37) rfl h95)) ?_)))))
 refine RD.actn (u:=.junk) (σ':=⟨[(4,.row [.sl 3 0 ((p1.Edges.length:Int).toNat) ((p1.Edges.length:Int).toNat)] 35),(3,.row (List.map cGDeriv (l12.set z11.toNat r90)).flatten 37),(2,.row (List.map (cI .i64) (l13.set z11.toNat z11)).flatten 3),(1,.row [.int .i64 0,.nils] 24),(0,.row (cGChart p1) 24)],5⟩) rfl (st_rl cGDeriv (q00 inf37) q0x rfl rfl rfl rfl (by simp only [q1f,xGDeriv,GDeriv.Kind,GDeriv.Name,GDeriv.From,GDeriv.To,GDeriv.Kids]<;>rfl) rfl h95 rfl) rfl ?_
 refine RD.done ⟨by kernel_rfl,⟨q05 und35 rfl rfl rfl rfl,⟨q07 rfl,trivial⟩⟩,?_⟩
 refine sr ?_
 refine RS.q rfl (q02 rfl rfl (q32 _ _ _) rfl) (RS.mv rfl rfl rfl rfl ?_)
 refine sd ?_
 exact ⟨m1,_,_,Nat.lt_succ_self _,⟨(IntKind.i64.wrap (z11+1)),(l12.set z11.toNat r90),(l13.set z11.toNat z11),hF,rfl,rfl⟩,(Nat.zero_le _),Gh.toC (n1:=5) ⟨rfl,rfl,rfl,rfl,rfl,rfl,trivial⟩ rfl (Nat.zero_le _) (by simp)⟩
 replace hF:=q08 h89 hF
 refine st ?_
 refine WPU.exit ?_
 refine st ?_
 exact ⟨_,_,⟨l12,l13,hF,rfl,rfl⟩,(Nat.zero_le _),Gh.toC (n1:=5) ⟨rfl,rfl,rfl,rfl,trivial⟩ rfl (Nat.zero_le _) (by simp)⟩
theorem q4h (n:Nat) (p1:GChart) (r:GChart) (hF:q3l n p1=some r) (σ:Sg):EvU Try.prog 25 [.agg (cGChart p1)] σ (fun u σ'=>u = .agg (cGChart r)∧σ'=σ) :=
 EvU.pure1C (chart_Canon_0 n p1 r hF) σ
def q1u (n:Nat)  : Option (Bool) :=
 bindO (q53 n 0) fun r1 =>
 bindO (q53 n 33) fun r3 =>
 bindO (q53 n 2) fun r5 =>
 bindO (q6k n ([97]) 0 1) fun r7 =>
 bindO (q20 n (GChart.mk r5.1.Words r5.1.Edges) r7) fun r9 =>
 bindO (q6k n ([98]) 1 2) fun r11 =>
 bindO (q20 n (GChart.mk r9.1.Words r9.1.Edges) r11) fun r13 =>
 bindO (q6k n ([98]) 1 2) fun r15 =>
 bindO (q20 n (GChart.mk r13.1.Words r13.1.Edges) r15) fun r17 =>
 bindO (q20 n (GChart.mk r13.1.Words r13.1.Edges) (GEdge.mk 0 2 0 2 ([115]) ([0,1]) (GDeriv.mk 0 [] 0 0 []) (GFS.mk []))) fun r19 =>
 bindO (q20 n (GChart.mk r19.1.Words r19.1.Edges) (GEdge.mk 0 1 1 2 ([110]) ([0]) (GDeriv.mk 0 [] 0 0 []) (GFS.mk []))) fun r21 =>
 bindO (q20 n (GChart.mk r21.1.Words r21.1.Edges) (GEdge.mk 0 1 2 2 ([110]) ([3]) (GDeriv.mk 0 [] 0 0 []) (GFS.mk []))) fun r23 =>
 bindO (q20 n (GChart.mk r23.1.Words r23.1.Edges) (GEdge.mk 0 1 3 2 ([110]) ([4]) (GDeriv.mk 0 [] 0 0 []) (GFS.mk []))) fun r25 =>
 bindO (cond (r1.2 != 2)
  (some true)
  (cond (r3.2 != 2)
   (some true)
   (cond (r5.2 != 0)
    (some true)
    (cond (r9.2.2 != 0)
     (some true)
     (cond (r13.2.2 != 0)
      (some true)
      (cond (r17.2.2 != 4)
       (some true)
       (cond (r17.2.1 != 1)
        (some true)
        (cond (r19.2.2 != 0)
         (some true)
         (cond (r19.2.1 != 2)
          (some true)
          (cond (r21.2.2 != 0)
           (some true)
           (cond (r23.2.2 != 0)
            (some true)
            (some (r25.2.2 != 13))))))))))))) fun b38 =>
 cond b38
  (some false)
  (bindO (q5s n (GChart.mk r23.1.Words r23.1.Edges) 0) fun r41 =>
  bindO (q72 n (GChart.mk r23.1.Words r23.1.Edges) 2) fun r43 =>
  bindO (cond ((r41.length:Int) == 4)
   (bindO (idxO r41 1) fun x46 =>
   cond (x46 == 2)
    (cond ((r43.length:Int) == 2)
     (bindO (idxO r43 0) fun x50 =>
     cond (x50 == 1)
      (bindO (idxO r43 1) fun x53 =>
      cond (x53 == 2)
       (bindO (q4s n (GChart.mk r23.1.Words r23.1.Edges) 2) fun r56 =>
       bindO (q42 n r56) fun r58 =>
       cond (bytesEq r58 ([40,115,32,48,32,50,32,40,97,32,48,32,49,41,32,40,98,32,49,32,50,41,41]))
        (bindO (q3l n (GChart.mk r23.1.Words r23.1.Edges)) fun r61 =>
        bindO (idxO r61.Edges 4) fun x63 =>
        some (bytesEq x63.Name ([115])))
        (some false))
       (some false))
      (some false))
     (some false))
    (some false))
   (some false)) fun b65 =>
  some b65)
theorem q8x (n:Nat)  (r:Bool) (hF:q1u n  = some r):EvU Try.prog 12 [] ⟨[],0⟩ (fun u _=>u = .bool r∧Bel 0 u):=by
 unfold q1u at hF
 refine EvU.of_body Try.tb_ok fn12 rfl ?_
 refine WPU.ghost (tm':=fr 181 []) (Gh.start (Nat.le_of_ble_eq_true rfl)) (Nat.zero_le _) ?_
 refine sr ?_
 refine sd ?_
 obtain ⟨r1,h2,hF⟩:=q01 hF
 refine sr ?_
 refine RS.call (u:=.tup [.agg (cGChart r1.1),.int .i64 r1.2]) (args:=[.int .i64 0]) rfl (q0b rfl rfl fn9 hb9 rfl rfl) (q62 n 0 r1 h2 _) rfl rfl (RS.mv rfl rfl rfl rfl (RS.q rfl (q0z rfl rfl) (RS.q rfl (q0z rfl rfl) (RS.q (u:=.ptr 0 0 0) (σ':=⟨[(0,.row [.int .i64 0,.nils] 24)],1⟩) rfl (q1d inf24 rfl rfl) (RS.opn (u:=.junk) (σ':=⟨[(0,.row (cGChart r1.1) 24)],1⟩) rfl (q0g (q00 inf24) rfl rfl rfl rfl rfl rfl rfl rfl) rfl ?_)))))
 refine sd ?_
 obtain ⟨r3,h4,hF⟩:=q01 hF
 refine sr ?_
 refine RS.call (u:=.tup [.agg (cGChart r3.1),.int .i64 r3.2]) (args:=[.int .i64 33]) rfl (q0b rfl rfl fn9 hb9 rfl rfl) (q62 n 33 r3 h4 _) rfl rfl (RS.mv rfl rfl rfl rfl (RS.q rfl (q0z rfl rfl) (RS.q rfl (q0z rfl rfl) (RS.q (u:=.ptr 1 0 0) (σ':=⟨[(1,.row [.int .i64 0,.nils] 24),(0,.row (cGChart r1.1) 24)],2⟩) rfl (q1d inf24 rfl rfl) (RS.opn (u:=.junk) (σ':=⟨[(1,.row (cGChart r3.1) 24),(0,.row (cGChart r1.1) 24)],2⟩) rfl (q0g (q00 inf24) rfl rfl rfl rfl rfl rfl rfl rfl) rfl ?_)))))
 refine sd ?_
 obtain ⟨r5,h6,hF⟩:=q01 hF
 refine sr ?_
 refine RS.call (u:=.tup [.agg (cGChart r5.1),.int .i64 r5.2]) (args:=[.int .i64 2]) rfl (q0b rfl rfl fn9 hb9 rfl rfl) (q62 n 2 r5 h6 _) rfl rfl (RS.mv rfl rfl rfl rfl (RS.q rfl (q0z rfl rfl) (RS.q rfl (q0z rfl rfl) (RS.q (u:=.ptr 2 0 0) (σ':=⟨[(2,.row [.int .i64 0,.nils] 24),(1,.row (cGChart r3.1) 24),(0,.row (cGChart r1.1) 24)],3⟩) rfl (q1d inf24 rfl rfl) (RS.opn (u:=.junk) (σ':=⟨[(2,.row (cGChart r5.1) 24),(1,.row (cGChart r3.1) 24),(0,.row (cGChart r1.1) 24)],3⟩) rfl (q0g (q00 inf24) rfl rfl rfl rfl rfl rfl rfl rfl) rfl ?_)))))
 refine sd ?_
 obtain ⟨r7,h8,hF⟩:=q01 hF
 obtain ⟨r9,h10,hF⟩:=q01 hF
 refine WPU.drawE Try.tb_ok [(5,7),(6,7)] (by kernel_rfl) ?_
 refine RD.q (u:=.agg (cGChart r5.1)) rfl (q0f und24 rfl (q00 inf24) rfl rfl rfl) (RD.free (u:=.agg (cGEdge r7)) (args:=[.str ([97]),.int .i64 0,.int .i64 1]) rfl (q0b rfl rfl fn31 hb31 rfl rfl) (fun s=>q7r n ([97]) 0 1 r7 h8 s) rfl rfl (RD.free (u:=.tup [.agg (cGChart r9.1),.int .i64 r9.2.1,.int .i64 r9.2.2]) (args:=[.agg (cGChart r5.1),.agg (cGEdge r7)]) rfl (q0b rfl rfl fn14 hb14 rfl rfl) (fun s=>q37 n (GChart.mk r5.1.Words r5.1.Edges) r7 r9 h10 s) rfl rfl (RD.mv rfl rfl rfl rfl (RD.q rfl (q0z rfl rfl) (RD.q rfl (q0z rfl rfl) (RD.q rfl (q0z rfl rfl) (RD.actn (u:=.junk) (σ':=⟨[(2,.row (cGChart r9.1) 24),(1,.row (cGChart r3.1) 24),(0,.row (cGChart r1.1) 24)],3⟩) rfl (q0g (q00 inf24) rfl rfl rfl rfl rfl rfl rfl rfl) rfl ?_)))))))
 repeat refine RD.as rfl rfl rfl rfl ?_
 refine RD.done ⟨by kernel_rfl,⟨q0z rfl rfl,⟨q0z rfl rfl,trivial⟩⟩,?_⟩
 refine st ?_
 obtain ⟨r11,h12,hF⟩:=q01 hF
 obtain ⟨r13,h14,hF⟩:=q01 hF
 refine WPU.drawE Try.tb_ok [(5,7),(6,7)] (by kernel_rfl) ?_
 refine RD.q (u:=.agg (cGChart r9.1)) rfl (q0f und24 rfl (q00 inf24) rfl rfl rfl) (RD.free (u:=.agg (cGEdge r11)) (args:=[.str ([98]),.int .i64 1,.int .i64 2]) rfl (q0b rfl rfl fn31 hb31 rfl rfl) (fun s=>q7r n ([98]) 1 2 r11 h12 s) rfl rfl (RD.free (u:=.tup [.agg (cGChart r13.1),.int .i64 r13.2.1,.int .i64 r13.2.2]) (args:=[.agg (cGChart r9.1),.agg (cGEdge r11)]) rfl (q0b rfl rfl fn14 hb14 rfl rfl) (fun s=>q37 n (GChart.mk r9.1.Words r9.1.Edges) r11 r13 h14 s) rfl rfl (RD.mv rfl rfl rfl rfl (RD.q rfl (q0z rfl rfl) (RD.q rfl (q0z rfl rfl) (RD.q rfl (q0z rfl rfl) (RD.actn (u:=.junk) (σ':=⟨[(2,.row (cGChart r13.1) 24),(1,.row (cGChart r3.1) 24),(0,.row (cGChart r1.1) 24)],3⟩) rfl (q0g (q00 inf24) rfl rfl rfl rfl rfl rfl rfl rfl) rfl ?_)))))))
 repeat refine RD.as rfl rfl rfl rfl ?_
 refine RD.done ⟨by kernel_rfl,⟨q0z rfl rfl,⟨q0z rfl rfl,trivial⟩⟩,?_⟩
 refine st ?_
 obtain ⟨r15,h16,hF⟩:=q01 hF
 obtain ⟨r17,h18,hF⟩:=q01 hF
 refine WPU.drawE Try.tb_ok [(0,7),(3,7),(4,7),(5,7),(5,8),(6,7),(6,8)] (by kernel_rfl) ?_
 refine RD.q (u:=.agg (cGChart r13.1)) rfl (q0f und24 rfl (q00 inf24) rfl rfl rfl) (RD.free (u:=.agg (cGEdge r15)) (args:=[.str ([98]),.int .i64 1,.int .i64 2]) rfl (q0b rfl rfl fn31 hb31 rfl rfl) (fun s=>q7r n ([98]) 1 2 r15 h16 s) rfl rfl (RD.free (u:=.tup [.agg (cGChart r17.1),.int .i64 r17.2.1,.int .i64 r17.2.2]) (args:=[.agg (cGChart r13.1),.agg (cGEdge r15)]) rfl (q0b rfl rfl fn14 hb14 rfl rfl) (fun s=>q37 n (GChart.mk r13.1.Words r13.1.Edges) r15 r17 h18 s) rfl rfl (RD.mv rfl rfl rfl rfl (RD.q rfl (q0z rfl rfl) (RD.q rfl (q0z rfl rfl) (RD.q rfl (q0z rfl rfl) (RD.act (u:=.ptr 3 0 0) (σ':=⟨[(3,.row [.int .i64 0,.nils] 24),(2,.row (cGChart r13.1) 24),(1,.row (cGChart r3.1) 24),(0,.row (cGChart r1.1) 24)],4⟩) rfl (q1d inf24 rfl rfl) rfl rfl ?_)))))))
 refine RD.actn (u:=.junk) (σ':=⟨[(3,.row (cGChart r17.1) 24),(2,.row (cGChart r13.1) 24),(1,.row (cGChart r3.1) 24),(0,.row (cGChart r1.1) 24)],4⟩) rfl (q0g (q00 inf24) rfl rfl rfl rfl rfl rfl rfl rfl) rfl ?_
 repeat refine RD.as rfl rfl rfl rfl ?_
 refine RD.done ⟨by kernel_rfl,⟨q0f und24 rfl (q00 inf24) rfl rfl rfl,⟨q07 rfl,⟨q0z rfl rfl,⟨q0z rfl rfl,⟨q0z rfl rfl,⟨q0z rfl rfl,⟨q0z rfl rfl,trivial⟩⟩⟩⟩⟩⟩⟩,?_⟩
 refine st ?_
 obtain ⟨r19,h20,hF⟩:=q01 hF
 refine sr ?_
 refine RS.q (u:=.agg (cGChart r13.1)) rfl (q0f und24 rfl (q00 inf24) rfl rfl rfl) (RS.q (u:=.sl 4 0 2 2) (σ':=⟨[(4,.row [.int .i64 0,.int .i64 1] 3),(3,.row (cGChart r17.1) 24),(2,.row (cGChart r13.1) 24),(1,.row (cGChart r3.1) 24),(0,.row (cGChart r1.1) 24)],5⟩) rfl (q77 und34 inf3 rfl rfl rfl rfl rfl rfl rfl) (RS.q (u:=.agg [.int .i64 0,.int .i64 2,.int .i64 0,.int .i64 2,.str ([115]),.sl 4 0 2 2,.int .i64 0,.str [],.int .i64 0,.int .i64 0,.nils,.nils]) rfl (q80 bd42 rfl rfl rfl) ?_))
 refine RS.fcall (u:=.tup [.agg (cGChart r19.1),.int .i64 r19.2.1,.int .i64 r19.2.2]) (args:=[.agg (cGChart r13.1),.agg [.int .i64 0,.int .i64 2,.int .i64 0,.int .i64 2,.str ([115]),.sl 4 0 2 2,.int .i64 0,.str [],.int .i64 0,.int .i64 0,.nils,.nils]]) (σ1:=⟨[(3,.row (cGChart r17.1) 24),(2,.row (cGChart r13.1) 24),(1,.row (cGChart r3.1) 24),(0,.row (cGChart r1.1) 24)],5⟩) rfl (q0b rfl rfl fn14 hb14 rfl rfl) (Gh.trans (Gh.fz (tm':=[.agg (cGChart r13.1),.agg [.int .i64 0,.int .i64 2,.int .i64 0,.int .i64 2,.str ([115]),.isl false (List.map (cI .i64) ([0,1])),.int .i64 0,.str [],.int .i64 0,.int .i64 0,.nils,.nils]]) (h':=[(3,.row (cGChart r17.1) 24),(2,.row (cGChart r13.1) 24),(1,.row (cGChart r3.1) 24),(0,.row (cGChart r1.1) 24)]) 4 (.row [.int .i64 0,.int .i64 1] 3) 1 rfl (by simp) (by simp only [oneU,q11,q0o,q22,q17,q25,q1b,q1a,q19,q18,q12,q23,q24,q21,q26,q3o,junkT,q7c,q7k,q0m,Nat.reduceLeDiff,Nat.reduceMul,List.length_cons,List.length_nil,Nat.reduceAdd]<;>simp only [chunks,List.take,List.drop,List.map,cI,cB,cS,cL]) (by simp only [fzH,fzB,ug,Nat.beq,cond_true,cond_false,oneU,q11,q0o,q22,q17,q25,q1b,q1a,q19,q18,q12,q23,q24,q21,q26,q3o,junkT,q7c,q7k,q0m,Nat.reduceLeDiff,Nat.reduceMul,List.length_cons,List.length_nil,Nat.reduceAdd]<;>simp only [chunks,List.take,List.drop,List.map,cI,cB,cS,cL])) (Gh.wk (tm':=[.agg (cGChart r13.1),.agg [.int .i64 0,.int .i64 2,.int .i64 0,.int .i64 2,.str ([115]),.isl false (List.map (cI .i64) ([0,1])),.int .i64 0,.str [],.int .i64 0,.int .i64 0,.isl false [],.isl false []]]) (.cons (.refl _) (.cons (.agg (.cons (.refl _) (.cons (.refl _) (.cons (.refl _) (.cons (.refl _) (.cons (.refl _) (.cons (.refl _) (.cons (.refl _) (.cons (.refl _) (.cons (.refl _) (.cons (.refl _) (.cons (.nil false) (.cons (.nil false) .nil))))))))))))) .nil)))) (Nat.le_of_ble_eq_true rfl) (q37 n (GChart.mk r13.1.Words r13.1.Edges) (GEdge.mk 0 2 0 2 ([115]) ([0,1]) (GDeriv.mk 0 [] 0 0 []) (GFS.mk [])) r19 h20 _) rfl rfl ?_
 refine RS.mv rfl rfl rfl rfl (RS.q rfl (q0z rfl rfl) (RS.q rfl (q0z rfl rfl) (RS.q rfl (q0z rfl rfl) (RS.opn (u:=.junk) (σ':=⟨[(3,.row (cGChart r17.1) 24),(2,.row (cGChart r19.1) 24),(1,.row (cGChart r3.1) 24),(0,.row (cGChart r1.1) 24)],5⟩) rfl (q0g (q00 inf24) rfl rfl rfl rfl rfl rfl rfl rfl) rfl ?_))))
 repeat refine RS.as rfl rfl rfl rfl ?_
 refine sd ?_
 obtain ⟨r21,h22,hF⟩:=q01 hF
 refine sr ?_
 refine RS.q (u:=.agg (cGChart r19.1)) rfl (q0f und24 rfl (q00 inf24) rfl rfl rfl) (RS.q (u:=.sl 5 0 1 1) (σ':=⟨[(5,.row [.int .i64 0] 3),(3,.row (cGChart r17.1) 24),(2,.row (cGChart r19.1) 24),(1,.row (cGChart r3.1) 24),(0,.row (cGChart r1.1) 24)],6⟩) rfl (q77 und34 inf3 rfl rfl rfl rfl rfl rfl rfl) (RS.q (u:=.agg [.int .i64 0,.int .i64 1,.int .i64 1,.int .i64 2,.str ([110]),.sl 5 0 1 1,.int .i64 0,.str [],.int .i64 0,.int .i64 0,.nils,.nils]) rfl (q80 bd42 rfl rfl rfl) ?_))
 refine RS.fcall (u:=.tup [.agg (cGChart r21.1),.int .i64 r21.2.1,.int .i64 r21.2.2]) (args:=[.agg (cGChart r19.1),.agg [.int .i64 0,.int .i64 1,.int .i64 1,.int .i64 2,.str ([110]),.sl 5 0 1 1,.int .i64 0,.str [],.int .i64 0,.int .i64 0,.nils,.nils]]) (σ1:=⟨[(3,.row (cGChart r17.1) 24),(2,.row (cGChart r19.1) 24),(1,.row (cGChart r3.1) 24),(0,.row (cGChart r1.1) 24)],6⟩) rfl (q0b rfl rfl fn14 hb14 rfl rfl) (Gh.trans (Gh.fz (tm':=[.agg (cGChart r19.1),.agg [.int .i64 0,.int .i64 1,.int .i64 1,.int .i64 2,.str ([110]),.isl false (List.map (cI .i64) ([0])),.int .i64 0,.str [],.int .i64 0,.int .i64 0,.nils,.nils]]) (h':=[(3,.row (cGChart r17.1) 24),(2,.row (cGChart r19.1) 24),(1,.row (cGChart r3.1) 24),(0,.row (cGChart r1.1) 24)]) 5 (.row [.int .i64 0] 3) 1 rfl (by simp) (by simp only [oneU,q11,q0o,q22,q17,q25,q1b,q1a,q19,q18,q12,q23,q24,q21,q26,q3o,junkT,q7c,q7k,q0m,Nat.reduceLeDiff,Nat.reduceMul,List.length_cons,List.length_nil,Nat.reduceAdd]<;>simp only [chunks,List.take,List.drop,List.map,cI,cB,cS,cL]) (by simp only [fzH,fzB,ug,Nat.beq,cond_true,cond_false,oneU,q11,q0o,q22,q17,q25,q1b,q1a,q19,q18,q12,q23,q24,q21,q26,q3o,junkT,q7c,q7k,q0m,Nat.reduceLeDiff,Nat.reduceMul,List.length_cons,List.length_nil,Nat.reduceAdd]<;>simp only [chunks,List.take,List.drop,List.map,cI,cB,cS,cL])) (Gh.wk (tm':=[.agg (cGChart r19.1),.agg [.int .i64 0,.int .i64 1,.int .i64 1,.int .i64 2,.str ([110]),.isl false (List.map (cI .i64) ([0])),.int .i64 0,.str [],.int .i64 0,.int .i64 0,.isl false [],.isl false []]]) (.cons (.refl _) (.cons (.agg (.cons (.refl _) (.cons (.refl _) (.cons (.refl _) (.cons (.refl _) (.cons (.refl _) (.cons (.refl _) (.cons (.refl _) (.cons (.refl _) (.cons (.refl _) (.cons (.refl _) (.cons (.nil false) (.cons (.nil false) .nil))))))))))))) .nil)))) (Nat.le_of_ble_eq_true rfl) (q37 n (GChart.mk r19.1.Words r19.1.Edges) (GEdge.mk 0 1 1 2 ([110]) ([0]) (GDeriv.mk 0 [] 0 0 []) (GFS.mk [])) r21 h22 _) rfl rfl ?_
 refine RS.mv rfl rfl rfl rfl (RS.q rfl (q0z rfl rfl) (RS.q rfl (q0z rfl rfl) (RS.q rfl (q0z rfl rfl) (RS.opn (u:=.junk) (σ':=⟨[(3,.row (cGChart r17.1) 24),(2,.row (cGChart r21.1) 24),(1,.row (cGChart r3.1) 24),(0,.row (cGChart r1.1) 24)],6⟩) rfl (q0g (q00 inf24) rfl rfl rfl rfl rfl rfl rfl rfl) rfl ?_))))
 repeat refine RS.as rfl rfl rfl rfl ?_
 refine sd ?_
 obtain ⟨r23,h24,hF⟩:=q01 hF
 refine sr ?_
 refine RS.q (u:=.agg (cGChart r21.1)) rfl (q0f und24 rfl (q00 inf24) rfl rfl rfl) (RS.q (u:=.sl 6 0 1 1) (σ':=⟨[(6,.row [.int .i64 3] 3),(3,.row (cGChart r17.1) 24),(2,.row (cGChart r21.1) 24),(1,.row (cGChart r3.1) 24),(0,.row (cGChart r1.1) 24)],7⟩) rfl (q77 und34 inf3 rfl rfl rfl rfl rfl rfl rfl) (RS.q (u:=.agg [.int .i64 0,.int .i64 1,.int .i64 2,.int .i64 2,.str ([110]),.sl 6 0 1 1,.int .i64 0,.str [],.int .i64 0,.int .i64 0,.nils,.nils]) rfl (q80 bd42 rfl rfl rfl) ?_))
 refine RS.fcall (u:=.tup [.agg (cGChart r23.1),.int .i64 r23.2.1,.int .i64 r23.2.2]) (args:=[.agg (cGChart r21.1),.agg [.int .i64 0,.int .i64 1,.int .i64 2,.int .i64 2,.str ([110]),.sl 6 0 1 1,.int .i64 0,.str [],.int .i64 0,.int .i64 0,.nils,.nils]]) (σ1:=⟨[(3,.row (cGChart r17.1) 24),(2,.row (cGChart r21.1) 24),(1,.row (cGChart r3.1) 24),(0,.row (cGChart r1.1) 24)],7⟩) rfl (q0b rfl rfl fn14 hb14 rfl rfl) (Gh.trans (Gh.fz (tm':=[.agg (cGChart r21.1),.agg [.int .i64 0,.int .i64 1,.int .i64 2,.int .i64 2,.str ([110]),.isl false (List.map (cI .i64) ([3])),.int .i64 0,.str [],.int .i64 0,.int .i64 0,.nils,.nils]]) (h':=[(3,.row (cGChart r17.1) 24),(2,.row (cGChart r21.1) 24),(1,.row (cGChart r3.1) 24),(0,.row (cGChart r1.1) 24)]) 6 (.row [.int .i64 3] 3) 1 rfl (by simp) (by simp only [oneU,q11,q0o,q22,q17,q25,q1b,q1a,q19,q18,q12,q23,q24,q21,q26,q3o,junkT,q7c,q7k,q0m,Nat.reduceLeDiff,Nat.reduceMul,List.length_cons,List.length_nil,Nat.reduceAdd]<;>simp only [chunks,List.take,List.drop,List.map,cI,cB,cS,cL]) (by simp only [fzH,fzB,ug,Nat.beq,cond_true,cond_false,oneU,q11,q0o,q22,q17,q25,q1b,q1a,q19,q18,q12,q23,q24,q21,q26,q3o,junkT,q7c,q7k,q0m,Nat.reduceLeDiff,Nat.reduceMul,List.length_cons,List.length_nil,Nat.reduceAdd]<;>simp only [chunks,List.take,List.drop,List.map,cI,cB,cS,cL])) (Gh.wk (tm':=[.agg (cGChart r21.1),.agg [.int .i64 0,.int .i64 1,.int .i64 2,.int .i64 2,.str ([110]),.isl false (List.map (cI .i64) ([3])),.int .i64 0,.str [],.int .i64 0,.int .i64 0,.isl false [],.isl false []]]) (.cons (.refl _) (.cons (.agg (.cons (.refl _) (.cons (.refl _) (.cons (.refl _) (.cons (.refl _) (.cons (.refl _) (.cons (.refl _) (.cons (.refl _) (.cons (.refl _) (.cons (.refl _) (.cons (.refl _) (.cons (.nil false) (.cons (.nil false) .nil))))))))))))) .nil)))) (Nat.le_of_ble_eq_true rfl) (q37 n (GChart.mk r21.1.Words r21.1.Edges) (GEdge.mk 0 1 2 2 ([110]) ([3]) (GDeriv.mk 0 [] 0 0 []) (GFS.mk [])) r23 h24 _) rfl rfl ?_
 refine RS.mv rfl rfl rfl rfl (RS.q rfl (q0z rfl rfl) (RS.q rfl (q0z rfl rfl) (RS.q rfl (q0z rfl rfl) (RS.opn (u:=.junk) (σ':=⟨[(3,.row (cGChart r17.1) 24),(2,.row (cGChart r23.1) 24),(1,.row (cGChart r3.1) 24),(0,.row (cGChart r1.1) 24)],7⟩) rfl (q0g (q00 inf24) rfl rfl rfl rfl rfl rfl rfl rfl) rfl ?_))))
 repeat refine RS.as rfl rfl rfl rfl ?_
 refine sd ?_
 obtain ⟨r25,h26,hF⟩:=q01 hF
 refine sr ?_
 refine RS.q (u:=.agg (cGChart r23.1)) rfl (q0f und24 rfl (q00 inf24) rfl rfl rfl) (RS.q (u:=.sl 7 0 1 1) (σ':=⟨[(7,.row [.int .i64 4] 3),(3,.row (cGChart r17.1) 24),(2,.row (cGChart r23.1) 24),(1,.row (cGChart r3.1) 24),(0,.row (cGChart r1.1) 24)],8⟩) rfl (q77 und34 inf3 rfl rfl rfl rfl rfl rfl rfl) (RS.q (u:=.agg [.int .i64 0,.int .i64 1,.int .i64 3,.int .i64 2,.str ([110]),.sl 7 0 1 1,.int .i64 0,.str [],.int .i64 0,.int .i64 0,.nils,.nils]) rfl (q80 bd42 rfl rfl rfl) ?_))
 refine RS.fcall (u:=.tup [.agg (cGChart r25.1),.int .i64 r25.2.1,.int .i64 r25.2.2]) (args:=[.agg (cGChart r23.1),.agg [.int .i64 0,.int .i64 1,.int .i64 3,.int .i64 2,.str ([110]),.sl 7 0 1 1,.int .i64 0,.str [],.int .i64 0,.int .i64 0,.nils,.nils]]) (σ1:=⟨[(3,.row (cGChart r17.1) 24),(2,.row (cGChart r23.1) 24),(1,.row (cGChart r3.1) 24),(0,.row (cGChart r1.1) 24)],8⟩) rfl (q0b rfl rfl fn14 hb14 rfl rfl) (Gh.trans (Gh.fz (tm':=[.agg (cGChart r23.1),.agg [.int .i64 0,.int .i64 1,.int .i64 3,.int .i64 2,.str ([110]),.isl false (List.map (cI .i64) ([4])),.int .i64 0,.str [],.int .i64 0,.int .i64 0,.nils,.nils]]) (h':=[(3,.row (cGChart r17.1) 24),(2,.row (cGChart r23.1) 24),(1,.row (cGChart r3.1) 24),(0,.row (cGChart r1.1) 24)]) 7 (.row [.int .i64 4] 3) 1 rfl (by simp) (by simp only [oneU,q11,q0o,q22,q17,q25,q1b,q1a,q19,q18,q12,q23,q24,q21,q26,q3o,junkT,q7c,q7k,q0m,Nat.reduceLeDiff,Nat.reduceMul,List.length_cons,List.length_nil,Nat.reduceAdd]<;>simp only [chunks,List.take,List.drop,List.map,cI,cB,cS,cL]) (by simp only [fzH,fzB,ug,Nat.beq,cond_true,cond_false,oneU,q11,q0o,q22,q17,q25,q1b,q1a,q19,q18,q12,q23,q24,q21,q26,q3o,junkT,q7c,q7k,q0m,Nat.reduceLeDiff,Nat.reduceMul,List.length_cons,List.length_nil,Nat.reduceAdd]<;>simp only [chunks,List.take,List.drop,List.map,cI,cB,cS,cL])) (Gh.wk (tm':=[.agg (cGChart r23.1),.agg [.int .i64 0,.int .i64 1,.int .i64 3,.int .i64 2,.str ([110]),.isl false (List.map (cI .i64) ([4])),.int .i64 0,.str [],.int .i64 0,.int .i64 0,.isl false [],.isl false []]]) (.cons (.refl _) (.cons (.agg (.cons (.refl _) (.cons (.refl _) (.cons (.refl _) (.cons (.refl _) (.cons (.refl _) (.cons (.refl _) (.cons (.refl _) (.cons (.refl _) (.cons (.refl _) (.cons (.refl _) (.cons (.nil false) (.cons (.nil false) .nil))))))))))))) .nil)))) (Nat.le_of_ble_eq_true rfl) (q37 n (GChart.mk r23.1.Words r23.1.Edges) (GEdge.mk 0 1 3 2 ([110]) ([4]) (GDeriv.mk 0 [] 0 0 []) (GFS.mk [])) r25 h26 _) rfl rfl ?_
 refine RS.mv rfl rfl rfl rfl (RS.q rfl (q0z rfl rfl) (RS.q rfl (q0z rfl rfl) (RS.q rfl (q0z rfl rfl) (RS.q (u:=.ptr 8 0 0) (σ':=⟨[(8,.row [.int .i64 0,.nils] 24),(3,.row (cGChart r17.1) 24),(2,.row (cGChart r23.1) 24),(1,.row (cGChart r3.1) 24),(0,.row (cGChart r1.1) 24)],9⟩) rfl (q1d inf24 rfl rfl) (RS.opn (u:=.junk) (σ':=⟨[(8,.row (cGChart r25.1) 24),(3,.row (cGChart r17.1) 24),(2,.row (cGChart r23.1) 24),(1,.row (cGChart r3.1) 24),(0,.row (cGChart r1.1) 24)],9⟩) rfl (q0g (q00 inf24) rfl rfl rfl rfl rfl rfl rfl rfl) rfl ?_)))))
 repeat refine RS.as rfl rfl rfl rfl ?_
 refine sd ?_
 obtain ⟨b38,h39,hF⟩:=q01 hF
 refine WPU.joinK (fun tm σ=>tm=fr 181 [(5,.ptr 2 0 0),(135,.bool b38)]∧σ=⟨[(8,.row (cGChart r25.1) 24),(3,.row (cGChart r17.1) 24),(2,.row (cGChart r23.1) 24),(1,.row (cGChart r3.1) 24),(0,.row (cGChart r1.1) 24)],9⟩) ?_ ?_
 rintro _ _ ⟨rfl,rfl⟩
 refine st ?_
 refine WPU.condS (t:=b38) rfl (fun h40=>?_) (fun h40=>?_)
 replace hF:=q09 h40 hF
 refine sr ?_
 refine sd ?_
 refine WPU.ret ?_
 refine st ?_
 have hr:=Option.some.inj hF
 subst hr
 exact ⟨.inr rfl,[.bool false],q0t rfl (q0q),.bool false,⟨[],0⟩,Nat.le_refl _,Gh.toR (.bool false) rfl,rfl,BU.h⟩
 replace hF:=q08 h40 hF
 refine st ?_
 refine WPU.skip ?_
 refine st ?_
 obtain ⟨r41,h42,hF⟩:=q01 hF
 obtain ⟨r43,h44,hF⟩:=q01 hF
 refine WPU.drawE Try.tb_ok [] (by kernel_rfl) ?_
 refine RD.q (u:=.agg (cGChart r23.1)) rfl (q0f und24 rfl (q00 inf24) rfl rfl rfl) (RD.free (u:=.isl false (List.map (cI .i64) r41)) (args:=[.agg (cGChart r23.1),.int .i64 0]) rfl (q0b rfl rfl fn16 hb16 rfl rfl) (fun s=>qab n (GChart.mk r23.1.Words r23.1.Edges) 0 r41 h42 s) rfl rfl (RD.q (u:=.agg (cGChart r23.1)) rfl (q0f und24 rfl (q00 inf24) rfl rfl rfl) (RD.free (u:=.isl false (List.map (cI .i64) r43)) (args:=[.agg (cGChart r23.1),.int .i64 2]) rfl (q0b rfl rfl fn18 hb18 rfl rfl) (fun s=>qbz n (GChart.mk r23.1.Words r23.1.Edges) 2 r43 h44 s) rfl rfl ?_)))
 repeat refine RD.as rfl rfl rfl rfl ?_
 refine RD.done ⟨by kernel_rfl,trivial,?_⟩
 refine st ?_
 obtain ⟨b65,h66,hF⟩:=q01 hF
 refine WPU.joinK (fun tm σ=>tm=fr 181 [(0,.bool b65)]∧σ=⟨[(8,.row (cGChart r25.1) 24),(3,.row (cGChart r17.1) 24),(2,.row (cGChart r23.1) 24),(1,.row (cGChart r3.1) 24),(0,.row (cGChart r1.1) 24)],9⟩) ?_ ?_
 rintro _ _ ⟨rfl,rfl⟩
 refine st ?_
 refine WPU.ret ?_
 refine st ?_
 have hr:=Option.some.inj hF
 subst hr
 exact ⟨.inr rfl,[.bool b65],q0t rfl (q0q),.bool b65,⟨[],0⟩,Nat.le_refl _,Gh.toR (.bool b65) rfl,rfl,BU.h⟩
 rcases q0j ((r41.length:Int) == 4) with h45 | h45
 replace h66:=q09 h45 h66
 obtain ⟨x46,h47,h66⟩:=q01 h66
 rcases q0j (x46 == 2) with h48 | h48
 replace h66:=q09 h48 h66
 rcases q0j ((r43.length:Int) == 2) with h49 | h49
 replace h66:=q09 h49 h66
 obtain ⟨x50,h51,h66⟩:=q01 h66
 rcases q0j (x50 == 1) with h52 | h52
 replace h66:=q09 h52 h66
 obtain ⟨x53,h54,h66⟩:=q01 h66
 rcases q0j (x53 == 2) with h55 | h55
 replace h66:=q09 h55 h66
 obtain ⟨r56,h57,h66⟩:=q01 h66
 obtain ⟨r58,h59,h66⟩:=q01 h66
 rcases q0j (bytesEq r58 ([40,115,32,48,32,50,32,40,97,32,48,32,49,41,32,40,98,32,49,32,50,41,41])) with h60 | h60
 replace h66:=q09 h60 h66
 obtain ⟨r61,h62,h66⟩:=q01 h66
 obtain ⟨x63,h64,h66⟩:=q01 h66
 replace h66:=Option.some.inj h66
 subst h66
 refine sr ?_
 refine RS.q rfl (q0i rfl rfl rfl (q0d (cI .i64) und34)) (RS.q rfl (q02 rfl rfl (q0e _ _ _) rfl) (RS.mv rfl rfl rfl rfl (RS.op (want1 rfl rfl rfl h45) (q07 rfl) rfl rfl (RS.op (u:=.iptr [.int .i64 x46]) (want1 rfl rfl rfl h45) (q13 rfl rfl (q0n (cI .i64) und34 (q00 inf3) (q27 .i64) h47 rfl)) rfl rfl (RS.op (u:=.int .i64 x46) (want1 rfl rfl rfl h45) (q1c und3 rfl rfl rfl) rfl rfl (RS.op (want1 rfl rfl rfl h45) (q02 rfl rfl (q0e _ _ _) rfl) rfl rfl (RS.q (u:=.bool (x46 == 2)) rfl (q04 rfl h45 rfl) ?_)))))))
 refine RS.mv rfl rfl rfl rfl (RS.op (want1 rfl rfl rfl h48) (q07 rfl) rfl rfl (RS.op (want1 rfl rfl rfl h48) (q0i rfl rfl rfl (q0d (cI .i64) und34)) rfl rfl (RS.op (want1 rfl rfl rfl h48) (q02 rfl rfl (q0e _ _ _) rfl) rfl rfl (RS.q (u:=.bool ((r43.length:Int) == 2)) rfl (q04 rfl h48 rfl) (RS.mv rfl rfl rfl rfl (RS.op (want1 rfl rfl rfl h49) (q07 rfl) rfl rfl (RS.op (u:=.iptr [.int .i64 x50]) (want1 rfl rfl rfl h49) (q13 rfl rfl (q0n (cI .i64) und34 (q00 inf3) (q27 .i64) h51 rfl)) rfl rfl ?_)))))))
 refine RS.op (u:=.int .i64 x50) (want1 rfl rfl rfl h49) (q1c und3 rfl rfl rfl) rfl rfl (RS.op (want1 rfl rfl rfl h49) (q02 rfl rfl (q0e _ _ _) rfl) rfl rfl (RS.q (u:=.bool (x50 == 1)) rfl (q04 rfl h49 rfl) (RS.mv rfl rfl rfl rfl (RS.op (want1 rfl rfl rfl h52) (q07 rfl) rfl rfl (RS.op (u:=.iptr [.int .i64 x53]) (want1 rfl rfl rfl h52) (q13 rfl rfl (q0n (cI .i64) und34 (q00 inf3) (q27 .i64) h54 rfl)) rfl rfl (RS.op (u:=.int .i64 x53) (want1 rfl rfl rfl h52) (q1c und3 rfl rfl rfl) rfl rfl (RS.op (want1 rfl rfl rfl h52) (q02 rfl rfl (q0e _ _ _) rfl) rfl rfl ?_)))))))
 refine RS.q (u:=.bool (x53 == 2)) rfl (q04 rfl h52 rfl) (RS.mv rfl rfl rfl rfl (RS.op (u:=.agg (cGChart r23.1)) (want1 rfl rfl rfl h55) (q0f und24 rfl (q00 inf24) rfl rfl rfl) rfl rfl (RS.call (u:=.agg (xGDeriv r56)) (args:=[.agg (cGChart r23.1),.int .i64 2]) (want1 rfl rfl rfl h55) (q0b rfl rfl fn22 hb22 rfl rfl) (q7a n (GChart.mk r23.1.Words r23.1.Edges) 2 r56 h57 _) rfl rfl (RS.call (u:=.str r58) (args:=[.agg (xGDeriv r56)]) (want1 rfl rfl rfl h55) (q0b rfl rfl fn32 hb32 rfl rfl) (q8y n r56 r58 h59 _) rfl rfl (RS.op (u:=.bool (bytesEq r58 ([40,115,32,48,32,50,32,40,97,32,48,32,49,41,32,40,98,32,49,32,50,41,41]))) (want1 rfl rfl rfl h55) (q2w rfl rfl rfl rfl) rfl rfl (RS.q (u:=.bool (bytesEq r58 ([40,115,32,48,32,50,32,40,97,32,48,32,49,41,32,40,98,32,49,32,50,41,41]))) rfl (q04 rfl h55 rfl) (RS.mv rfl rfl rfl rfl ?_)))))))
 refine RS.op (u:=.agg (cGChart r23.1)) (want1 rfl rfl rfl h60) (q0f und24 rfl (q00 inf24) rfl rfl rfl) rfl rfl (RS.call (u:=.agg (cGChart r61)) (args:=[.agg (cGChart r23.1)]) (want1 rfl rfl rfl h60) (q0b rfl rfl fn25 hb25 rfl rfl) (q4h n (GChart.mk r23.1.Words r23.1.Edges) r61 h62 _) rfl rfl (RS.op (u:=.isl false (List.map cGEdge r61.Edges)) (want1 rfl rfl rfl h60) (op_fl1 und24 rfl rfl und22 rfl rfl) rfl rfl (RS.op (u:=.iptr (cGEdge x63)) (want1 rfl rfl rfl h60) (q13 rfl rfl (q0n cGEdge und22 (q00 inf42) q0h h64 rfl)) rfl rfl (RS.op (u:=.iptr [.str x63.Name,.isl false (List.map (cI .i64) x63.Kids),.int .i64 x63.Lex.Kind,.str x63.Lex.Name,.int .i64 x63.Lex.From,.int .i64 x63.Lex.To,.isl false (List.map cGDeriv x63.Lex.Kids),.isl false (List.map cGNode x63.FS.Nodes)]) (want1 rfl rfl rfl h60) (q58 und42 rfl (q00 inf9) rfl rfl) rfl rfl (RS.op (u:=.str x63.Name) (want1 rfl rfl rfl h60) (q1c und9 rfl rfl rfl) rfl rfl (RS.op (u:=.bool (bytesEq x63.Name ([115]))) (want1 rfl rfl rfl h60) (q2w rfl rfl rfl rfl) rfl rfl (RS.q (u:=.bool (bytesEq x63.Name ([115]))) rfl (q04 rfl h60 rfl) ?_)))))))
 refine sd ?_
 exact ⟨_,_,⟨rfl,rfl⟩,(Nat.zero_le _),Gh.toC (n1:=9) ⟨rfl,trivial⟩ rfl (Nat.zero_le _) (by simp)⟩
 replace h66:=q08 h60 h66
 replace h66:=Option.some.inj h66
 subst h66
 refine sr ?_
 refine RS.q rfl (q0i rfl rfl rfl (q0d (cI .i64) und34)) (RS.q rfl (q02 rfl rfl (q0e _ _ _) rfl) (RS.mv rfl rfl rfl rfl (RS.op (want1 rfl rfl rfl h45) (q07 rfl) rfl rfl (RS.op (u:=.iptr [.int .i64 x46]) (want1 rfl rfl rfl h45) (q13 rfl rfl (q0n (cI .i64) und34 (q00 inf3) (q27 .i64) h47 rfl)) rfl rfl (RS.op (u:=.int .i64 x46) (want1 rfl rfl rfl h45) (q1c und3 rfl rfl rfl) rfl rfl (RS.op (want1 rfl rfl rfl h45) (q02 rfl rfl (q0e _ _ _) rfl) rfl rfl (RS.q (u:=.bool (x46 == 2)) rfl (q04 rfl h45 rfl) ?_)))))))
 refine RS.mv rfl rfl rfl rfl (RS.op (want1 rfl rfl rfl h48) (q07 rfl) rfl rfl (RS.op (want1 rfl rfl rfl h48) (q0i rfl rfl rfl (q0d (cI .i64) und34)) rfl rfl (RS.op (want1 rfl rfl rfl h48) (q02 rfl rfl (q0e _ _ _) rfl) rfl rfl (RS.q (u:=.bool ((r43.length:Int) == 2)) rfl (q04 rfl h48 rfl) (RS.mv rfl rfl rfl rfl (RS.op (want1 rfl rfl rfl h49) (q07 rfl) rfl rfl (RS.op (u:=.iptr [.int .i64 x50]) (want1 rfl rfl rfl h49) (q13 rfl rfl (q0n (cI .i64) und34 (q00 inf3) (q27 .i64) h51 rfl)) rfl rfl ?_)))))))
 refine RS.op (u:=.int .i64 x50) (want1 rfl rfl rfl h49) (q1c und3 rfl rfl rfl) rfl rfl (RS.op (want1 rfl rfl rfl h49) (q02 rfl rfl (q0e _ _ _) rfl) rfl rfl (RS.q (u:=.bool (x50 == 1)) rfl (q04 rfl h49 rfl) (RS.mv rfl rfl rfl rfl (RS.op (want1 rfl rfl rfl h52) (q07 rfl) rfl rfl (RS.op (u:=.iptr [.int .i64 x53]) (want1 rfl rfl rfl h52) (q13 rfl rfl (q0n (cI .i64) und34 (q00 inf3) (q27 .i64) h54 rfl)) rfl rfl (RS.op (u:=.int .i64 x53) (want1 rfl rfl rfl h52) (q1c und3 rfl rfl rfl) rfl rfl (RS.op (want1 rfl rfl rfl h52) (q02 rfl rfl (q0e _ _ _) rfl) rfl rfl ?_)))))))
 refine RS.q (u:=.bool (x53 == 2)) rfl (q04 rfl h52 rfl) (RS.mv rfl rfl rfl rfl (RS.op (u:=.agg (cGChart r23.1)) (want1 rfl rfl rfl h55) (q0f und24 rfl (q00 inf24) rfl rfl rfl) rfl rfl (RS.call (u:=.agg (xGDeriv r56)) (args:=[.agg (cGChart r23.1),.int .i64 2]) (want1 rfl rfl rfl h55) (q0b rfl rfl fn22 hb22 rfl rfl) (q7a n (GChart.mk r23.1.Words r23.1.Edges) 2 r56 h57 _) rfl rfl (RS.call (u:=.str r58) (args:=[.agg (xGDeriv r56)]) (want1 rfl rfl rfl h55) (q0b rfl rfl fn32 hb32 rfl rfl) (q8y n r56 r58 h59 _) rfl rfl (RS.op (u:=.bool (bytesEq r58 ([40,115,32,48,32,50,32,40,97,32,48,32,49,41,32,40,98,32,49,32,50,41,41]))) (want1 rfl rfl rfl h55) (q2w rfl rfl rfl rfl) rfl rfl (RS.q (u:=.bool (bytesEq r58 ([40,115,32,48,32,50,32,40,97,32,48,32,49,41,32,40,98,32,49,32,50,41,41]))) rfl (q04 rfl h55 rfl) (RS.mv rfl rfl rfl rfl ?_)))))))
 repeat refine RS.no (want0 rfl rfl rfl h60) rfl rfl ?_
 refine RS.q (u:=.bool false) rfl (q03 rfl h60 rfl) ?_
 refine sd ?_
 exact ⟨_,_,⟨rfl,rfl⟩,(Nat.zero_le _),Gh.toC (n1:=9) ⟨rfl,trivial⟩ rfl (Nat.zero_le _) (by simp)⟩
 replace h66:=q08 h55 h66
 replace h66:=Option.some.inj h66
 subst h66
 refine sr ?_
 refine RS.q rfl (q0i rfl rfl rfl (q0d (cI .i64) und34)) (RS.q rfl (q02 rfl rfl (q0e _ _ _) rfl) (RS.mv rfl rfl rfl rfl (RS.op (want1 rfl rfl rfl h45) (q07 rfl) rfl rfl (RS.op (u:=.iptr [.int .i64 x46]) (want1 rfl rfl rfl h45) (q13 rfl rfl (q0n (cI .i64) und34 (q00 inf3) (q27 .i64) h47 rfl)) rfl rfl (RS.op (u:=.int .i64 x46) (want1 rfl rfl rfl h45) (q1c und3 rfl rfl rfl) rfl rfl (RS.op (want1 rfl rfl rfl h45) (q02 rfl rfl (q0e _ _ _) rfl) rfl rfl (RS.q (u:=.bool (x46 == 2)) rfl (q04 rfl h45 rfl) ?_)))))))
 refine RS.mv rfl rfl rfl rfl (RS.op (want1 rfl rfl rfl h48) (q07 rfl) rfl rfl (RS.op (want1 rfl rfl rfl h48) (q0i rfl rfl rfl (q0d (cI .i64) und34)) rfl rfl (RS.op (want1 rfl rfl rfl h48) (q02 rfl rfl (q0e _ _ _) rfl) rfl rfl (RS.q (u:=.bool ((r43.length:Int) == 2)) rfl (q04 rfl h48 rfl) (RS.mv rfl rfl rfl rfl (RS.op (want1 rfl rfl rfl h49) (q07 rfl) rfl rfl (RS.op (u:=.iptr [.int .i64 x50]) (want1 rfl rfl rfl h49) (q13 rfl rfl (q0n (cI .i64) und34 (q00 inf3) (q27 .i64) h51 rfl)) rfl rfl ?_)))))))
 refine RS.op (u:=.int .i64 x50) (want1 rfl rfl rfl h49) (q1c und3 rfl rfl rfl) rfl rfl (RS.op (want1 rfl rfl rfl h49) (q02 rfl rfl (q0e _ _ _) rfl) rfl rfl (RS.q (u:=.bool (x50 == 1)) rfl (q04 rfl h49 rfl) (RS.mv rfl rfl rfl rfl (RS.op (want1 rfl rfl rfl h52) (q07 rfl) rfl rfl (RS.op (u:=.iptr [.int .i64 x53]) (want1 rfl rfl rfl h52) (q13 rfl rfl (q0n (cI .i64) und34 (q00 inf3) (q27 .i64) h54 rfl)) rfl rfl (RS.op (u:=.int .i64 x53) (want1 rfl rfl rfl h52) (q1c und3 rfl rfl rfl) rfl rfl (RS.op (want1 rfl rfl rfl h52) (q02 rfl rfl (q0e _ _ _) rfl) rfl rfl ?_)))))))
 refine RS.q (u:=.bool (x53 == 2)) rfl (q04 rfl h52 rfl) (RS.mv rfl rfl rfl rfl ?_)
 repeat refine RS.no (want0 rfl rfl rfl h55) rfl rfl ?_
 refine RS.q (u:=.bool false) rfl (q03 rfl h55 rfl) (RS.mv rfl rfl rfl rfl ?_)
 repeat refine RS.no (want0 rfl rfl rfl rfl) rfl rfl ?_
 refine RS.q (u:=.bool false) rfl (q03 rfl rfl rfl) ?_
 refine sd ?_
 exact ⟨_,_,⟨rfl,rfl⟩,(Nat.zero_le _),Gh.toC (n1:=9) ⟨rfl,trivial⟩ rfl (Nat.zero_le _) (by simp)⟩
 replace h66:=q08 h52 h66
 replace h66:=Option.some.inj h66
 subst h66
 refine sr ?_
 refine RS.q rfl (q0i rfl rfl rfl (q0d (cI .i64) und34)) (RS.q rfl (q02 rfl rfl (q0e _ _ _) rfl) (RS.mv rfl rfl rfl rfl (RS.op (want1 rfl rfl rfl h45) (q07 rfl) rfl rfl (RS.op (u:=.iptr [.int .i64 x46]) (want1 rfl rfl rfl h45) (q13 rfl rfl (q0n (cI .i64) und34 (q00 inf3) (q27 .i64) h47 rfl)) rfl rfl (RS.op (u:=.int .i64 x46) (want1 rfl rfl rfl h45) (q1c und3 rfl rfl rfl) rfl rfl (RS.op (want1 rfl rfl rfl h45) (q02 rfl rfl (q0e _ _ _) rfl) rfl rfl (RS.q (u:=.bool (x46 == 2)) rfl (q04 rfl h45 rfl) ?_)))))))
 refine RS.mv rfl rfl rfl rfl (RS.op (want1 rfl rfl rfl h48) (q07 rfl) rfl rfl (RS.op (want1 rfl rfl rfl h48) (q0i rfl rfl rfl (q0d (cI .i64) und34)) rfl rfl (RS.op (want1 rfl rfl rfl h48) (q02 rfl rfl (q0e _ _ _) rfl) rfl rfl (RS.q (u:=.bool ((r43.length:Int) == 2)) rfl (q04 rfl h48 rfl) (RS.mv rfl rfl rfl rfl (RS.op (want1 rfl rfl rfl h49) (q07 rfl) rfl rfl (RS.op (u:=.iptr [.int .i64 x50]) (want1 rfl rfl rfl h49) (q13 rfl rfl (q0n (cI .i64) und34 (q00 inf3) (q27 .i64) h51 rfl)) rfl rfl ?_)))))))
 refine RS.op (u:=.int .i64 x50) (want1 rfl rfl rfl h49) (q1c und3 rfl rfl rfl) rfl rfl (RS.op (want1 rfl rfl rfl h49) (q02 rfl rfl (q0e _ _ _) rfl) rfl rfl (RS.q (u:=.bool (x50 == 1)) rfl (q04 rfl h49 rfl) (RS.mv rfl rfl rfl rfl ?_)))
 repeat refine RS.no (want0 rfl rfl rfl h52) rfl rfl ?_
 refine RS.q (u:=.bool false) rfl (q03 rfl h52 rfl) (RS.mv rfl rfl rfl rfl ?_)
 repeat refine RS.no (want0 rfl rfl rfl rfl) rfl rfl ?_
 refine RS.q (u:=.bool false) rfl (q03 rfl rfl rfl) (RS.mv rfl rfl rfl rfl ?_)
 repeat refine RS.no (want0 rfl rfl rfl rfl) rfl rfl ?_
 refine RS.q (u:=.bool false) rfl (q03 rfl rfl rfl) ?_
 refine sd ?_
 exact ⟨_,_,⟨rfl,rfl⟩,(Nat.zero_le _),Gh.toC (n1:=9) ⟨rfl,trivial⟩ rfl (Nat.zero_le _) (by simp)⟩
 replace h66:=q08 h49 h66
 replace h66:=Option.some.inj h66
 subst h66
 refine sr ?_
 refine RS.q rfl (q0i rfl rfl rfl (q0d (cI .i64) und34)) (RS.q rfl (q02 rfl rfl (q0e _ _ _) rfl) (RS.mv rfl rfl rfl rfl (RS.op (want1 rfl rfl rfl h45) (q07 rfl) rfl rfl (RS.op (u:=.iptr [.int .i64 x46]) (want1 rfl rfl rfl h45) (q13 rfl rfl (q0n (cI .i64) und34 (q00 inf3) (q27 .i64) h47 rfl)) rfl rfl (RS.op (u:=.int .i64 x46) (want1 rfl rfl rfl h45) (q1c und3 rfl rfl rfl) rfl rfl (RS.op (want1 rfl rfl rfl h45) (q02 rfl rfl (q0e _ _ _) rfl) rfl rfl (RS.q (u:=.bool (x46 == 2)) rfl (q04 rfl h45 rfl) ?_)))))))
 refine RS.mv rfl rfl rfl rfl (RS.op (want1 rfl rfl rfl h48) (q07 rfl) rfl rfl (RS.op (want1 rfl rfl rfl h48) (q0i rfl rfl rfl (q0d (cI .i64) und34)) rfl rfl (RS.op (want1 rfl rfl rfl h48) (q02 rfl rfl (q0e _ _ _) rfl) rfl rfl (RS.q (u:=.bool ((r43.length:Int) == 2)) rfl (q04 rfl h48 rfl) (RS.mv rfl rfl rfl rfl ?_)))))
 repeat refine RS.no (want0 rfl rfl rfl h49) rfl rfl ?_
 refine RS.q (u:=.bool false) rfl (q03 rfl h49 rfl) (RS.mv rfl rfl rfl rfl ?_)
 repeat refine RS.no (want0 rfl rfl rfl rfl) rfl rfl ?_
 refine RS.q (u:=.bool false) rfl (q03 rfl rfl rfl) (RS.mv rfl rfl rfl rfl ?_)
 repeat refine RS.no (want0 rfl rfl rfl rfl) rfl rfl ?_
 refine RS.q (u:=.bool false) rfl (q03 rfl rfl rfl) (RS.mv rfl rfl rfl rfl ?_)
 repeat refine RS.no (want0 rfl rfl rfl rfl) rfl rfl ?_
 refine RS.q (u:=.bool false) rfl (q03 rfl rfl rfl) ?_
 refine sd ?_
 exact ⟨_,_,⟨rfl,rfl⟩,(Nat.zero_le _),Gh.toC (n1:=9) ⟨rfl,trivial⟩ rfl (Nat.zero_le _) (by simp)⟩
 replace h66:=q08 h48 h66
 replace h66:=Option.some.inj h66
 subst h66
 refine sr ?_
 refine RS.q rfl (q0i rfl rfl rfl (q0d (cI .i64) und34)) (RS.q rfl (q02 rfl rfl (q0e _ _ _) rfl) (RS.mv rfl rfl rfl rfl (RS.op (want1 rfl rfl rfl h45) (q07 rfl) rfl rfl (RS.op (u:=.iptr [.int .i64 x46]) (want1 rfl rfl rfl h45) (q13 rfl rfl (q0n (cI .i64) und34 (q00 inf3) (q27 .i64) h47 rfl)) rfl rfl (RS.op (u:=.int .i64 x46) (want1 rfl rfl rfl h45) (q1c und3 rfl rfl rfl) rfl rfl (RS.op (want1 rfl rfl rfl h45) (q02 rfl rfl (q0e _ _ _) rfl) rfl rfl (RS.q (u:=.bool (x46 == 2)) rfl (q04 rfl h45 rfl) ?_)))))))
 refine RS.mv rfl rfl rfl rfl ?_
 repeat refine RS.no (want0 rfl rfl rfl h48) rfl rfl ?_
 refine RS.q (u:=.bool false) rfl (q03 rfl h48 rfl) (RS.mv rfl rfl rfl rfl ?_)
 repeat refine RS.no (want0 rfl rfl rfl rfl) rfl rfl ?_
 refine RS.q (u:=.bool false) rfl (q03 rfl rfl rfl) (RS.mv rfl rfl rfl rfl ?_)
 repeat refine RS.no (want0 rfl rfl rfl rfl) rfl rfl ?_
 refine RS.q (u:=.bool false) rfl (q03 rfl rfl rfl) (RS.mv rfl rfl rfl rfl ?_)
 repeat refine RS.no (want0 rfl rfl rfl rfl) rfl rfl ?_
 refine RS.q (u:=.bool false) rfl (q03 rfl rfl rfl) (RS.mv rfl rfl rfl rfl ?_)
 repeat refine RS.no (want0 rfl rfl rfl rfl) rfl rfl ?_
 refine RS.q (u:=.bool false) rfl (q03 rfl rfl rfl) ?_
 refine sd ?_
 exact ⟨_,_,⟨rfl,rfl⟩,(Nat.zero_le _),Gh.toC (n1:=9) ⟨rfl,trivial⟩ rfl (Nat.zero_le _) (by simp)⟩
 replace h66:=q08 h45 h66
 replace h66:=Option.some.inj h66
 subst h66
 refine sr ?_
 refine RS.q rfl (q0i rfl rfl rfl (q0d (cI .i64) und34)) (RS.q rfl (q02 rfl rfl (q0e _ _ _) rfl) (RS.mv rfl rfl rfl rfl ?_))
 repeat refine RS.no (want0 rfl rfl rfl h45) rfl rfl ?_
 refine RS.q (u:=.bool false) rfl (q03 rfl h45 rfl) (RS.mv rfl rfl rfl rfl ?_)
 repeat refine RS.no (want0 rfl rfl rfl rfl) rfl rfl ?_
 refine RS.q (u:=.bool false) rfl (q03 rfl rfl rfl) (RS.mv rfl rfl rfl rfl ?_)
 repeat refine RS.no (want0 rfl rfl rfl rfl) rfl rfl ?_
 refine RS.q (u:=.bool false) rfl (q03 rfl rfl rfl) (RS.mv rfl rfl rfl rfl ?_)
 repeat refine RS.no (want0 rfl rfl rfl rfl) rfl rfl ?_
 refine RS.q (u:=.bool false) rfl (q03 rfl rfl rfl) (RS.mv rfl rfl rfl rfl ?_)
 repeat refine RS.no (want0 rfl rfl rfl rfl) rfl rfl ?_
 refine RS.q (u:=.bool false) rfl (q03 rfl rfl rfl) (RS.mv rfl rfl rfl rfl ?_)
 repeat refine RS.no (want0 rfl rfl rfl rfl) rfl rfl ?_
 refine RS.q (u:=.bool false) rfl (q03 rfl rfl rfl) ?_
 refine sd ?_
 exact ⟨_,_,⟨rfl,rfl⟩,(Nat.zero_le _),Gh.toC (n1:=9) ⟨rfl,trivial⟩ rfl (Nat.zero_le _) (by simp)⟩
 rcases q0j (r1.2 != 2) with h27 | h27
 replace h39:=q09 h27 h39
 replace h39:=Option.some.inj h39
 subst h39
 refine sr ?_
 refine RS.q rfl (q02 rfl rfl (q0c _ _ _) rfl) (RS.mv rfl rfl rfl rfl ?_)
 repeat refine RS.no (want0 rfl rfl rfl h27) rfl rfl ?_
 refine RS.q (u:=.bool true) rfl (q04 rfl h27 rfl) (RS.mv rfl rfl rfl rfl ?_)
 repeat refine RS.no (want0 rfl rfl rfl rfl) rfl rfl ?_
 refine RS.q (u:=.bool true) rfl (q04 rfl rfl rfl) (RS.mv rfl rfl rfl rfl ?_)
 repeat refine RS.no (want0 rfl rfl rfl rfl) rfl rfl ?_
 refine RS.q (u:=.bool true) rfl (q04 rfl rfl rfl) (RS.mv rfl rfl rfl rfl ?_)
 repeat refine RS.no (want0 rfl rfl rfl rfl) rfl rfl ?_
 refine RS.q (u:=.bool true) rfl (q04 rfl rfl rfl) (RS.mv rfl rfl rfl rfl ?_)
 repeat refine RS.no (want0 rfl rfl rfl rfl) rfl rfl ?_
 refine RS.q (u:=.bool true) rfl (q04 rfl rfl rfl) (RS.mv rfl rfl rfl rfl ?_)
 repeat refine RS.no (want0 rfl rfl rfl rfl) rfl rfl ?_
 refine RS.q (u:=.bool true) rfl (q04 rfl rfl rfl) (RS.mv rfl rfl rfl rfl ?_)
 repeat refine RS.no (want0 rfl rfl rfl rfl) rfl rfl ?_
 refine RS.q (u:=.bool true) rfl (q04 rfl rfl rfl) (RS.mv rfl rfl rfl rfl ?_)
 repeat refine RS.no (want0 rfl rfl rfl rfl) rfl rfl ?_
 refine RS.q (u:=.bool true) rfl (q04 rfl rfl rfl) (RS.mv rfl rfl rfl rfl ?_)
 repeat refine RS.no (want0 rfl rfl rfl rfl) rfl rfl ?_
 refine RS.q (u:=.bool true) rfl (q04 rfl rfl rfl) (RS.mv rfl rfl rfl rfl ?_)
 repeat refine RS.no (want0 rfl rfl rfl rfl) rfl rfl ?_
 refine RS.q (u:=.bool true) rfl (q04 rfl rfl rfl) (RS.mv rfl rfl rfl rfl ?_)
 repeat refine RS.no (want0 rfl rfl rfl rfl) rfl rfl ?_
 refine RS.q (u:=.bool true) rfl (q04 rfl rfl rfl) ?_
 refine sd ?_
 exact ⟨_,_,⟨rfl,rfl⟩,(Nat.zero_le _),Gh.toC (n1:=9) ⟨rfl,rfl,trivial⟩ rfl (Nat.zero_le _) (by simp)⟩
 replace h39:=q08 h27 h39
 rcases q0j (r3.2 != 2) with h28 | h28
 replace h39:=q09 h28 h39
 replace h39:=Option.some.inj h39
 subst h39
 refine sr ?_
 refine RS.q rfl (q02 rfl rfl (q0c _ _ _) rfl) (RS.mv rfl rfl rfl rfl (RS.op (want1 rfl rfl rfl h27) (q07 rfl) rfl rfl (RS.op (want1 rfl rfl rfl h27) (q02 rfl rfl (q0c _ _ _) rfl) rfl rfl (RS.q (u:=.bool (r3.2 != 2)) rfl (q03 rfl h27 rfl) (RS.mv rfl rfl rfl rfl ?_)))))
 repeat refine RS.no (want0 rfl rfl rfl h28) rfl rfl ?_
 refine RS.q (u:=.bool true) rfl (q04 rfl h28 rfl) (RS.mv rfl rfl rfl rfl ?_)
 repeat refine RS.no (want0 rfl rfl rfl rfl) rfl rfl ?_
 refine RS.q (u:=.bool true) rfl (q04 rfl rfl rfl) (RS.mv rfl rfl rfl rfl ?_)
 repeat refine RS.no (want0 rfl rfl rfl rfl) rfl rfl ?_
 refine RS.q (u:=.bool true) rfl (q04 rfl rfl rfl) (RS.mv rfl rfl rfl rfl ?_)
 repeat refine RS.no (want0 rfl rfl rfl rfl) rfl rfl ?_
 refine RS.q (u:=.bool true) rfl (q04 rfl rfl rfl) (RS.mv rfl rfl rfl rfl ?_)
 repeat refine RS.no (want0 rfl rfl rfl rfl) rfl rfl ?_
 refine RS.q (u:=.bool true) rfl (q04 rfl rfl rfl) (RS.mv rfl rfl rfl rfl ?_)
 repeat refine RS.no (want0 rfl rfl rfl rfl) rfl rfl ?_
 refine RS.q (u:=.bool true) rfl (q04 rfl rfl rfl) (RS.mv rfl rfl rfl rfl ?_)
 repeat refine RS.no (want0 rfl rfl rfl rfl) rfl rfl ?_
 refine RS.q (u:=.bool true) rfl (q04 rfl rfl rfl) (RS.mv rfl rfl rfl rfl ?_)
 repeat refine RS.no (want0 rfl rfl rfl rfl) rfl rfl ?_
 refine RS.q (u:=.bool true) rfl (q04 rfl rfl rfl) (RS.mv rfl rfl rfl rfl ?_)
 repeat refine RS.no (want0 rfl rfl rfl rfl) rfl rfl ?_
 refine RS.q (u:=.bool true) rfl (q04 rfl rfl rfl) (RS.mv rfl rfl rfl rfl ?_)
 repeat refine RS.no (want0 rfl rfl rfl rfl) rfl rfl ?_
 refine RS.q (u:=.bool true) rfl (q04 rfl rfl rfl) ?_
 refine sd ?_
 exact ⟨_,_,⟨rfl,rfl⟩,(Nat.zero_le _),Gh.toC (n1:=9) ⟨rfl,rfl,trivial⟩ rfl (Nat.zero_le _) (by simp)⟩
 replace h39:=q08 h28 h39
 rcases q0j (r5.2 != 0) with h29 | h29
 replace h39:=q09 h29 h39
 replace h39:=Option.some.inj h39
 subst h39
 refine sr ?_
 refine RS.q rfl (q02 rfl rfl (q0c _ _ _) rfl) (RS.mv rfl rfl rfl rfl (RS.op (want1 rfl rfl rfl h27) (q07 rfl) rfl rfl (RS.op (want1 rfl rfl rfl h27) (q02 rfl rfl (q0c _ _ _) rfl) rfl rfl (RS.q (u:=.bool (r3.2 != 2)) rfl (q03 rfl h27 rfl) (RS.mv rfl rfl rfl rfl (RS.op (want1 rfl rfl rfl h28) (q07 rfl) rfl rfl (RS.op (want1 rfl rfl rfl h28) (q02 rfl rfl (q0c _ _ _) rfl) rfl rfl ?_)))))))
 refine RS.q (u:=.bool (r5.2 != 0)) rfl (q03 rfl h28 rfl) (RS.mv rfl rfl rfl rfl ?_)
 repeat refine RS.no (want0 rfl rfl rfl h29) rfl rfl ?_
 refine RS.q (u:=.bool true) rfl (q04 rfl h29 rfl) (RS.mv rfl rfl rfl rfl ?_)
 repeat refine RS.no (want0 rfl rfl rfl rfl) rfl rfl ?_
 refine RS.q (u:=.bool true) rfl (q04 rfl rfl rfl) (RS.mv rfl rfl rfl rfl ?_)
 repeat refine RS.no (want0 rfl rfl rfl rfl) rfl rfl ?_
 refine RS.q (u:=.bool true) rfl (q04 rfl rfl rfl) (RS.mv rfl rfl rfl rfl ?_)
 repeat refine RS.no (want0 rfl rfl rfl rfl) rfl rfl ?_
 refine RS.q (u:=.bool true) rfl (q04 rfl rfl rfl) (RS.mv rfl rfl rfl rfl ?_)
 repeat refine RS.no (want0 rfl rfl rfl rfl) rfl rfl ?_
 refine RS.q (u:=.bool true) rfl (q04 rfl rfl rfl) (RS.mv rfl rfl rfl rfl ?_)
 repeat refine RS.no (want0 rfl rfl rfl rfl) rfl rfl ?_
 refine RS.q (u:=.bool true) rfl (q04 rfl rfl rfl) (RS.mv rfl rfl rfl rfl ?_)
 repeat refine RS.no (want0 rfl rfl rfl rfl) rfl rfl ?_
 refine RS.q (u:=.bool true) rfl (q04 rfl rfl rfl) (RS.mv rfl rfl rfl rfl ?_)
 repeat refine RS.no (want0 rfl rfl rfl rfl) rfl rfl ?_
 refine RS.q (u:=.bool true) rfl (q04 rfl rfl rfl) (RS.mv rfl rfl rfl rfl ?_)
 repeat refine RS.no (want0 rfl rfl rfl rfl) rfl rfl ?_
 refine RS.q (u:=.bool true) rfl (q04 rfl rfl rfl) ?_
 refine sd ?_
 exact ⟨_,_,⟨rfl,rfl⟩,(Nat.zero_le _),Gh.toC (n1:=9) ⟨rfl,rfl,trivial⟩ rfl (Nat.zero_le _) (by simp)⟩
 replace h39:=q08 h29 h39
 rcases q0j (r9.2.2 != 0) with h30 | h30
 replace h39:=q09 h30 h39
 replace h39:=Option.some.inj h39
 subst h39
 refine sr ?_
 refine RS.q rfl (q02 rfl rfl (q0c _ _ _) rfl) (RS.mv rfl rfl rfl rfl (RS.op (want1 rfl rfl rfl h27) (q07 rfl) rfl rfl (RS.op (want1 rfl rfl rfl h27) (q02 rfl rfl (q0c _ _ _) rfl) rfl rfl (RS.q (u:=.bool (r3.2 != 2)) rfl (q03 rfl h27 rfl) (RS.mv rfl rfl rfl rfl (RS.op (want1 rfl rfl rfl h28) (q07 rfl) rfl rfl (RS.op (want1 rfl rfl rfl h28) (q02 rfl rfl (q0c _ _ _) rfl) rfl rfl ?_)))))))
 refine RS.q (u:=.bool (r5.2 != 0)) rfl (q03 rfl h28 rfl) (RS.mv rfl rfl rfl rfl (RS.op (want1 rfl rfl rfl h29) (q07 rfl) rfl rfl (RS.op (want1 rfl rfl rfl h29) (q02 rfl rfl (q0c _ _ _) rfl) rfl rfl (RS.q (u:=.bool (r9.2.2 != 0)) rfl (q03 rfl h29 rfl) (RS.mv rfl rfl rfl rfl ?_)))))
 repeat refine RS.no (want0 rfl rfl rfl h30) rfl rfl ?_
 refine RS.q (u:=.bool true) rfl (q04 rfl h30 rfl) (RS.mv rfl rfl rfl rfl ?_)
 repeat refine RS.no (want0 rfl rfl rfl rfl) rfl rfl ?_
 refine RS.q (u:=.bool true) rfl (q04 rfl rfl rfl) (RS.mv rfl rfl rfl rfl ?_)
 repeat refine RS.no (want0 rfl rfl rfl rfl) rfl rfl ?_
 refine RS.q (u:=.bool true) rfl (q04 rfl rfl rfl) (RS.mv rfl rfl rfl rfl ?_)
 repeat refine RS.no (want0 rfl rfl rfl rfl) rfl rfl ?_
 refine RS.q (u:=.bool true) rfl (q04 rfl rfl rfl) (RS.mv rfl rfl rfl rfl ?_)
 repeat refine RS.no (want0 rfl rfl rfl rfl) rfl rfl ?_
 refine RS.q (u:=.bool true) rfl (q04 rfl rfl rfl) (RS.mv rfl rfl rfl rfl ?_)
 repeat refine RS.no (want0 rfl rfl rfl rfl) rfl rfl ?_
 refine RS.q (u:=.bool true) rfl (q04 rfl rfl rfl) (RS.mv rfl rfl rfl rfl ?_)
 repeat refine RS.no (want0 rfl rfl rfl rfl) rfl rfl ?_
 refine RS.q (u:=.bool true) rfl (q04 rfl rfl rfl) (RS.mv rfl rfl rfl rfl ?_)
 repeat refine RS.no (want0 rfl rfl rfl rfl) rfl rfl ?_
 refine RS.q (u:=.bool true) rfl (q04 rfl rfl rfl) ?_
 refine sd ?_
 exact ⟨_,_,⟨rfl,rfl⟩,(Nat.zero_le _),Gh.toC (n1:=9) ⟨rfl,rfl,trivial⟩ rfl (Nat.zero_le _) (by simp)⟩
 replace h39:=q08 h30 h39
 rcases q0j (r13.2.2 != 0) with h31 | h31
 replace h39:=q09 h31 h39
 replace h39:=Option.some.inj h39
 subst h39
 refine sr ?_
 refine RS.q rfl (q02 rfl rfl (q0c _ _ _) rfl) (RS.mv rfl rfl rfl rfl (RS.op (want1 rfl rfl rfl h27) (q07 rfl) rfl rfl (RS.op (want1 rfl rfl rfl h27) (q02 rfl rfl (q0c _ _ _) rfl) rfl rfl (RS.q (u:=.bool (r3.2 != 2)) rfl (q03 rfl h27 rfl) (RS.mv rfl rfl rfl rfl (RS.op (want1 rfl rfl rfl h28) (q07 rfl) rfl rfl (RS.op (want1 rfl rfl rfl h28) (q02 rfl rfl (q0c _ _ _) rfl) rfl rfl ?_)))))))
 refine RS.q (u:=.bool (r5.2 != 0)) rfl (q03 rfl h28 rfl) (RS.mv rfl rfl rfl rfl (RS.op (want1 rfl rfl rfl h29) (q07 rfl) rfl rfl (RS.op (want1 rfl rfl rfl h29) (q02 rfl rfl (q0c _ _ _) rfl) rfl rfl (RS.q (u:=.bool (r9.2.2 != 0)) rfl (q03 rfl h29 rfl) (RS.mv rfl rfl rfl rfl (RS.op (want1 rfl rfl rfl h30) (q07 rfl) rfl rfl (RS.op (want1 rfl rfl rfl h30) (q02 rfl rfl (q0c _ _ _) rfl) rfl rfl ?_)))))))
 refine RS.q (u:=.bool (r13.2.2 != 0)) rfl (q03 rfl h30 rfl) (RS.mv rfl rfl rfl rfl ?_)
 repeat refine RS.no (want0 rfl rfl rfl h31) rfl rfl ?_
 refine RS.q (u:=.bool true) rfl (q04 rfl h31 rfl) (RS.mv rfl rfl rfl rfl ?_)
 repeat refine RS.no (want0 rfl rfl rfl rfl) rfl rfl ?_
 refine RS.q (u:=.bool true) rfl (q04 rfl rfl rfl) (RS.mv rfl rfl rfl rfl ?_)
 repeat refine RS.no (want0 rfl rfl rfl rfl) rfl rfl ?_
 refine RS.q (u:=.bool true) rfl (q04 rfl rfl rfl) (RS.mv rfl rfl rfl rfl ?_)
 repeat refine RS.no (want0 rfl rfl rfl rfl) rfl rfl ?_
 refine RS.q (u:=.bool true) rfl (q04 rfl rfl rfl) (RS.mv rfl rfl rfl rfl ?_)
 repeat refine RS.no (want0 rfl rfl rfl rfl) rfl rfl ?_
 refine RS.q (u:=.bool true) rfl (q04 rfl rfl rfl) (RS.mv rfl rfl rfl rfl ?_)
 repeat refine RS.no (want0 rfl rfl rfl rfl) rfl rfl ?_
 refine RS.q (u:=.bool true) rfl (q04 rfl rfl rfl) (RS.mv rfl rfl rfl rfl ?_)
 repeat refine RS.no (want0 rfl rfl rfl rfl) rfl rfl ?_
 refine RS.q (u:=.bool true) rfl (q04 rfl rfl rfl) ?_
 refine sd ?_
 exact ⟨_,_,⟨rfl,rfl⟩,(Nat.zero_le _),Gh.toC (n1:=9) ⟨rfl,rfl,trivial⟩ rfl (Nat.zero_le _) (by simp)⟩
 replace h39:=q08 h31 h39
 rcases q0j (r17.2.2 != 4) with h32 | h32
 replace h39:=q09 h32 h39
 replace h39:=Option.some.inj h39
 subst h39
 refine sr ?_
 refine RS.q rfl (q02 rfl rfl (q0c _ _ _) rfl) (RS.mv rfl rfl rfl rfl (RS.op (want1 rfl rfl rfl h27) (q07 rfl) rfl rfl (RS.op (want1 rfl rfl rfl h27) (q02 rfl rfl (q0c _ _ _) rfl) rfl rfl (RS.q (u:=.bool (r3.2 != 2)) rfl (q03 rfl h27 rfl) (RS.mv rfl rfl rfl rfl (RS.op (want1 rfl rfl rfl h28) (q07 rfl) rfl rfl (RS.op (want1 rfl rfl rfl h28) (q02 rfl rfl (q0c _ _ _) rfl) rfl rfl ?_)))))))
 refine RS.q (u:=.bool (r5.2 != 0)) rfl (q03 rfl h28 rfl) (RS.mv rfl rfl rfl rfl (RS.op (want1 rfl rfl rfl h29) (q07 rfl) rfl rfl (RS.op (want1 rfl rfl rfl h29) (q02 rfl rfl (q0c _ _ _) rfl) rfl rfl (RS.q (u:=.bool (r9.2.2 != 0)) rfl (q03 rfl h29 rfl) (RS.mv rfl rfl rfl rfl (RS.op (want1 rfl rfl rfl h30) (q07 rfl) rfl rfl (RS.op (want1 rfl rfl rfl h30) (q02 rfl rfl (q0c _ _ _) rfl) rfl rfl ?_)))))))
 refine RS.q (u:=.bool (r13.2.2 != 0)) rfl (q03 rfl h30 rfl) (RS.mv rfl rfl rfl rfl (RS.op (want1 rfl rfl rfl h31) (q07 rfl) rfl rfl (RS.op (want1 rfl rfl rfl h31) (q02 rfl rfl (q0c _ _ _) rfl) rfl rfl (RS.q (u:=.bool (r17.2.2 != 4)) rfl (q03 rfl h31 rfl) (RS.mv rfl rfl rfl rfl ?_)))))
 repeat refine RS.no (want0 rfl rfl rfl h32) rfl rfl ?_
 refine RS.q (u:=.bool true) rfl (q04 rfl h32 rfl) (RS.mv rfl rfl rfl rfl ?_)
 repeat refine RS.no (want0 rfl rfl rfl rfl) rfl rfl ?_
 refine RS.q (u:=.bool true) rfl (q04 rfl rfl rfl) (RS.mv rfl rfl rfl rfl ?_)
 repeat refine RS.no (want0 rfl rfl rfl rfl) rfl rfl ?_
 refine RS.q (u:=.bool true) rfl (q04 rfl rfl rfl) (RS.mv rfl rfl rfl rfl ?_)
 repeat refine RS.no (want0 rfl rfl rfl rfl) rfl rfl ?_
 refine RS.q (u:=.bool true) rfl (q04 rfl rfl rfl) (RS.mv rfl rfl rfl rfl ?_)
 repeat refine RS.no (want0 rfl rfl rfl rfl) rfl rfl ?_
 refine RS.q (u:=.bool true) rfl (q04 rfl rfl rfl) (RS.mv rfl rfl rfl rfl ?_)
 repeat refine RS.no (want0 rfl rfl rfl rfl) rfl rfl ?_
 refine RS.q (u:=.bool true) rfl (q04 rfl rfl rfl) ?_
 refine sd ?_
 exact ⟨_,_,⟨rfl,rfl⟩,(Nat.zero_le _),Gh.toC (n1:=9) ⟨rfl,rfl,trivial⟩ rfl (Nat.zero_le _) (by simp)⟩
 replace h39:=q08 h32 h39
 rcases q0j (r17.2.1 != 1) with h33 | h33
 replace h39:=q09 h33 h39
 replace h39:=Option.some.inj h39
 subst h39
 refine sr ?_
 refine RS.q rfl (q02 rfl rfl (q0c _ _ _) rfl) (RS.mv rfl rfl rfl rfl (RS.op (want1 rfl rfl rfl h27) (q07 rfl) rfl rfl (RS.op (want1 rfl rfl rfl h27) (q02 rfl rfl (q0c _ _ _) rfl) rfl rfl (RS.q (u:=.bool (r3.2 != 2)) rfl (q03 rfl h27 rfl) (RS.mv rfl rfl rfl rfl (RS.op (want1 rfl rfl rfl h28) (q07 rfl) rfl rfl (RS.op (want1 rfl rfl rfl h28) (q02 rfl rfl (q0c _ _ _) rfl) rfl rfl ?_)))))))
 refine RS.q (u:=.bool (r5.2 != 0)) rfl (q03 rfl h28 rfl) (RS.mv rfl rfl rfl rfl (RS.op (want1 rfl rfl rfl h29) (q07 rfl) rfl rfl (RS.op (want1 rfl rfl rfl h29) (q02 rfl rfl (q0c _ _ _) rfl) rfl rfl (RS.q (u:=.bool (r9.2.2 != 0)) rfl (q03 rfl h29 rfl) (RS.mv rfl rfl rfl rfl (RS.op (want1 rfl rfl rfl h30) (q07 rfl) rfl rfl (RS.op (want1 rfl rfl rfl h30) (q02 rfl rfl (q0c _ _ _) rfl) rfl rfl ?_)))))))
 refine RS.q (u:=.bool (r13.2.2 != 0)) rfl (q03 rfl h30 rfl) (RS.mv rfl rfl rfl rfl (RS.op (want1 rfl rfl rfl h31) (q07 rfl) rfl rfl (RS.op (want1 rfl rfl rfl h31) (q02 rfl rfl (q0c _ _ _) rfl) rfl rfl (RS.q (u:=.bool (r17.2.2 != 4)) rfl (q03 rfl h31 rfl) (RS.mv rfl rfl rfl rfl (RS.op (want1 rfl rfl rfl h32) (q07 rfl) rfl rfl (RS.op (want1 rfl rfl rfl h32) (q02 rfl rfl (q0c _ _ _) rfl) rfl rfl ?_)))))))
 refine RS.q (u:=.bool (r17.2.1 != 1)) rfl (q03 rfl h32 rfl) (RS.mv rfl rfl rfl rfl ?_)
 repeat refine RS.no (want0 rfl rfl rfl h33) rfl rfl ?_
 refine RS.q (u:=.bool true) rfl (q04 rfl h33 rfl) (RS.mv rfl rfl rfl rfl ?_)
 repeat refine RS.no (want0 rfl rfl rfl rfl) rfl rfl ?_
 refine RS.q (u:=.bool true) rfl (q04 rfl rfl rfl) (RS.mv rfl rfl rfl rfl ?_)
 repeat refine RS.no (want0 rfl rfl rfl rfl) rfl rfl ?_
 refine RS.q (u:=.bool true) rfl (q04 rfl rfl rfl) (RS.mv rfl rfl rfl rfl ?_)
 repeat refine RS.no (want0 rfl rfl rfl rfl) rfl rfl ?_
 refine RS.q (u:=.bool true) rfl (q04 rfl rfl rfl) (RS.mv rfl rfl rfl rfl ?_)
 repeat refine RS.no (want0 rfl rfl rfl rfl) rfl rfl ?_
 refine RS.q (u:=.bool true) rfl (q04 rfl rfl rfl) ?_
 refine sd ?_
 exact ⟨_,_,⟨rfl,rfl⟩,(Nat.zero_le _),Gh.toC (n1:=9) ⟨rfl,rfl,trivial⟩ rfl (Nat.zero_le _) (by simp)⟩
 replace h39:=q08 h33 h39
 rcases q0j (r19.2.2 != 0) with h34 | h34
 replace h39:=q09 h34 h39
 replace h39:=Option.some.inj h39
 subst h39
 refine sr ?_
 refine RS.q rfl (q02 rfl rfl (q0c _ _ _) rfl) (RS.mv rfl rfl rfl rfl (RS.op (want1 rfl rfl rfl h27) (q07 rfl) rfl rfl (RS.op (want1 rfl rfl rfl h27) (q02 rfl rfl (q0c _ _ _) rfl) rfl rfl (RS.q (u:=.bool (r3.2 != 2)) rfl (q03 rfl h27 rfl) (RS.mv rfl rfl rfl rfl (RS.op (want1 rfl rfl rfl h28) (q07 rfl) rfl rfl (RS.op (want1 rfl rfl rfl h28) (q02 rfl rfl (q0c _ _ _) rfl) rfl rfl ?_)))))))
 refine RS.q (u:=.bool (r5.2 != 0)) rfl (q03 rfl h28 rfl) (RS.mv rfl rfl rfl rfl (RS.op (want1 rfl rfl rfl h29) (q07 rfl) rfl rfl (RS.op (want1 rfl rfl rfl h29) (q02 rfl rfl (q0c _ _ _) rfl) rfl rfl (RS.q (u:=.bool (r9.2.2 != 0)) rfl (q03 rfl h29 rfl) (RS.mv rfl rfl rfl rfl (RS.op (want1 rfl rfl rfl h30) (q07 rfl) rfl rfl (RS.op (want1 rfl rfl rfl h30) (q02 rfl rfl (q0c _ _ _) rfl) rfl rfl ?_)))))))
 refine RS.q (u:=.bool (r13.2.2 != 0)) rfl (q03 rfl h30 rfl) (RS.mv rfl rfl rfl rfl (RS.op (want1 rfl rfl rfl h31) (q07 rfl) rfl rfl (RS.op (want1 rfl rfl rfl h31) (q02 rfl rfl (q0c _ _ _) rfl) rfl rfl (RS.q (u:=.bool (r17.2.2 != 4)) rfl (q03 rfl h31 rfl) (RS.mv rfl rfl rfl rfl (RS.op (want1 rfl rfl rfl h32) (q07 rfl) rfl rfl (RS.op (want1 rfl rfl rfl h32) (q02 rfl rfl (q0c _ _ _) rfl) rfl rfl ?_)))))))
 refine RS.q (u:=.bool (r17.2.1 != 1)) rfl (q03 rfl h32 rfl) (RS.mv rfl rfl rfl rfl (RS.op (want1 rfl rfl rfl h33) (q07 rfl) rfl rfl (RS.op (want1 rfl rfl rfl h33) (q02 rfl rfl (q0c _ _ _) rfl) rfl rfl (RS.q (u:=.bool (r19.2.2 != 0)) rfl (q03 rfl h33 rfl) (RS.mv rfl rfl rfl rfl ?_)))))
 repeat refine RS.no (want0 rfl rfl rfl h34) rfl rfl ?_
 refine RS.q (u:=.bool true) rfl (q04 rfl h34 rfl) (RS.mv rfl rfl rfl rfl ?_)
 repeat refine RS.no (want0 rfl rfl rfl rfl) rfl rfl ?_
 refine RS.q (u:=.bool true) rfl (q04 rfl rfl rfl) (RS.mv rfl rfl rfl rfl ?_)
 repeat refine RS.no (want0 rfl rfl rfl rfl) rfl rfl ?_
 refine RS.q (u:=.bool true) rfl (q04 rfl rfl rfl) (RS.mv rfl rfl rfl rfl ?_)
 repeat refine RS.no (want0 rfl rfl rfl rfl) rfl rfl ?_
 refine RS.q (u:=.bool true) rfl (q04 rfl rfl rfl) ?_
 refine sd ?_
 exact ⟨_,_,⟨rfl,rfl⟩,(Nat.zero_le _),Gh.toC (n1:=9) ⟨rfl,rfl,trivial⟩ rfl (Nat.zero_le _) (by simp)⟩
 replace h39:=q08 h34 h39
 rcases q0j (r19.2.1 != 2) with h35 | h35
 replace h39:=q09 h35 h39
 replace h39:=Option.some.inj h39
 subst h39
 refine sr ?_
 refine RS.q rfl (q02 rfl rfl (q0c _ _ _) rfl) (RS.mv rfl rfl rfl rfl (RS.op (want1 rfl rfl rfl h27) (q07 rfl) rfl rfl (RS.op (want1 rfl rfl rfl h27) (q02 rfl rfl (q0c _ _ _) rfl) rfl rfl (RS.q (u:=.bool (r3.2 != 2)) rfl (q03 rfl h27 rfl) (RS.mv rfl rfl rfl rfl (RS.op (want1 rfl rfl rfl h28) (q07 rfl) rfl rfl (RS.op (want1 rfl rfl rfl h28) (q02 rfl rfl (q0c _ _ _) rfl) rfl rfl ?_)))))))
 refine RS.q (u:=.bool (r5.2 != 0)) rfl (q03 rfl h28 rfl) (RS.mv rfl rfl rfl rfl (RS.op (want1 rfl rfl rfl h29) (q07 rfl) rfl rfl (RS.op (want1 rfl rfl rfl h29) (q02 rfl rfl (q0c _ _ _) rfl) rfl rfl (RS.q (u:=.bool (r9.2.2 != 0)) rfl (q03 rfl h29 rfl) (RS.mv rfl rfl rfl rfl (RS.op (want1 rfl rfl rfl h30) (q07 rfl) rfl rfl (RS.op (want1 rfl rfl rfl h30) (q02 rfl rfl (q0c _ _ _) rfl) rfl rfl ?_)))))))
 refine RS.q (u:=.bool (r13.2.2 != 0)) rfl (q03 rfl h30 rfl) (RS.mv rfl rfl rfl rfl (RS.op (want1 rfl rfl rfl h31) (q07 rfl) rfl rfl (RS.op (want1 rfl rfl rfl h31) (q02 rfl rfl (q0c _ _ _) rfl) rfl rfl (RS.q (u:=.bool (r17.2.2 != 4)) rfl (q03 rfl h31 rfl) (RS.mv rfl rfl rfl rfl (RS.op (want1 rfl rfl rfl h32) (q07 rfl) rfl rfl (RS.op (want1 rfl rfl rfl h32) (q02 rfl rfl (q0c _ _ _) rfl) rfl rfl ?_)))))))
 refine RS.q (u:=.bool (r17.2.1 != 1)) rfl (q03 rfl h32 rfl) (RS.mv rfl rfl rfl rfl (RS.op (want1 rfl rfl rfl h33) (q07 rfl) rfl rfl (RS.op (want1 rfl rfl rfl h33) (q02 rfl rfl (q0c _ _ _) rfl) rfl rfl (RS.q (u:=.bool (r19.2.2 != 0)) rfl (q03 rfl h33 rfl) (RS.mv rfl rfl rfl rfl (RS.op (want1 rfl rfl rfl h34) (q07 rfl) rfl rfl (RS.op (want1 rfl rfl rfl h34) (q02 rfl rfl (q0c _ _ _) rfl) rfl rfl ?_)))))))
 refine RS.q (u:=.bool (r19.2.1 != 2)) rfl (q03 rfl h34 rfl) (RS.mv rfl rfl rfl rfl ?_)
 repeat refine RS.no (want0 rfl rfl rfl h35) rfl rfl ?_
 refine RS.q (u:=.bool true) rfl (q04 rfl h35 rfl) (RS.mv rfl rfl rfl rfl ?_)
 repeat refine RS.no (want0 rfl rfl rfl rfl) rfl rfl ?_
 refine RS.q (u:=.bool true) rfl (q04 rfl rfl rfl) (RS.mv rfl rfl rfl rfl ?_)
 repeat refine RS.no (want0 rfl rfl rfl rfl) rfl rfl ?_
 refine RS.q (u:=.bool true) rfl (q04 rfl rfl rfl) ?_
 refine sd ?_
 exact ⟨_,_,⟨rfl,rfl⟩,(Nat.zero_le _),Gh.toC (n1:=9) ⟨rfl,rfl,trivial⟩ rfl (Nat.zero_le _) (by simp)⟩
 replace h39:=q08 h35 h39
 rcases q0j (r21.2.2 != 0) with h36 | h36
 replace h39:=q09 h36 h39
 replace h39:=Option.some.inj h39
 subst h39
 refine sr ?_
 refine RS.q rfl (q02 rfl rfl (q0c _ _ _) rfl) (RS.mv rfl rfl rfl rfl (RS.op (want1 rfl rfl rfl h27) (q07 rfl) rfl rfl (RS.op (want1 rfl rfl rfl h27) (q02 rfl rfl (q0c _ _ _) rfl) rfl rfl (RS.q (u:=.bool (r3.2 != 2)) rfl (q03 rfl h27 rfl) (RS.mv rfl rfl rfl rfl (RS.op (want1 rfl rfl rfl h28) (q07 rfl) rfl rfl (RS.op (want1 rfl rfl rfl h28) (q02 rfl rfl (q0c _ _ _) rfl) rfl rfl ?_)))))))
 refine RS.q (u:=.bool (r5.2 != 0)) rfl (q03 rfl h28 rfl) (RS.mv rfl rfl rfl rfl (RS.op (want1 rfl rfl rfl h29) (q07 rfl) rfl rfl (RS.op (want1 rfl rfl rfl h29) (q02 rfl rfl (q0c _ _ _) rfl) rfl rfl (RS.q (u:=.bool (r9.2.2 != 0)) rfl (q03 rfl h29 rfl) (RS.mv rfl rfl rfl rfl (RS.op (want1 rfl rfl rfl h30) (q07 rfl) rfl rfl (RS.op (want1 rfl rfl rfl h30) (q02 rfl rfl (q0c _ _ _) rfl) rfl rfl ?_)))))))
 refine RS.q (u:=.bool (r13.2.2 != 0)) rfl (q03 rfl h30 rfl) (RS.mv rfl rfl rfl rfl (RS.op (want1 rfl rfl rfl h31) (q07 rfl) rfl rfl (RS.op (want1 rfl rfl rfl h31) (q02 rfl rfl (q0c _ _ _) rfl) rfl rfl (RS.q (u:=.bool (r17.2.2 != 4)) rfl (q03 rfl h31 rfl) (RS.mv rfl rfl rfl rfl (RS.op (want1 rfl rfl rfl h32) (q07 rfl) rfl rfl (RS.op (want1 rfl rfl rfl h32) (q02 rfl rfl (q0c _ _ _) rfl) rfl rfl ?_)))))))
 refine RS.q (u:=.bool (r17.2.1 != 1)) rfl (q03 rfl h32 rfl) (RS.mv rfl rfl rfl rfl (RS.op (want1 rfl rfl rfl h33) (q07 rfl) rfl rfl (RS.op (want1 rfl rfl rfl h33) (q02 rfl rfl (q0c _ _ _) rfl) rfl rfl (RS.q (u:=.bool (r19.2.2 != 0)) rfl (q03 rfl h33 rfl) (RS.mv rfl rfl rfl rfl (RS.op (want1 rfl rfl rfl h34) (q07 rfl) rfl rfl (RS.op (want1 rfl rfl rfl h34) (q02 rfl rfl (q0c _ _ _) rfl) rfl rfl ?_)))))))
 refine RS.q (u:=.bool (r19.2.1 != 2)) rfl (q03 rfl h34 rfl) (RS.mv rfl rfl rfl rfl (RS.op (want1 rfl rfl rfl h35) (q07 rfl) rfl rfl (RS.op (want1 rfl rfl rfl h35) (q02 rfl rfl (q0c _ _ _) rfl) rfl rfl (RS.q (u:=.bool (r21.2.2 != 0)) rfl (q03 rfl h35 rfl) (RS.mv rfl rfl rfl rfl ?_)))))
 repeat refine RS.no (want0 rfl rfl rfl h36) rfl rfl ?_
 refine RS.q (u:=.bool true) rfl (q04 rfl h36 rfl) (RS.mv rfl rfl rfl rfl ?_)
 repeat refine RS.no (want0 rfl rfl rfl rfl) rfl rfl ?_
 refine RS.q (u:=.bool true) rfl (q04 rfl rfl rfl) ?_
 refine sd ?_
 exact ⟨_,_,⟨rfl,rfl⟩,(Nat.zero_le _),Gh.toC (n1:=9) ⟨rfl,rfl,trivial⟩ rfl (Nat.zero_le _) (by simp)⟩
 replace h39:=q08 h36 h39
 rcases q0j (r23.2.2 != 0) with h37 | h37
 replace h39:=q09 h37 h39
 replace h39:=Option.some.inj h39
 subst h39
 refine sr ?_
 refine RS.q rfl (q02 rfl rfl (q0c _ _ _) rfl) (RS.mv rfl rfl rfl rfl (RS.op (want1 rfl rfl rfl h27) (q07 rfl) rfl rfl (RS.op (want1 rfl rfl rfl h27) (q02 rfl rfl (q0c _ _ _) rfl) rfl rfl (RS.q (u:=.bool (r3.2 != 2)) rfl (q03 rfl h27 rfl) (RS.mv rfl rfl rfl rfl (RS.op (want1 rfl rfl rfl h28) (q07 rfl) rfl rfl (RS.op (want1 rfl rfl rfl h28) (q02 rfl rfl (q0c _ _ _) rfl) rfl rfl ?_)))))))
 refine RS.q (u:=.bool (r5.2 != 0)) rfl (q03 rfl h28 rfl) (RS.mv rfl rfl rfl rfl (RS.op (want1 rfl rfl rfl h29) (q07 rfl) rfl rfl (RS.op (want1 rfl rfl rfl h29) (q02 rfl rfl (q0c _ _ _) rfl) rfl rfl (RS.q (u:=.bool (r9.2.2 != 0)) rfl (q03 rfl h29 rfl) (RS.mv rfl rfl rfl rfl (RS.op (want1 rfl rfl rfl h30) (q07 rfl) rfl rfl (RS.op (want1 rfl rfl rfl h30) (q02 rfl rfl (q0c _ _ _) rfl) rfl rfl ?_)))))))
 refine RS.q (u:=.bool (r13.2.2 != 0)) rfl (q03 rfl h30 rfl) (RS.mv rfl rfl rfl rfl (RS.op (want1 rfl rfl rfl h31) (q07 rfl) rfl rfl (RS.op (want1 rfl rfl rfl h31) (q02 rfl rfl (q0c _ _ _) rfl) rfl rfl (RS.q (u:=.bool (r17.2.2 != 4)) rfl (q03 rfl h31 rfl) (RS.mv rfl rfl rfl rfl (RS.op (want1 rfl rfl rfl h32) (q07 rfl) rfl rfl (RS.op (want1 rfl rfl rfl h32) (q02 rfl rfl (q0c _ _ _) rfl) rfl rfl ?_)))))))
 refine RS.q (u:=.bool (r17.2.1 != 1)) rfl (q03 rfl h32 rfl) (RS.mv rfl rfl rfl rfl (RS.op (want1 rfl rfl rfl h33) (q07 rfl) rfl rfl (RS.op (want1 rfl rfl rfl h33) (q02 rfl rfl (q0c _ _ _) rfl) rfl rfl (RS.q (u:=.bool (r19.2.2 != 0)) rfl (q03 rfl h33 rfl) (RS.mv rfl rfl rfl rfl (RS.op (want1 rfl rfl rfl h34) (q07 rfl) rfl rfl (RS.op (want1 rfl rfl rfl h34) (q02 rfl rfl (q0c _ _ _) rfl) rfl rfl ?_)))))))
 refine RS.q (u:=.bool (r19.2.1 != 2)) rfl (q03 rfl h34 rfl) (RS.mv rfl rfl rfl rfl (RS.op (want1 rfl rfl rfl h35) (q07 rfl) rfl rfl (RS.op (want1 rfl rfl rfl h35) (q02 rfl rfl (q0c _ _ _) rfl) rfl rfl (RS.q (u:=.bool (r21.2.2 != 0)) rfl (q03 rfl h35 rfl) (RS.mv rfl rfl rfl rfl (RS.op (want1 rfl rfl rfl h36) (q07 rfl) rfl rfl (RS.op (want1 rfl rfl rfl h36) (q02 rfl rfl (q0c _ _ _) rfl) rfl rfl ?_)))))))
 refine RS.q (u:=.bool (r23.2.2 != 0)) rfl (q03 rfl h36 rfl) (RS.mv rfl rfl rfl rfl ?_)
 repeat refine RS.no (want0 rfl rfl rfl h37) rfl rfl ?_
 refine RS.q (u:=.bool true) rfl (q04 rfl h37 rfl) ?_
 refine sd ?_
 exact ⟨_,_,⟨rfl,rfl⟩,(Nat.zero_le _),Gh.toC (n1:=9) ⟨rfl,rfl,trivial⟩ rfl (Nat.zero_le _) (by simp)⟩
 replace h39:=q08 h37 h39
 replace h39:=Option.some.inj h39
 subst h39
 refine sr ?_
 refine RS.q rfl (q02 rfl rfl (q0c _ _ _) rfl) (RS.mv rfl rfl rfl rfl (RS.op (want1 rfl rfl rfl h27) (q07 rfl) rfl rfl (RS.op (want1 rfl rfl rfl h27) (q02 rfl rfl (q0c _ _ _) rfl) rfl rfl (RS.q (u:=.bool (r3.2 != 2)) rfl (q03 rfl h27 rfl) (RS.mv rfl rfl rfl rfl (RS.op (want1 rfl rfl rfl h28) (q07 rfl) rfl rfl (RS.op (want1 rfl rfl rfl h28) (q02 rfl rfl (q0c _ _ _) rfl) rfl rfl ?_)))))))
 refine RS.q (u:=.bool (r5.2 != 0)) rfl (q03 rfl h28 rfl) (RS.mv rfl rfl rfl rfl (RS.op (want1 rfl rfl rfl h29) (q07 rfl) rfl rfl (RS.op (want1 rfl rfl rfl h29) (q02 rfl rfl (q0c _ _ _) rfl) rfl rfl (RS.q (u:=.bool (r9.2.2 != 0)) rfl (q03 rfl h29 rfl) (RS.mv rfl rfl rfl rfl (RS.op (want1 rfl rfl rfl h30) (q07 rfl) rfl rfl (RS.op (want1 rfl rfl rfl h30) (q02 rfl rfl (q0c _ _ _) rfl) rfl rfl ?_)))))))
 refine RS.q (u:=.bool (r13.2.2 != 0)) rfl (q03 rfl h30 rfl) (RS.mv rfl rfl rfl rfl (RS.op (want1 rfl rfl rfl h31) (q07 rfl) rfl rfl (RS.op (want1 rfl rfl rfl h31) (q02 rfl rfl (q0c _ _ _) rfl) rfl rfl (RS.q (u:=.bool (r17.2.2 != 4)) rfl (q03 rfl h31 rfl) (RS.mv rfl rfl rfl rfl (RS.op (want1 rfl rfl rfl h32) (q07 rfl) rfl rfl (RS.op (want1 rfl rfl rfl h32) (q02 rfl rfl (q0c _ _ _) rfl) rfl rfl ?_)))))))
 refine RS.q (u:=.bool (r17.2.1 != 1)) rfl (q03 rfl h32 rfl) (RS.mv rfl rfl rfl rfl (RS.op (want1 rfl rfl rfl h33) (q07 rfl) rfl rfl (RS.op (want1 rfl rfl rfl h33) (q02 rfl rfl (q0c _ _ _) rfl) rfl rfl (RS.q (u:=.bool (r19.2.2 != 0)) rfl (q03 rfl h33 rfl) (RS.mv rfl rfl rfl rfl (RS.op (want1 rfl rfl rfl h34) (q07 rfl) rfl rfl (RS.op (want1 rfl rfl rfl h34) (q02 rfl rfl (q0c _ _ _) rfl) rfl rfl ?_)))))))
 refine RS.q (u:=.bool (r19.2.1 != 2)) rfl (q03 rfl h34 rfl) (RS.mv rfl rfl rfl rfl (RS.op (want1 rfl rfl rfl h35) (q07 rfl) rfl rfl (RS.op (want1 rfl rfl rfl h35) (q02 rfl rfl (q0c _ _ _) rfl) rfl rfl (RS.q (u:=.bool (r21.2.2 != 0)) rfl (q03 rfl h35 rfl) (RS.mv rfl rfl rfl rfl (RS.op (want1 rfl rfl rfl h36) (q07 rfl) rfl rfl (RS.op (want1 rfl rfl rfl h36) (q02 rfl rfl (q0c _ _ _) rfl) rfl rfl ?_)))))))
 refine RS.q (u:=.bool (r23.2.2 != 0)) rfl (q03 rfl h36 rfl) (RS.mv rfl rfl rfl rfl (RS.op (want1 rfl rfl rfl h37) (q07 rfl) rfl rfl (RS.op (want1 rfl rfl rfl h37) (q02 rfl rfl (q0c _ _ _) rfl) rfl rfl (RS.q (u:=.bool (r25.2.2 != 13)) rfl (q03 rfl h37 rfl) ?_))))
 refine sd ?_
 exact ⟨_,_,⟨rfl,rfl⟩,(Nat.zero_le _),Gh.toC (n1:=9) ⟨rfl,rfl,trivial⟩ rfl (Nat.zero_le _) (by simp)⟩
theorem q65 (n:Nat)  (r:Bool) (hF:q1u n  = some r) (σ:Sg):EvU Try.prog 12 [] σ (fun u σ'=>u = .bool r∧σ'=σ) :=
 EvU.pure1C (q8x n  r hF) σ
def q2p (n:Nat) (r8:GChart) (z22:Int) (l23:List GEdge):Option (Bool) :=
 bindO (q3l n r8) fun r24 =>
 bindO (q3l n (GChart.mk z22 l23)) fun r26 =>
 bindO (bindO (q5n n r24 r26) fun r28 =>
 cond r28
  (bindO (q3l n r24) fun r31 =>
  bindO (q5n n r31 r24) fun r33 =>
  cond r33
   (bindO (q1u n) fun r36 =>
   some r36)
   (some false))
  (some false)) fun b38 =>
 some b38
def q1y (n:Nat) (r8:GChart):Nat→Int→Int→(List GEdge)→Option (Bool)
 | 0,_,_,_=>none
 | m1+1,z19,z20,l21 =>
  cond (decide (z19<(r8.Edges.length:Int)))
   (bindO (q1p n r8 (GChart.mk z20 l21) (IntKind.i64.wrap ((IntKind.i64.wrap ((r8.Edges.length:Int) - 1)) - z19))) fun r41 =>
   (q1y n r8 m1) (IntKind.i64.wrap (z19+1)) r41.1.Words r41.1.Edges)
   (q2p n r8 z20 l21)
def q47 (n:Nat) (p1:Int) (p2:List GEdge):Option (Bool) :=
 bindO (q4t n p2 12) fun r3 =>
 cond (!r3)
  (bindO (q1u n) fun r6 =>
  some r6)
  (bindO (q6p n p1 p2) fun r8 =>
  bindO (q53 n (IntKind.i64.wrap (1+((IntKind.i64.wrap p1).tmod 8)))) fun r11 =>
  q1y n r8 n 0 r11.1.Words r11.1.Edges)
theorem q99 (n:Nat) (p1:Int) (p2:List GEdge) (r:Bool) (hF:q47 n p1 p2=some r):EvU Try.prog 7 [.int .u8 p1,.isl false (List.map cGEdge p2)] ⟨[],0⟩ (fun u _=>u = .bool r∧Bel 0 u):=by
 unfold q47 at hF
 refine EvU.of_body Try.tb_ok fn7 rfl ?_
 refine WPU.ghost (tm':=fr 61 [(0,.int .u8 p1),(1,.isl false (List.map cGEdge p2))]) (Gh.start (Nat.le_of_ble_eq_true rfl)) (Nat.zero_le _) ?_
 refine sr ?_
 refine sd ?_
 obtain ⟨r3,h4,hF⟩:=q01 hF
 refine sr ?_
 refine RS.call (u:=.bool r3) (args:=[.isl false (List.map cGEdge p2),.int .i64 12]) rfl (q0b rfl rfl fn13 hb13 rfl rfl) (ref32_Light_ok n p2 12 r3 h4 _) rfl rfl (RS.q (u:=.bool (!r3)) rfl (op_un rfl rfl rfl rfl) ?_)
 refine sd ?_
 refine WPU.condS (t:=(!r3)) rfl (fun h5=>?_) (fun h5=>?_)
 replace hF:=q09 h5 hF
 refine st ?_
 obtain ⟨r6,h7,hF⟩:=q01 hF
 refine sr ?_
 refine RS.call (u:=.bool r6) (args:=[]) rfl (q0b rfl rfl fn12 hb12 rfl rfl) (q65 n  r6 h7 _) rfl rfl ?_
 refine sd ?_
 refine WPU.ret ?_
 refine st ?_
 have hr:=Option.some.inj hF
 subst hr
 exact ⟨.inr rfl,[.bool r6],q0t rfl (q0q),.bool r6,⟨[],0⟩,Nat.le_refl _,Gh.toR (.bool r6) rfl,rfl,BU.h⟩
 replace hF:=q08 h5 hF
 refine st ?_
 refine WPU.skip ?_
 refine st ?_
 obtain ⟨r8,h9,hF⟩:=q01 hF
 refine sr ?_
 repeat refine RS.mv rfl rfl rfl rfl ?_
 refine RS.call (u:=.agg (cGChart r8)) (args:=[.int .u8 p1,.isl false (List.map cGEdge p2)]) rfl (q0b rfl rfl fn27 hb27 rfl rfl) (law32_built_ok n p1 p2 r8 h9 _) rfl rfl (RS.q (u:=.ptr 0 0 0) (σ':=⟨[(0,.row [.int .i64 0,.nils] 24)],1⟩) rfl (q1d inf24 rfl rfl) (RS.opn (u:=.junk) (σ':=⟨[(0,.row (cGChart r8) 24)],1⟩) rfl (q0g (q00 inf24) rfl rfl rfl rfl rfl rfl rfl rfl) rfl ?_))
 refine sd ?_
 obtain ⟨r11,h12,hF⟩:=q01 hF
 refine sr ?_
 refine RS.q (u:=.int .i64 (IntKind.i64.wrap p1)) rfl (qca rfl rfl (by simp only [convX,und5,und3]<;>rfl) rfl) ?_
 refine RS.q rfl (q02 rfl rfl (ix_rem _ (by decide)) rfl) ?_
 refine RS.q rfl (q02 rfl rfl (q32 _ _ _) rfl) (RS.call (u:=.tup [.agg (cGChart r11.1),.int .i64 r11.2]) (args:=[.int .i64 (IntKind.i64.wrap (1+((IntKind.i64.wrap p1).tmod 8)))]) rfl (q0b rfl rfl fn9 hb9 rfl rfl) (q62 n (IntKind.i64.wrap (1+((IntKind.i64.wrap p1).tmod 8))) r11 h12 _) rfl rfl (RS.mv rfl rfl rfl rfl (RS.q rfl (q0z rfl rfl) (RS.q rfl (q0z rfl rfl) (RS.q (u:=.ptr 1 0 0) (σ':=⟨[(1,.row [.int .i64 0,.nils] 24),(0,.row (cGChart r8) 24)],2⟩) rfl (q1d inf24 rfl rfl) (RS.opn (u:=.junk) (σ':=⟨[(1,.row (cGChart r11.1) 24),(0,.row (cGChart r8) 24)],2⟩) rfl (q0g (q00 inf24) rfl rfl rfl rfl rfl rfl rfl rfl) rfl ?_))))))
 refine se ?_
 refine RS.q (u:=.ptr 0 0 1) rfl (q06 und24 rfl (q00 inf22) rfl rfl rfl) (RS.q (u:=.isl false (List.map cGEdge r8.Edges)) rfl (q05 und22 rfl rfl rfl rfl) (RS.q rfl (q0i rfl rfl rfl (q0d cGEdge und22)) (RS.mv rfl rfl rfl rfl ?_)))
 refine sd ?_
 refine WPU.ghost (tm':=fr 61 [(5,.ptr 0 0 0),(6,.ptr 1 0 0),(28,.int .i64 (r8.Edges.length:Int)),(29,.int .i64 0)]) (Gh.sub ⟨rfl,rfl,rfl,rfl,trivial⟩) (Nat.zero_le _) ?_
 refine WPU.loopK (fun m tm σ=>∃ z19:Int,∃ z20:Int,∃ l21:List GEdge,q1y n r8 m z19 z20 l21=some r∧tm=fr 61 [(5,.ptr 0 0 0),(6,.ptr 1 0 0),(28,.int .i64 (r8.Edges.length:Int)),(29,.int .i64 z19)]∧σ=⟨[(1,.row [.int .i64 z20,.isl false (List.map cGEdge l21)] 24),(0,.row (cGChart r8) 24)],2⟩) (fun tm σ=>∃ z22:Int,∃ l23:List GEdge,q2p n r8 z22 l23=some r∧tm=fr 61 [(5,.ptr 0 0 0),(6,.ptr 1 0 0)]∧σ=⟨[(1,.row [.int .i64 z22,.isl false (List.map cGEdge l23)] 24),(0,.row (cGChart r8) 24)],2⟩) n ⟨0,r11.1.Words,r11.1.Edges,hF,rfl,rfl⟩ ?_ ?_
 rintro _ _ ⟨z22,l23,hF,rfl,rfl⟩
 unfold q2p at hF
 refine st ?_
 obtain ⟨r24,h25,hF⟩:=q01 hF
 obtain ⟨r26,h27,hF⟩:=q01 hF
 refine WPU.drawQ Try.tb_ok [(4,[.int .i64 0,.nils],24),(5,[.int .i64 0,.nils],24)] [] (nb:=2) (σe:=⟨[(1,.row [.int .i64 z22,.isl false (List.map cGEdge l23)] 24),(0,.row (cGChart r8) 24)],4⟩) (σ1:=⟨[(3,.row [.int .i64 0,.nils] 24),(2,.row [.int .i64 0,.nils] 24),(1,.row [.int .i64 z22,.isl false (List.map cGEdge l23)] 24),(0,.row (cGChart r8) 24)],4⟩) (q:=[⟨4,2,[.int .i64 0,.nils],24⟩,⟨5,3,[.int .i64 0,.nils],24⟩]) (by kernel_rfl) (List.cons_ne_nil _ _) ⟨⟨_,_,_,inf24,rfl,rfl⟩,⟨_,_,_,inf24,rfl,rfl⟩,trivial⟩ rfl rfl rfl rfl ?_
 refine RQ.early (u:=.agg (cGChart r8)) rfl (q0f und24 rfl (q00 inf24) rfl rfl rfl) (q0f und24 rfl (q00 inf24) rfl rfl rfl) rfl BU.h rfl rfl ?_
 refine RQ.free (u:=.agg (cGChart r24)) (args:=[.agg (cGChart r8)]) rfl (q0b rfl rfl fn25 hb25 rfl rfl) (fun s=>q4h n r8 r24 h25 s) BU.h rfl rfl ?_
 refine RQ.early (u:=.agg [.int .i64 z22,.isl false (List.map cGEdge l23)]) rfl (q0f und24 rfl (q00 inf24) rfl rfl rfl) (q0f und24 rfl (q00 inf24) rfl rfl rfl) rfl BU.h rfl rfl ?_
 refine RQ.free (u:=.agg (cGChart r26)) (args:=[.agg [.int .i64 z22,.isl false (List.map cGEdge l23)]]) rfl (q0b rfl rfl fn25 hb25 rfl rfl) (fun s=>q4h n (GChart.mk z22 l23) r26 h27 s) BU.h rfl rfl ?_
 refine RQ.alloc rfl rfl rfl rfl rfl ?_
 refine RQ.alloc rfl rfl rfl rfl rfl ?_
 refine RQ.actn (u:=.junk) (σ':=⟨[(3,.row [.int .i64 0,.nils] 24),(2,.row (cGChart r24) 24),(1,.row [.int .i64 z22,.isl false (List.map cGEdge l23)] 24),(0,.row (cGChart r8) 24)],4⟩) rfl (q0g (q00 inf24) rfl rfl rfl rfl rfl rfl rfl rfl) rfl ?_
 refine RQ.actn (u:=.junk) (σ':=⟨[(3,.row (cGChart r26) 24),(2,.row (cGChart r24) 24),(1,.row [.int .i64 z22,.isl false (List.map cGEdge l23)] 24),(0,.row (cGChart r8) 24)],4⟩) rfl (q0g (q00 inf24) rfl rfl rfl rfl rfl rfl rfl rfl) rfl ?_
 refine RQ.done ⟨by kernel_rfl,by kernel_rfl,trivial,?_⟩
 refine st ?_
 obtain ⟨b38,h39,hF⟩:=q01 hF
 refine WPU.joinK (fun tm σ=>tm=fr 61 [(4,.bool b38)]∧σ=⟨[(3,.row (cGChart r26) 24),(2,.row (cGChart r24) 24),(1,.row [.int .i64 z22,.isl false (List.map cGEdge l23)] 24),(0,.row (cGChart r8) 24)],4⟩) ?_ ?_
 rintro _ _ ⟨rfl,rfl⟩
 refine st ?_
 refine WPU.ret ?_
 refine st ?_
 have hr:=Option.some.inj hF
 subst hr
 exact ⟨.inr rfl,[.bool b38],q0t rfl (q0q),.bool b38,⟨[],0⟩,Nat.le_refl _,Gh.toR (.bool b38) rfl,rfl,BU.h⟩
 obtain ⟨r28,h29,h39⟩:=q01 h39
 rcases q0j r28 with h30 | h30
 replace h39:=q09 h30 h39
 obtain ⟨r31,h32,h39⟩:=q01 h39
 obtain ⟨r33,h34,h39⟩:=q01 h39
 rcases q0j r33 with h35 | h35
 replace h39:=q09 h35 h39
 obtain ⟨r36,h37,h39⟩:=q01 h39
 replace h39:=Option.some.inj h39
 subst h39
 refine WPU.drawE Try.tb_ok [] (by kernel_rfl) ?_
 refine RD.q (u:=.agg (cGChart r24)) rfl (q0f und24 rfl (q00 inf24) rfl rfl rfl) (RD.q (u:=.agg (cGChart r26)) rfl (q0f und24 rfl (q00 inf24) rfl rfl rfl) (RD.free (u:=.bool r28) (args:=[.agg (cGChart r24),.agg (cGChart r26)]) rfl (q0b rfl rfl fn11 hb11 rfl rfl) (fun s=>q5d n r24 r26 r28 h29 s) rfl rfl (RD.mv rfl rfl rfl rfl (RD.look (u:=.agg (cGChart r24)) (want1 rfl rfl rfl h30) (q0f und24 rfl (q00 inf24) rfl rfl rfl) rfl rfl (RD.free (u:=.agg (cGChart r31)) (args:=[.agg (cGChart r24)]) (want1 rfl rfl rfl h30) (q0b rfl rfl fn25 hb25 rfl rfl) (fun s=>q4h n r24 r31 h32 s) rfl rfl (RD.look (u:=.agg (cGChart r24)) (want1 rfl rfl rfl h30) (q0f und24 rfl (q00 inf24) rfl rfl rfl) rfl rfl (RD.free (u:=.bool r33) (args:=[.agg (cGChart r31),.agg (cGChart r24)]) (want1 rfl rfl rfl h30) (q0b rfl rfl fn11 hb11 rfl rfl) (fun s=>q5d n r31 r24 r33 h34 s) rfl rfl ?_)))))))
 refine RD.q (u:=.bool r33) rfl (q04 rfl h30 rfl) (RD.mv rfl rfl rfl rfl (RD.free (u:=.bool r36) (args:=[]) (want1 rfl rfl rfl h35) (q0b rfl rfl fn12 hb12 rfl rfl) (fun s=>q65 n  r36 h37 s) rfl rfl (RD.q (u:=.bool r36) rfl (q04 rfl h35 rfl) (RD.as rfl rfl rfl rfl ?_))))
 refine RD.done ⟨by kernel_rfl,trivial,?_⟩
 refine st ?_
 exact ⟨_,_,⟨rfl,rfl⟩,(Nat.zero_le _),Gh.toC (n1:=4) ⟨rfl,trivial⟩ rfl (Nat.zero_le _) (by simp)⟩
 replace h39:=q08 h35 h39
 replace h39:=Option.some.inj h39
 subst h39
 refine WPU.drawE Try.tb_ok [] (by kernel_rfl) ?_
 refine RD.q (u:=.agg (cGChart r24)) rfl (q0f und24 rfl (q00 inf24) rfl rfl rfl) (RD.q (u:=.agg (cGChart r26)) rfl (q0f und24 rfl (q00 inf24) rfl rfl rfl) (RD.free (u:=.bool r28) (args:=[.agg (cGChart r24),.agg (cGChart r26)]) rfl (q0b rfl rfl fn11 hb11 rfl rfl) (fun s=>q5d n r24 r26 r28 h29 s) rfl rfl (RD.mv rfl rfl rfl rfl (RD.look (u:=.agg (cGChart r24)) (want1 rfl rfl rfl h30) (q0f und24 rfl (q00 inf24) rfl rfl rfl) rfl rfl (RD.free (u:=.agg (cGChart r31)) (args:=[.agg (cGChart r24)]) (want1 rfl rfl rfl h30) (q0b rfl rfl fn25 hb25 rfl rfl) (fun s=>q4h n r24 r31 h32 s) rfl rfl (RD.look (u:=.agg (cGChart r24)) (want1 rfl rfl rfl h30) (q0f und24 rfl (q00 inf24) rfl rfl rfl) rfl rfl (RD.free (u:=.bool r33) (args:=[.agg (cGChart r31),.agg (cGChart r24)]) (want1 rfl rfl rfl h30) (q0b rfl rfl fn11 hb11 rfl rfl) (fun s=>q5d n r31 r24 r33 h34 s) rfl rfl ?_)))))))
 refine RD.q (u:=.bool r33) rfl (q04 rfl h30 rfl) (RD.mv rfl rfl rfl rfl (RD.no (want0 rfl rfl rfl h35) rfl rfl (RD.q (u:=.bool false) rfl (q03 rfl h35 rfl) (RD.as rfl rfl rfl rfl ?_))))
 refine RD.done ⟨by kernel_rfl,trivial,?_⟩
 refine st ?_
 exact ⟨_,_,⟨rfl,rfl⟩,(Nat.zero_le _),Gh.toC (n1:=4) ⟨rfl,trivial⟩ rfl (Nat.zero_le _) (by simp)⟩
 replace h39:=q08 h30 h39
 replace h39:=Option.some.inj h39
 subst h39
 refine WPU.drawE Try.tb_ok [] (by kernel_rfl) ?_
 refine RD.q (u:=.agg (cGChart r24)) rfl (q0f und24 rfl (q00 inf24) rfl rfl rfl) (RD.q (u:=.agg (cGChart r26)) rfl (q0f und24 rfl (q00 inf24) rfl rfl rfl) (RD.free (u:=.bool r28) (args:=[.agg (cGChart r24),.agg (cGChart r26)]) rfl (q0b rfl rfl fn11 hb11 rfl rfl) (fun s=>q5d n r24 r26 r28 h29 s) rfl rfl (RD.mv rfl rfl rfl rfl ?_)))
 repeat refine RD.no (want0 rfl rfl rfl h30) rfl rfl ?_
 refine RD.q (u:=.bool false) rfl (q03 rfl h30 rfl) (RD.mv rfl rfl rfl rfl (RD.no (want0 rfl rfl rfl rfl) rfl rfl (RD.q (u:=.bool false) rfl (q03 rfl rfl rfl) (RD.as rfl rfl rfl rfl ?_))))
 refine RD.done ⟨by kernel_rfl,trivial,?_⟩
 refine st ?_
 exact ⟨_,_,⟨rfl,rfl⟩,(Nat.zero_le _),Gh.toC (n1:=4) ⟨rfl,trivial⟩ rfl (Nat.zero_le _) (by simp)⟩
 rintro m1 _ _ ⟨z19,z20,l21,hF,rfl,rfl⟩
 rcases m1 with _ | m1
 cases hF
 unfold q1y at hF
 refine sr ?_
 refine RS.q rfl (q02 rfl rfl (q1i _ _ _) rfl) ?_
 refine sd ?_
 refine WPU.condS (t:=(decide (z19<(r8.Edges.length:Int)))) rfl (fun h40=>?_) (fun h40=>?_)
 replace hF:=q09 h40 hF
 refine st ?_
 refine WPU.skip ?_
 refine st ?_
 refine WPU.block ?_
 refine sr ?_
 refine sd ?_
 obtain ⟨r41,h42,hF⟩:=q01 hF
 refine sr ?_
 refine RS.q (u:=.agg (cGChart r8)) rfl (q0f und24 rfl (q00 inf24) rfl rfl rfl) (RS.q (u:=.agg [.int .i64 z20,.isl false (List.map cGEdge l21)]) rfl (q0f und24 rfl (q00 inf24) rfl rfl rfl) (RS.q (u:=.ptr 0 0 1) rfl (q06 und24 rfl (q00 inf22) rfl rfl rfl) (RS.q (u:=.isl false (List.map cGEdge r8.Edges)) rfl (q05 und22 rfl rfl rfl rfl) (RS.q rfl (q0i rfl rfl rfl (q0d cGEdge und22)) (RS.q rfl (q02 rfl rfl (ix_sub _ _ _) rfl) (RS.mv rfl rfl rfl rfl (RS.q rfl (q02 rfl rfl (ix_sub _ _ _) rfl) ?_)))))))
 refine RS.call (u:=.tup [.agg (cGChart r41.1),.int .i64 r41.2]) (args:=[.agg (cGChart r8),.agg [.int .i64 z20,.isl false (List.map cGEdge l21)],.int .i64 (IntKind.i64.wrap ((IntKind.i64.wrap ((r8.Edges.length:Int) - 1)) - z19))]) rfl (q0b rfl rfl fn29 hb29 rfl rfl) (qai n r8 (GChart.mk z20 l21) (IntKind.i64.wrap ((IntKind.i64.wrap ((r8.Edges.length:Int) - 1)) - z19)) r41 h42 _) rfl rfl (RS.mv rfl rfl rfl rfl (RS.q rfl (q0z rfl rfl) (RS.q rfl (q0z rfl rfl) (RS.opn (u:=.junk) (σ':=⟨[(1,.row (cGChart r41.1) 24),(0,.row (cGChart r8) 24)],2⟩) rfl (q0g (q00 inf24) rfl rfl rfl rfl rfl rfl rfl rfl) rfl ?_))))
 refine se ?_
 refine RS.q rfl (q02 rfl rfl (q32 _ _ _) rfl) (RS.mv rfl rfl rfl rfl ?_)
 refine sd ?_
 exact ⟨m1,_,_,Nat.lt_succ_self _,⟨(IntKind.i64.wrap (z19+1)),r41.1.Words,r41.1.Edges,hF,rfl,rfl⟩,(Nat.zero_le _),Gh.toC (n1:=2) ⟨rfl,rfl,rfl,rfl,trivial⟩ rfl (Nat.zero_le _) (by simp)⟩
 replace hF:=q08 h40 hF
 refine st ?_
 refine WPU.exit ?_
 refine st ?_
 exact ⟨_,_,⟨z20,l21,hF,rfl,rfl⟩,(Nat.zero_le _),Gh.toC (n1:=2) ⟨rfl,rfl,trivial⟩ rfl (Nat.zero_le _) (by simp)⟩
end Go.Proofs
end
section
namespace Go.Proofs
open Go Go.Rx Go.Vx Go.Shelf Go.Sort
set_option linter.unusedVariables false
theorem q70:∀ a:List UInt8,bytesEq a a=true
 | []=>rfl
 | x::a=>by simp [bytesEq,q70 a]
theorem q3z:∀ a b:List UInt8,bytesEq a b=true↔a=b
 | [],[]=>by simp [bytesEq]
 | [],_::_=>by simp [bytesEq]
 | _::_,[]=>by simp [bytesEq]
 | x::a,y::b=>by
  have h:(x.toNat=y.toNat)↔x=y:=UInt8.toNat_inj
  simp only [bytesEq,beq_eq]
  by_cases e:x=y
  ·subst e; simp [q3z a b]
  ·simp [e,mt h.1 e]
theorem blt_iff (a b:Nat):Nat.blt a b=true↔a<b:=by
 unfold Nat.blt
 rw [Nat.ble_eq]; exact Iff.rfl
theorem blt_iff' (a b:Nat):Nat.blt a b=decide (a<b):=by
 rw [Bool.eq_iff_iff,blt_iff]; simp
theorem q4e:∀ a:List UInt8,bytesLt a a=false
 | []=>rfl
 | x::a=>by simp [bytesLt,blt_iff',q4e a]
theorem q7n:∀ a b c:List UInt8,bytesLt a b=true→bytesLt b c=true→bytesLt a c=true
 | _,[],_,h,_=>by simp [bytesLt] at h
 | _,_::_,[],_,h=>by simp [bytesLt] at h
 | [],_::_,_::_,_,_=>by simp [bytesLt]
 | x::a,y::b,z::c,h1,h2=>by
  simp only [bytesLt,blt_iff',beq_eq] at *
  by_cases h:x.toNat<y.toNat
  ·by_cases h':y.toNat<z.toNat
   ·have:x.toNat<z.toNat:=by omega
    simp [this]
   ·simp only [h',decide_false,cond_false] at h2
    by_cases e:y.toNat=z.toNat
    ·have:x.toNat<z.toNat:=by omega
     simp [this]
    ·simp [e] at h2
  ·simp only [h,decide_false,cond_false] at h1
   by_cases e:x.toNat=y.toNat
   ·simp only [e,decide_true,cond_true] at h1
    by_cases h':y.toNat<z.toNat
    ·simp [e,h']
    ·simp only [h',decide_false,cond_false] at h2
     by_cases e':y.toNat=z.toNat
     ·simp only [e',decide_true,cond_true] at h2
      have:=q7n a b c h1 h2
      simp [e,e',this]
     ·simp [e'] at h2
   ·simp [e] at h1
theorem q52:∀ a b:List UInt8,bytesLt a b=false→bytesLt b a=false→a=b
 | [],[],_,_=>rfl
 | [],_::_,h,_=>by simp [bytesLt] at h
 | _::_,[],_,h=>by simp [bytesLt] at h
 | x::a,y::b,h1,h2=>by
  simp only [bytesLt,blt_iff',beq_eq] at *
  by_cases h:x.toNat<y.toNat
  ·simp [h] at h1
  ·by_cases h':y.toNat<x.toNat
   ·simp [h'] at h2
   ·have e:x.toNat=y.toNat:=by omega
    simp only [e,Nat.lt_irrefl,decide_false,cond_false,decide_true,cond_true] at h1 h2
    rw [q52 a b h1 h2,UInt8.toNat_inj.1 e]
theorem q0a {α β:Type} (a:α) (k:α→Option β):bindO (some a) k=k a:=rfl
theorem wr {z:Int} (h1 : -9223372036854775808≤z) (h2:z≤9223372036854775807):IntKind.i64.wrap z=z:=qbm (by omega) (by omega)
theorem wr1 {i len:Nat} (h:i<len) (hl:len≤9223372036854775807):IntKind.i64.wrap ((i:Int)+1)=((i+1:Nat):Int):=by rw [wr (by omega) (by omega)]; simp
theorem wrn {z:Int} {k:Nat} (h:z=k) (h2:k≤9223372036854775807):IntKind.i64.wrap z=(k:Int):=by subst h; exact wr (by omega) (by omega)
theorem q0v {α:Type} {l:List α} {i:Nat} (h:i<l.length):∃ x,l[i]? = some x∧x∈l:=⟨l[i],by simp [h],by simp⟩
theorem q6v {α:Type} {l:List α} {i:Nat} {x:α} (h:l[i]? = some x):l.take (i+1)=l.take i++[x]:=by rw [List.take_add_one,h]; rfl
theorem drop_cons' {α:Type} {l:List α} {i:Nat} {x:α} (h:l[i]? = some x):l.drop i=x::l.drop (i+1):=by
 have hlt:i<l.length:=(List.getElem?_eq_some_iff.1 h).1
 rw [List.drop_eq_getElem_cons hlt]
 congr 1
 rw [List.getElem?_eq_getElem hlt] at h
 exact Option.some.inj h
theorem q9q {α:Type} [SizeOf α]:∀ l:List α,l.length<SizeOf.sizeOf l
 | []=>by simp
 | x::l=>by have:=q9q l; simp; omega
theorem dlt {i n:Nat} (h:i<n):decide ((i:Int)<(n:Int))=true:=by simp; omega
theorem dnlt {i n:Nat} (h:¬ i<n):decide ((i:Int)<(n:Int))=false:=by simp; omega
theorem drop_nil' {α:Type} {l:List α} {i:Nat} (h:¬ i<l.length):l.drop i=[]:=List.drop_eq_nil_of_le (by omega)
structure Cmp {α:Type} (c:α→α→Int):Prop where
 val:∀ x y,c x y = -1∨c x y=0∨c x y=1
 anti:∀ x y,c y x = - c x y
 trans:∀ x y z,c x y≤0→c y z≤0→c x z≤0
theorem Cmp.self {α:Type} {c:α→α→Int} (h:Cmp c) (x:α):c x x=0:=by have:=h.anti x x; omega
theorem Cmp.congr {α:Type} {c:α→α→Int} (h:Cmp c) {x y:α} (hxy:c x y=0) (z:α):c x z=c y z:=by
 have h1:=h.val x z
 have h2:=h.val y z
 have a1:=h.anti x y
 have a2:=h.anti x z
 have a3:=h.anti y z
 have t1:=h.trans x y z
 have t2:=h.trans y x z
 have t3:=h.trans z x y
 have t4:=h.trans z y x
 omega
theorem Cmp.congr' {α:Type} {c:α→α→Int} (h:Cmp c) {x y:α} (hxy:c x y=0) (z:α):c z x=c z y:=by
 have h1:=h.congr hxy z
 have a2:=h.anti x z
 have a3:=h.anti y z
 omega
theorem Cmp.lt_of {α:Type} {c:α→α→Int} (h:Cmp c) {x y z:α} (h1:c x y<0) (h2:c y z≤0):c x z<0:=by
 have t1:=h.trans x y z (by omega) h2
 rcases Int.lt_or_eq_of_le t1 with h3 | h3
 ·exact h3
 ·have:=h.congr h3 y
  have a3:=h.anti y z
  omega
def lexC {α:Type} (c d:α→α→Int) (x y:α):Int:=if c x y≠0 then c x y else d x y
theorem Cmp.lex {α:Type} {c d:α→α→Int} (hc:Cmp c) (hd:Cmp d):Cmp (lexC c d) where
 val x y:=by unfold lexC; split; exact hc.val x y; exact hd.val x y
 anti x y:=by
  unfold lexC
  have a1:=hc.anti x y
  have a2:=hd.anti x y
  by_cases h:c x y=0
  ·have:c y x=0:=by omega
   simp [h,this,a2]
  ·have:¬ c y x=0:=by omega
   simp [h,this,a1]
 trans x y z h1 h2:=by
  unfold lexC at *
  by_cases h:c x y=0
  ·have e:=hc.congr h z
   simp only [h,ne_eq,not_true,if_false] at h1
   rw [e]
   by_cases h':c y z=0
   ·simp only [h',ne_eq,not_true,if_false] at h2 ⊢
    exact hd.trans x y z h1 h2
   ·simp only [h',ne_eq,not_false_eq_true,if_true] at h2 ⊢
    exact h2
  ·simp only [h,ne_eq,not_false_eq_true,if_true] at h1
   have h1':c x y<0:=by omega
   by_cases h':c y z=0
   ·have e:=hc.congr' h' x
    rw [← e]
    simp only [h,ne_eq,not_false_eq_true,if_true]
    exact h1
   ·simp only [h',ne_eq,not_false_eq_true,if_true] at h2
    have:=hc.lt_of h1' h2
    have hne:¬ c x z=0:=by omega
    simp only [hne,ne_eq,not_false_eq_true,if_true]
    omega
theorem lexC_zero {α:Type} {c d:α→α→Int} {x y:α}:lexC c d x y=0↔c x y=0∧d x y=0:=by
 unfold lexC
 by_cases h:c x y=0<;>simp [h]
theorem Cmp.pull {α β:Type} {c:α→α→Int} (h:Cmp c) (f:β→α):Cmp (fun x y=>c (f x) (f y)):=⟨fun x y=>h.val _ _,fun x y=>h.anti _ _,fun x y z=>h.trans _ _ _⟩
def cmpI (a b:Int):Int:=if a<b then -1 else if b<a then 1 else 0
def cmpS (a b:List UInt8):Int:=if bytesLt a b then -1 else if bytesLt b a then 1 else 0
theorem q6m {a b : Int} : cmpI a b = 0 ↔ a = b := by unfold cmpI; split; · omega
                                                     split <;> omega
theorem qc2 {a b:List UInt8}:cmpS a b=0↔a=b:=by
 unfold cmpS
 cases h:bytesLt a b with
 | true=>simp; intro e; subst e; rw [q4e] at h; cases h
 | false =>
  cases h':bytesLt b a with
  | true=>simp; intro e; subst e; rw [q4e] at h'; cases h'
  | false=>simp; exact q52 a b h h'
theorem qae : Cmp cmpI where
  val x y := by unfold cmpI; split; · simp
                split <;> simp
  anti x y := by unfold cmpI; split <;> split <;> (try split) <;> omega
  trans x y z := by
    unfold cmpI
    intro h1 h2
    split at h1 <;> split at h2 <;> (try split at h1) <;> (try split at h2) <;> (try split) <;> (try split) <;> omega
theorem q9h {a b:List UInt8} (h:bytesLt a b=true):bytesLt b a=false:=by
 cases h':bytesLt b a with
 | false=>rfl
 | true=>have:=q7n a b a h h'; rw [q4e] at this; cases this
theorem cmpS_ok : Cmp cmpS where
  val x y := by unfold cmpS; split; · simp
                split <;> simp
  anti x y := by
    unfold cmpS
    cases h : bytesLt x y with
    | true => rw [q9h h]; rfl
    | false => cases h' : bytesLt y x <;> simp
  trans x y z h1 h2 := by
    have k : ∀ a b, cmpS a b ≤ 0 ↔ bytesLt b a = false := fun a b => by
      unfold cmpS
      cases h : bytesLt a b with
      | true => rw [q9h h]; simp
      | false => cases h' : bytesLt b a <;> simp
    rw [k] at *
    cases h : bytesLt z x with
    | false => rfl
    | true =>
      cases hxy : bytesLt x y with
      | true => have := q7n z x y h hxy; rw [h2] at this; cases this
      | false => have := q52 x y hxy h1; subst this; rw [h2] at h; cases h
theorem ltOf_iff {α:Type} (c:α→α→Int) (x y:α):ltOf c x y=true↔c x y<0:=by simp [ltOf]
theorem Cmp.swo {α:Type} {c:α→α→Int} (h:Cmp c):SWO (ltOf c) where
 irrefl x:=by have:=h.self x; simp [ltOf,this]
 trans x y z h1 h2:=by rw [ltOf_iff] at *; exact h.lt_of h1 (by omega)
 ntrans x y z h1 h2:=by
  have e:∀ a b,ltOf c a b=false↔c b a≤0:=fun a b=>by have:=h.anti a b; simp [ltOf]; omega
  rw [e] at *
  exact h.trans z y x h2 h1
section
variable {α:Type} {c:α→α→Int}
theorem srt_le (hc:Cmp c) (l:List α):(srt (ltOf c) l).Pairwise (fun x y=>c x y≤0):=by
 have:=srt_asc hc.swo l
 refine List.Pairwise.imp ?_ this
 intro x y h
 have:=hc.anti x y
 simp [ltOf] at h
 omega
end
end Go.Proofs
end
section
namespace Go.Proofs
open Go Go.Rx Go.Vx Go.Sort
set_option linter.unusedVariables false
set_option linter.unusedSimpArgs false
theorem ex_ok (m:Nat):q1u (m+60)=some true:=by kernel_rfl
theorem ex_n {n:Nat} (h:60≤n):q1u n=some true:=by
 obtain ⟨m,rfl⟩:∃ m,n=m+60:=⟨n - 60,by omega⟩
 exact ex_ok m
theorem new_eq (n:Nat) (w:Int):q53 n w=qcf n w:=rfl
end Go.Proofs
end
