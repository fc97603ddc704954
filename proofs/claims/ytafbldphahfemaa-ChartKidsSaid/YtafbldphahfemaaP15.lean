/-
  Texts of the walk: SrtI C0 C2 C3 C4.
-/
import Derived.Shelf.SlSortCmp.Whole1
import Derived.Test.YtafbldphahfemaaP14
section
namespace Go.Proofs
open Go
set_option maxRecDepth 100000
def Try.sortI_ren:Shelf.Ren where
 f:=fun x=>match x with
  | 6=>44
  | 15=>57
  | 14=>56
  | 28=>68
  | 29=>69
  | 20=>60
  | 21=>61
  | 22=>62
  | 23=>63
  | 24=>64
  | 25=>65
  | 26=>66
  | 27=>67
  | 46=>70
  | 47=>71
  | 48=>72
  | 49=>73
  | 50=>74
  | 57=>75
  | n=>n
 t:=fun x=>match x with
  | 22=>34
  | 24=>3
  | 25=>67
  | 3=>3
  | 39=>79
  | 0=>0
  | 53=>92
  | 55=>80
  | 4=>4
  | 46=>85
  | 45=>84
  | 50=>89
  | 5=>5
  | 9=>9
  | 66=>94
  | 70=>98
  | 76=>100
  | 77=>101
  | n=>n
 g:=fun x=>x
theorem Try.sortI:SlLaysF.n6 Try.prog Try.sortI_ren where
 mixed:=rfl
 f6:=⟨Try.f44.name,by decide,Try.func44.trans rfl⟩
 f14:=⟨Try.f56.name,by decide,Try.func56.trans rfl⟩
 f15:=Try.func57.trans rfl
 f20:=⟨Try.f60.name,by decide,Try.func60.trans rfl⟩
 f21:=⟨Try.f61.name,by decide,Try.func61.trans rfl⟩
 f22:=⟨Try.f62.name,by decide,Try.func62.trans rfl⟩
 f23:=⟨Try.f63.name,by decide,Try.func63.trans rfl⟩
 f24:=⟨Try.f64.name,by decide,Try.func64.trans rfl⟩
 f25:=⟨Try.f65.name,by decide,Try.func65.trans rfl⟩
 f26:=⟨Try.f66.name,by decide,Try.func66.trans rfl⟩
 f27:=⟨Try.f67.name,by decide,Try.func67.trans rfl⟩
 f28:=Try.func68.trans rfl
 f29:=Try.func69.trans rfl
 f46:=⟨Try.f70.name,by decide,Try.func70.trans rfl⟩
 f47:=Try.func71.trans rfl
 f48:=Try.func72.trans rfl
 f49:=⟨Try.f73.name,by decide,Try.func73.trans rfl⟩
 f50:=⟨Try.f74.name,by decide,Try.func74.trans rfl⟩
 f57:=⟨Try.f75.name,by decide,Try.func75.trans rfl⟩
 t0:=Try.underlying0
 a0:=Try.isAgg0
 z0:=Try.sizeOf0
 v0:=Try.zeroValue0
 t3:=Try.underlying3
 a3:=Try.isAgg3
 z3:=Try.sizeOf3
 v3:=Try.zeroValue3
 t4:=Try.underlying4
 a4:=Try.isAgg4
 z4:=Try.sizeOf4
 v4:=Try.zeroValue4
 t5:=Try.underlying5
 a5:=Try.isAgg5
 z5:=Try.sizeOf5
 v5:=Try.zeroValue5
 t9:=Try.underlying9
 a9:=Try.isAgg9
 z9:=Try.sizeOf9
 v9:=Try.zeroValue9
 t22:=Try.underlying34
 a22:=Try.isAgg34
 z22:=Try.sizeOf34
 v22:=Try.zeroValue34
 a24:=Try.isAgg3
 z24:=Try.sizeOf3
 t25:=Try.underlying67
 a25:=Try.isAgg67
 z25:=Try.sizeOf67
 v25:=Try.zeroValue67
 t39:=Try.underlying79
 a39:=Try.isAgg79
 z39:=Try.sizeOf79
 v39:=Try.zeroValue79
 t45:=Try.underlying84
 a45:=Try.isAgg84
 z45:=Try.sizeOf84
 v45:=Try.zeroValue84
 t46:=Try.underlying85
 a46:=Try.isAgg85
 z46:=Try.sizeOf85
 v46:=Try.zeroValue85
 t50:=Try.underlying89
 a50:=Try.isAgg89
 z50:=Try.sizeOf89
 v50:=Try.zeroValue89
 t53:=Try.underlying92
 a53:=Try.isAgg92
 z53:=Try.sizeOf92
 v53:=Try.zeroValue92
 t55:=Try.underlying80
 a55:=Try.isAgg80
 z55:=Try.sizeOf80
 v55:=Try.zeroValue80
 t66:=Try.underlying94
 a66:=Try.isAgg94
 z66:=Try.sizeOf94
 v66:=Try.zeroValue94
 t70:=Try.underlying98
 a70:=Try.isAgg98
 z70:=Try.sizeOf98
 v70:=Try.zeroValue98
 t76:=Try.underlying100
 a76:=Try.isAgg100
 z76:=Try.sizeOf100
 v76:=Try.zeroValue100
 t77:=Try.underlying101
 a77:=Try.isAgg101
 z77:=Try.sizeOf101
 v77:=Try.zeroValue101
end Go.Proofs
end
section
namespace Go.Proofs
open Go Go.Rx Go.Vx Go.Shelf
def q7b (n:Nat) (x:Int):Option Int:=cond (x == 0) (some 0) none
theorem qap (n:Nat) (p1:Int) (r:Int) (hF:q7b n p1=some r) (σ:Sg):EvU Try.prog 57 [.int .u64 p1] σ (fun u σ'=>u = .int .i64 r∧σ'=σ):=by
 unfold q7b at hF
 cases hp:(p1 == 0) with
 | false=>rw [hp] at hF; cases hF
 | true =>
  rw [hp] at hF
  simp at hF hp
  subst hF; subst hp
  refine EvU.of_same (vs:=[.int .u64 0]) (cv:=.int .i64 0) rfl (fun m=>by simp [renL,ren]) rfl (fun m=>by simp [ren]) (fun w=>?_) σ
  have h:=Any.bits_Len (SlLaysF0.n15.bits (P:=Try.prog) (ρ:=Try.sortI_ren) { Try.sortI with }) 0 w (by omega) (by omega)
  exact h
end Go.Proofs
end
section
namespace Go.Proofs
open Go Go.Rx Go.Vx Try
set_option maxRecDepth 10000
set_option linter.unusedSimpArgs false
set_option linter.unusedVariables false
def q0z   : Option (Unit) :=
 some ()
def q10  : Nat→Option (Unit)
 | 0=>none
 | m1+1 =>
  q0z
def q0s (f3:Int→Int→GChart→(List GDeriv)→Option (Int)) (n:Nat) (c1:GChart) (c2:List GDeriv):Option (Unit) :=
 q10 n
theorem q3h (f3:Int→Int→GChart→(List GDeriv)→Option (Int)) (hf3:∀ (a0:Int) (a1:Int) (a2:GChart) (a3:List GDeriv) (r:Int),f3 a0 a1 a2 a3=some r→EvU Try.prog 45 [.int .i64 a0,.int .i64 a1,.iptr (cGChart a2),.iptr [.isl false (List.map cGDeriv a3)]] ⟨[],0⟩ (fun u _=>u = .int .i64 r∧Bel 0 u)) (n:Nat) (c1:GChart) (c2:List GDeriv) (r:Unit) (hF:q0s f3 n c1 c2=some r):EvU Try.prog 60 [.isl false (List.map (cI .i64) ([]:List Int)),.int .i64 0,.int .i64 0,.fn (.func 45) [] [.iptr (cGChart c1),.iptr [.isl false (List.map cGDeriv c2)]]] ⟨[],0⟩ (fun u _=>u = .tup []∧Bel 0 u):=by
 unfold q0s at hF
 have hf3S:∀ (a0:Int) (a1:Int) (a2:GChart) (a3:List GDeriv) (r:Int),f3 a0 a1 a2 a3=some r→∀ σ,EvU Try.prog 45 [.int .i64 a0,.int .i64 a1,.iptr (cGChart a2),.iptr [.isl false (List.map cGDeriv a3)]] σ (fun u σ'=>u = .int .i64 r∧σ'=σ):=fun a0 a1 a2 a3 r h σ=>EvU.pure1C (hf3 a0 a1 a2 a3 r h) σ
 refine EvU.of_body Try.tb_ok fn60 rfl ?_
 refine WPU.ghost (tm':=fr 53 [(0,.isl false (List.map (cI .i64) ([]:List Int))),(1,.int .i64 0),(2,.int .i64 0),(3,.fn (.func 45) [] [.iptr (cGChart c1),.iptr [.isl false (List.map cGDeriv c2)]])]) (Gh.start (Nat.le_of_ble_eq_true rfl)) (Nat.zero_le _) ?_
 refine sr ?_
 refine RS.q rfl (q02 rfl rfl (q35 _ _ _) rfl) ?_
 refine sd ?_
 refine WPU.ghost (tm':=fr 53 [(0,.isl false (List.map (cI .i64) ([]:List Int))),(1,.int .i64 0),(2,.int .i64 0),(3,.fn (.func 45) [] [.iptr (cGChart c1),.iptr [.isl false (List.map cGDeriv c2)]]),(8,.int .i64 1)]) (Gh.sub ⟨rfl,rfl,rfl,rfl,rfl,trivial⟩) (Nat.zero_le _) ?_
 refine WPU.loopK (fun m tm σ=>q10 m=some r∧tm=fr 53 [(0,.isl false (List.map (cI .i64) ([]:List Int))),(1,.int .i64 0),(2,.int .i64 0),(3,.fn (.func 45) [] [.iptr (cGChart c1),.iptr [.isl false (List.map cGDeriv c2)]]),(8,.int .i64 1)]∧σ=⟨[],0⟩) (fun tm σ=>q0z=some r∧tm=fr 53 []∧σ=⟨[],0⟩) n ⟨hF,rfl,rfl⟩ ?_ ?_
 rintro _ _ ⟨hF,rfl,rfl⟩
 unfold q0z at hF
 refine st ?_
 have hr:=Option.some.inj hF
 subst hr
 exact ⟨.inl rfl,[],q1b,.tup [],⟨[],0⟩,Nat.le_refl _,Gh.toR (.tup []) rfl,rfl,BU.h⟩
 rintro m1 _ _ ⟨hF,rfl,rfl⟩
 rcases m1 with _ | m1
 cases hF
 unfold q10 at hF
 refine sr ?_
 repeat refine RS.mv rfl rfl rfl rfl ?_
 refine RS.q rfl (q02 rfl rfl (q1q _ _ _) rfl) ?_
 refine sd ?_
 refine WPU.condS (t:=false) rfl (fun hc=>by cases hc) (fun _=>?_)
 refine st ?_
 refine WPU.exit ?_
 refine st ?_
 exact ⟨_,_,⟨hF,rfl,rfl⟩,(Nat.zero_le _),Gh.toC (n1:=0) trivial rfl (Nat.zero_le _) (by simp)⟩
theorem q3b (f3:Int→Int→GChart→(List GDeriv)→Option (Int)) (hf3:∀ (a0:Int) (a1:Int) (a2:GChart) (a3:List GDeriv) (r:Int),f3 a0 a1 a2 a3=some r→EvU Try.prog 45 [.int .i64 a0,.int .i64 a1,.iptr (cGChart a2),.iptr [.isl false (List.map cGDeriv a3)]] ⟨[],0⟩ (fun u _=>u = .int .i64 r∧Bel 0 u)) (n:Nat) (c1:GChart) (c2:List GDeriv) (r:Unit) (hF:q0s f3 n c1 c2=some r) (σ:Sg):EvU Try.prog 60 [.isl false (List.map (cI .i64) ([]:List Int)),.int .i64 0,.int .i64 0,.fn (.func 45) [] [.iptr (cGChart c1),.iptr [.isl false (List.map cGDeriv c2)]]] σ (fun u σ'=>u = .tup []∧σ'=σ) :=
 EvU.pure1C (q3h f3 hf3 n c1 c2 r hF) σ
def q1l (c2:GChart) (c3:List GDeriv) (f4:Int→Int→GChart→(List GDeriv)→Option (Int)) (n:Nat):Nat→Option (Unit)
 | 0=>none
 | m1+1 =>
  bindO (q0s f4 n c2 c3) fun r4 =>
  some ()
def q1a (f4:Int→Int→GChart→(List GDeriv)→Option (Int)) (n:Nat) (p1:Int) (c2:GChart) (c3:List GDeriv):Option (Unit) :=
 q1l c2 c3 f4 n n
theorem q4j (f4:Int→Int→GChart→(List GDeriv)→Option (Int)) (hf4:∀ (a0:Int) (a1:Int) (a2:GChart) (a3:List GDeriv) (r:Int),f4 a0 a1 a2 a3=some r→EvU Try.prog 45 [.int .i64 a0,.int .i64 a1,.iptr (cGChart a2),.iptr [.isl false (List.map cGDeriv a3)]] ⟨[],0⟩ (fun u _=>u = .int .i64 r∧Bel 0 u)) (n:Nat) (p1:Int) (c2:GChart) (c3:List GDeriv) (r:Unit) (hF:q1a f4 n p1 c2 c3=some r):EvU Try.prog 56 [.isl false (List.map (cI .i64) ([]:List Int)),.int .i64 0,.int .i64 0,.int .i64 p1,.fn (.func 45) [] [.iptr (cGChart c2),.iptr [.isl false (List.map cGDeriv c3)]]] ⟨[],0⟩ (fun u _=>u = .tup []∧Bel 0 u):=by
 unfold q1a at hF
 have hf4S:∀ (a0:Int) (a1:Int) (a2:GChart) (a3:List GDeriv) (r:Int),f4 a0 a1 a2 a3=some r→∀ σ,EvU Try.prog 45 [.int .i64 a0,.int .i64 a1,.iptr (cGChart a2),.iptr [.isl false (List.map cGDeriv a3)]] σ (fun u σ'=>u = .int .i64 r∧σ'=σ):=fun a0 a1 a2 a3 r h σ=>EvU.pure1C (hf4 a0 a1 a2 a3 r h) σ
 refine EvU.of_body Try.tb_ok fn56 rfl ?_
 refine WPU.ghost (tm':=fr 148 [(0,.isl false (List.map (cI .i64) ([]:List Int))),(1,.int .i64 0),(2,.int .i64 0),(3,.int .i64 p1),(4,.fn (.func 45) [] [.iptr (cGChart c2),.iptr [.isl false (List.map cGDeriv c3)]])]) (Gh.start (Nat.le_of_ble_eq_true rfl)) (Nat.zero_le _) ?_
 refine sr ?_
 refine se ?_
 refine sd ?_
 refine WPU.ghost (tm':=fr 148 [(0,.isl false (List.map (cI .i64) ([]:List Int))),(1,.int .i64 0),(2,.int .i64 0),(3,.int .i64 p1),(4,.fn (.func 45) [] [.iptr (cGChart c2),.iptr [.isl false (List.map cGDeriv c3)]]),(10,.bool true),(11,.bool true)]) (Gh.sub ⟨rfl,rfl,rfl,rfl,rfl,rfl,rfl,trivial⟩) (Nat.zero_le _) ?_
 refine WPU.loopK (fun m tm σ=>q1l c2 c3 f4 n m=some r∧tm=fr 148 [(0,.isl false (List.map (cI .i64) ([]:List Int))),(1,.int .i64 0),(2,.int .i64 0),(3,.int .i64 p1),(4,.fn (.func 45) [] [.iptr (cGChart c2),.iptr [.isl false (List.map cGDeriv c3)]]),(10,.bool true),(11,.bool true)]∧σ=⟨[],0⟩) (fun _ _=>False) n ⟨hF,rfl,rfl⟩ ?_ ?_
 rintro _ _ h; exact h.elim
 rintro m1 _ _ ⟨hF,rfl,rfl⟩
 rcases m1 with _ | m1
 cases hF
 unfold q1l at hF
 refine st ?_
 refine WPU.block ?_
 refine sr ?_
 repeat refine RS.mv rfl rfl rfl rfl ?_
 refine RS.q rfl (q02 rfl rfl (ix_sub _ _ _) rfl) ?_
 refine se ?_
 refine RS.q rfl (q02 rfl rfl (ix_leq _ _ _) rfl) ?_
 refine sd ?_
 refine WPU.condS (t:=true) rfl (fun _=>?_) (fun hc=>by cases hc)
 refine st ?_
 obtain ⟨r4,h5,hF⟩:=q00 hF
 refine sr ?_
 repeat refine RS.mv rfl rfl rfl rfl ?_
 refine RS.call (u:=.tup []) (args:=[.isl false (List.map (cI .i64) ([]:List Int)),.int .i64 0,.int .i64 0,.fn (.func 45) [] [.iptr (cGChart c2),.iptr [.isl false (List.map cGDeriv c3)]]]) rfl (q0b rfl rfl fn60 hb60 rfl rfl) (q3b f4 hf4 n c2 c3 r4 h5 _) rfl rfl ?_
 refine sd ?_
 refine WPU.ret ?_
 refine st ?_
 have hr:=Option.some.inj hF
 subst hr
 exact ⟨.inr rfl,[],q1b,.tup [],⟨[],0⟩,Nat.le_refl _,Gh.toR (.tup []) rfl,rfl,BU.h⟩
theorem q44 (f4:Int→Int→GChart→(List GDeriv)→Option (Int)) (hf4:∀ (a0:Int) (a1:Int) (a2:GChart) (a3:List GDeriv) (r:Int),f4 a0 a1 a2 a3=some r→EvU Try.prog 45 [.int .i64 a0,.int .i64 a1,.iptr (cGChart a2),.iptr [.isl false (List.map cGDeriv a3)]] ⟨[],0⟩ (fun u _=>u = .int .i64 r∧Bel 0 u)) (n:Nat) (p1:Int) (c2:GChart) (c3:List GDeriv) (r:Unit) (hF:q1a f4 n p1 c2 c3=some r) (σ:Sg):EvU Try.prog 56 [.isl false (List.map (cI .i64) ([]:List Int)),.int .i64 0,.int .i64 0,.int .i64 p1,.fn (.func 45) [] [.iptr (cGChart c2),.iptr [.isl false (List.map cGDeriv c3)]]] σ (fun u σ'=>u = .tup []∧σ'=σ) :=
 EvU.pure1C (q4j f4 hf4 n p1 c2 c3 r hF) σ
def q3q (f1:Int→Int→GChart→(List GDeriv)→Option (Int)) (n:Nat) (c1:GChart) (c2:List GDeriv):Option (Unit) :=
 bindO (q7b n 0) fun r3 =>
 bindO (q1a f1 n r3 c1 c2) fun r5 =>
 some ()
theorem q5s (f1:Int→Int→GChart→(List GDeriv)→Option (Int)) (hf1:∀ (a0:Int) (a1:Int) (a2:GChart) (a3:List GDeriv) (r:Int),f1 a0 a1 a2 a3=some r→EvU Try.prog 45 [.int .i64 a0,.int .i64 a1,.iptr (cGChart a2),.iptr [.isl false (List.map cGDeriv a3)]] ⟨[],0⟩ (fun u _=>u = .int .i64 r∧Bel 0 u)) (n:Nat) (c1:GChart) (c2:List GDeriv) (r:Unit) (hF:q3q f1 n c1 c2=some r):EvU Try.prog 44 [.isl false (List.map (cI .i64) ([]:List Int)),.fn (.func 45) [] [.iptr (cGChart c1),.iptr [.isl false (List.map cGDeriv c2)]]] ⟨[],0⟩ (fun u _=>u = .tup []∧Bel 0 u):=by
 unfold q3q at hF
 have hf1S:∀ (a0:Int) (a1:Int) (a2:GChart) (a3:List GDeriv) (r:Int),f1 a0 a1 a2 a3=some r→∀ σ,EvU Try.prog 45 [.int .i64 a0,.int .i64 a1,.iptr (cGChart a2),.iptr [.isl false (List.map cGDeriv a3)]] σ (fun u σ'=>u = .int .i64 r∧σ'=σ):=fun a0 a1 a2 a3 r h σ=>EvU.pure1C (hf1 a0 a1 a2 a3 r h) σ
 refine EvU.of_body Try.tb_ok fn44 rfl ?_
 refine WPU.ghost (tm':=fr 14 [(0,.isl false (List.map (cI .i64) ([]:List Int))),(1,.fn (.func 45) [] [.iptr (cGChart c1),.iptr [.isl false (List.map cGDeriv c2)]])]) (Gh.start (Nat.le_of_ble_eq_true rfl)) (Nat.zero_le _) ?_
 refine sr ?_
 refine RS.q rfl (q0l rfl rfl rfl (q0e (cI .i64) und34)) ?_
 refine sd ?_
 obtain ⟨r3,h4,hF⟩:=q00 hF
 obtain ⟨r5,h6,hF⟩:=q00 hF
 refine sr ?_
 repeat refine RS.mv rfl rfl rfl rfl ?_
 refine RS.q (u:=.int .u64 0) rfl (op_conv rfl rfl (by simp only [convX,und3,und79]<;>rfl) rfl) ?_
 refine RS.call (u:=.int .i64 r3) (args:=[.int .u64 0]) rfl (q0b rfl rfl fn57 hb57 rfl rfl) (qap n 0 r3 h4 _) rfl rfl (RS.mv rfl rfl rfl rfl (RS.call (u:=.tup []) (args:=[.isl false (List.map (cI .i64) ([]:List Int)),.int .i64 0,.int .i64 0,.int .i64 r3,.fn (.func 45) [] [.iptr (cGChart c1),.iptr [.isl false (List.map cGDeriv c2)]]]) rfl (q0b rfl rfl fn56 hb56 rfl rfl) (q44 f1 hf1 n r3 c1 c2 r5 h6 _) rfl rfl ?_))
 refine sd ?_
 have hr:=Option.some.inj hF
 subst hr
 exact ⟨.inl rfl,[],q1b,.tup [],⟨[],0⟩,Nat.le_refl _,Gh.toR (.tup []) rfl,rfl,BU.h⟩
end Go.Proofs
end
section
namespace Go.Proofs
open Go Go.Rx Go.Vx Go.Shelf Go.Sort
set_option linter.unusedVariables false
set_option linter.unusedSimpArgs false
set_option maxRecDepth 10000
theorem sortOneI:SortOne Try.prog 44 45:=fun α _ enc cf h1 hO cb blk off cap d w hc hH hb hs =>
 Any.slices_SortFunc Try.sortI enc h1 cf hO 45 cb blk off cap d w (enters_of Try.func45 (by kernel_rfl) rfl) hc hH hb hs
theorem srtI_nil (c2:GChart) (c3:List GDeriv):EvU Try.prog 44 [.isl false [],.fn (.func 45) [] [.iptr (cGChart c2),.iptr [.isl false (List.map cGDeriv c3)]]] ⟨[],0⟩ (fun u _=>u = .tup []∧Bel 0 u) :=
 q5s (fun _ _ _ _=>none) (fun a0 a1 a2 a3 r h=>by cases h) 1 c2 c3 () rfl
theorem srtI_caps (c2:GChart) (c3:List GDeriv):BelL 0 [.iptr (cGChart c2),.iptr [.isl false (List.map cGDeriv c3)]]:=BUL.h
theorem srtI_okR (c2:GChart) (c3:List GDeriv) {f1:Int→Int→Option Int} (hcmp:∀ a b r,f1 a b=some r→EvU Try.prog 45 [.int .i64 a,.int .i64 b,.iptr (cGChart c2),.iptr [.isl false (List.map cGDeriv c3)]] ⟨[],0⟩ (fun u _=>u = .int .i64 r∧Bel 0 u))
  (xs ys:List Int) (h:sortO (fun x y=>x == y) f1 xs=some ys) (σ:Sg) {K n:Nat} {e:TypeId} (hn:n=xs.length) (hK:Nat.blt K σ.nx=true) (hg:gt σ.h K=some (.row (xs.map (cI .i64)).flatten e)) :
  EvU Try.prog 44 [.sl K 0 n n,.fn (.func 45) [] [.iptr (cGChart c2),.iptr [.isl false (List.map cGDeriv c3)]]] σ (fun u σ'=>u = .tup []∧σ'=⟨ug σ.h K (.row (ys.map (cI .i64)).flatten e),σ.nx⟩) :=
 sortO_okR1 (encU1:=fun z:Int=>.int .i64 z) (fun _=>rfl) (fun _=>trivial) (srtI_caps c2 c3) sortOneI (fun x y h=>by simpa using h) (srtI_nil c2 c3) hcmp xs ys h σ hn hK hg
end Go.Proofs
end
section
namespace Go.Proofs
open Go Go.Rx Go.Vx Try
set_option maxRecDepth 10000
set_option linter.unusedSimpArgs false
set_option linter.unusedVariables false
def q56 (z37:Int) (l38:List GEdge) (rc3:Int→(List GEdge)→Option (GChart)) (x45:GEdge) (l74:List Int):Option (GChart) :=
 needO ((x45.Kids.length:Int).toNat=l74.length) (
 needO ((l38.length+1)*160≤140737488355328∧l38.length+1≤140737488355328) (
 rc3 (IntKind.i64.wrap (z37+1)) (l38++[(GEdge.mk x45.From x45.To x45.Unary x45.Kind x45.Name l74 x45.Lex x45.FS)])))
def q3d (p1:GChart) (l28:List Int) (z37:Int) (l38:List GEdge) (rc3:Int→(List GEdge)→Option (GChart)) (x45:GEdge):Nat→Int→(List Int)→Option (GChart)
 | 0,_,_=>none
 | m4+1,z72,l73 =>
  cond (decide (z72<(x45.Kids.length:Int)))
   (bindO (idxO x45.Kids z72) fun x78 =>
   bindO (idxV l28 0 ((((p1.Edges.length:Int).toNat:Nat):Int).toNat) x78) fun x80 =>
   bindO (idxV l73 0 ((x45.Kids.length:Int).toNat) z72) fun x82 =>
   (q3d p1 l28 z37 l38 rc3 x45 m4) (IntKind.i64.wrap (z72+1)) (l73.set z72.toNat x80))
   (q56 z37 l38 rc3 x45 l73)
def q55 (p1:GChart) (l40:List GEdge):Option (GChart) :=
 some (GChart.mk p1.Words l40)
def q26 (p1:GChart) (n:Nat) (r18:List Int) (l28:List Int):Nat→Int→(List GEdge)→Option (GChart)
 | 0,_,_=>none
 | m3+1,z37,l38 =>
  cond (decide (z37<(((p1.Edges.length:Int).toNat:Nat):Int)))
   (bindO (idxV r18 0 ((p1.Edges.length:Int).toNat) z37) fun x43 =>
   bindO (idxO p1.Edges x43) fun x45 =>
   needO (0≤(x45.Kids.length:Int)∧8*(x45.Kids.length:Int).toNat≤281474976710656∧(x45.Kids.length:Int)≤281474976710656) (
   q3d p1 l28 z37 l38 (q26 p1 n r18 l28 m3) x45 n 0 (List.replicate (x45.Kids.length:Int).toNat 0)))
   (q55 p1 l38)
def q40 (p1:GChart) (n:Nat) (r18:List Int) (l28:List Int):Option (GChart) :=
 q26 p1 n r18 l28 n 0 ([]:List GEdge)
def q2t (p1:GChart) (n:Nat) (r18:List Int):Nat→Int→(List Int)→Option (GChart)
 | 0,_,_=>none
 | m2+1,z26,l27 =>
  cond (decide (z26<(((p1.Edges.length:Int).toNat:Nat):Int)))
   (bindO (idxV r18 0 ((p1.Edges.length:Int).toNat) z26) fun x85 =>
   bindO (idxV l27 0 ((((p1.Edges.length:Int).toNat:Nat):Int).toNat) x85) fun x87 =>
   (q2t p1 n r18 m2) (IntKind.i64.wrap (z26+1)) (l27.set x85.toNat z26))
   (q40 p1 n r18 l27)
def q3z (p1:GChart) (n:Nat) (l14:List GDeriv) (l15:List Int):Option (GChart) :=
 needO ((p1.Edges.length:Int).toNat=l14.length) (
 needO ((p1.Edges.length:Int).toNat=l15.length) (
 bindO (sortO (fun x y=>x == y) (fun a b=>q3s n a b p1 l14) l15) fun r18 =>
 needO (0≤(((p1.Edges.length:Int).toNat:Nat):Int)∧8*(((p1.Edges.length:Int).toNat:Nat):Int).toNat≤281474976710656∧(((p1.Edges.length:Int).toNat:Nat):Int)≤281474976710656) (
 q2t p1 n r18 n 0 (List.replicate (((p1.Edges.length:Int).toNat:Nat):Int).toNat 0))))
def q3c (p1:GChart) (n:Nat):Nat→Int→(List GDeriv)→(List Int)→Option (GChart)
 | 0,_,_,_=>none
 | m1+1,z11,l12,l13 =>
  cond (decide (z11<(((p1.Edges.length:Int).toNat:Nat):Int)))
   (bindO (q2l n p1 z11) fun r90 =>
   bindO (idxV l13 0 ((p1.Edges.length:Int).toNat) z11) fun x92 =>
   bindO (idxV l12 0 ((p1.Edges.length:Int).toNat) z11) fun x94 =>
   (q3c p1 n m1) (IntKind.i64.wrap (z11+1)) (l12.set z11.toNat r90) (l13.set z11.toNat z11))
   (q3z p1 n l12 l13)
def q4e (n:Nat) (p1:GChart):Option (GChart) :=
 needO (0≤(p1.Edges.length:Int)∧8*(p1.Edges.length:Int).toNat≤281474976710656∧(p1.Edges.length:Int)≤281474976710656) (
 needO (0≤(p1.Edges.length:Int)∧64*(p1.Edges.length:Int).toNat≤281474976710656∧(p1.Edges.length:Int)≤281474976710656) (
 q3c p1 n n 0 (List.replicate (p1.Edges.length:Int).toNat (GDeriv.mk 0 [] 0 0 [])) (List.replicate (p1.Edges.length:Int).toNat 0)))
theorem chart_Canon_0 (n:Nat) (p1:GChart) (r:GChart) (hF:q4e n p1=some r):EvU Try.prog 25 [.agg (cGChart p1)] ⟨[],0⟩ (fun u _=>u = .agg (cGChart r)∧Bel 0 u):=by
 unfold q4e at hF
 refine EvU.of_body Try.tb_ok fn25 rfl ?_
 refine WPU.ghost (tm':=fr 102 [(0,.agg (cGChart p1))]) (Gh.start (Nat.le_of_ble_eq_true rfl)) (Nat.zero_le _) ?_
 refine sr ?_
 refine RS.q (u:=.ptr 0 0 0) (σ':=⟨[(0,.row (cGChart p1) 24)],1⟩) rfl (q3x rfl rfl rfl) (RS.q (u:=.ptr 1 0 0) (σ':=⟨[(1,.row [.int .i64 0,.nils] 24),(0,.row (cGChart p1) 24)],2⟩) rfl (q1i inf24 rfl rfl) ?_)
 refine sd ?_
 obtain ⟨h2,hF⟩:=q0v hF
 refine sr ?_
 refine RS.q (u:=.ptr 0 0 1) rfl (q07 und24 rfl (q01 inf22) rfl rfl rfl) (RS.q (u:=.isl false (List.map cGEdge p1.Edges)) rfl (q05 und22 rfl rfl rfl rfl) (RS.q rfl (q0l rfl rfl rfl (q0e cGEdge und22)) (RS.q (u:=.sl 2 0 ((p1.Edges.length:Int).toNat) ((p1.Edges.length:Int).toNat)) (σ':=⟨[(2,.row (List.map (cI .i64) (List.replicate (p1.Edges.length:Int).toNat 0)).flatten 3),(1,.row [.int .i64 0,.nils] 24),(0,.row (cGChart p1) 24)],3⟩) rfl (op_mks (cI .i64) 0 rfl rfl und34 inf3 rfl rfl rfl rfl h2) ?_)))
 refine sd ?_
 obtain ⟨h3,hF⟩:=q0v hF
 refine sr ?_
 refine RS.q (u:=.ptr 0 0 1) rfl (q07 und24 rfl (q01 inf22) rfl rfl rfl) (RS.q (u:=.isl false (List.map cGEdge p1.Edges)) rfl (q05 und22 rfl rfl rfl rfl) (RS.q rfl (q0l rfl rfl rfl (q0e cGEdge und22)) (RS.q (u:=.sl 3 0 ((p1.Edges.length:Int).toNat) ((p1.Edges.length:Int).toNat)) (σ':=⟨[(3,.row (List.map cGDeriv (List.replicate (p1.Edges.length:Int).toNat (GDeriv.mk 0 [] 0 0 []))).flatten 37),(2,.row (List.map (cI .i64) (List.replicate (p1.Edges.length:Int).toNat 0)).flatten 3),(1,.row [.int .i64 0,.nils] 24),(0,.row (cGChart p1) 24)],4⟩) rfl (op_mks cGDeriv (GDeriv.mk 0 [] 0 0 []) rfl rfl und35 inf37 rfl rfl rfl rfl h3) (RS.q (u:=.ptr 4 0 0) (σ':=⟨[(4,.row [.nils] 35),(3,.row (List.map cGDeriv (List.replicate (p1.Edges.length:Int).toNat (GDeriv.mk 0 [] 0 0 []))).flatten 37),(2,.row (List.map (cI .i64) (List.replicate (p1.Edges.length:Int).toNat 0)).flatten 3),(1,.row [.int .i64 0,.nils] 24),(0,.row (cGChart p1) 24)],5⟩) rfl (q1i inf35 rfl rfl) (RS.opn (u:=.junk) (σ':=⟨[(4,.row [.sl 3 0 ((p1.Edges.length:Int).toNat) ((p1.Edges.length:Int).toNat)] 35),(3,.row (List.map cGDeriv (List.replicate (p1.Edges.length:Int).toNat (GDeriv.mk 0 [] 0 0 []))).flatten 37),(2,.row (List.map (cI .i64) (List.replicate (p1.Edges.length:Int).toNat 0)).flatten 3),(1,.row [.int .i64 0,.nils] 24),(0,.row (cGChart p1) 24)],5⟩) rfl (q0h (q01 inf35) rfl rfl rfl rfl rfl rfl rfl rfl) rfl ?_)))))
 refine se ?_
 refine RS.q rfl (q0l rfl rfl rfl (len_sl und34 rfl)) (RS.mv rfl rfl rfl rfl ?_)
 refine sd ?_
 refine WPU.ghost (tm':=fr 102 [(1,.ptr 0 0 0),(2,.ptr 1 0 0),(3,.sl 2 0 ((p1.Edges.length:Int).toNat) ((p1.Edges.length:Int).toNat)),(4,.ptr 4 0 0),(25,.int .i64 (((p1.Edges.length:Int).toNat:Nat):Int)),(26,.int .i64 0)]) (Gh.sub ⟨rfl,rfl,rfl,rfl,rfl,rfl,trivial⟩) (Nat.zero_le _) ?_
 refine WPU.loopK (fun m tm σ=>∃ z11:Int,∃ l12:List GDeriv,∃ l13:List Int,q3c p1 n m z11 l12 l13=some r∧tm=fr 102 [(1,.ptr 0 0 0),(2,.ptr 1 0 0),(3,.sl 2 0 ((p1.Edges.length:Int).toNat) ((p1.Edges.length:Int).toNat)),(4,.ptr 4 0 0),(25,.int .i64 (((p1.Edges.length:Int).toNat:Nat):Int)),(26,.int .i64 z11)]∧σ=⟨[(4,.row [.sl 3 0 ((p1.Edges.length:Int).toNat) ((p1.Edges.length:Int).toNat)] 35),(3,.row (List.map cGDeriv l12).flatten 37),(2,.row (List.map (cI .i64) l13).flatten 3),(1,.row [.int .i64 0,.nils] 24),(0,.row (cGChart p1) 24)],5⟩) (fun tm σ=>∃ l14:List GDeriv,∃ l15:List Int,q3z p1 n l14 l15=some r∧tm=fr 102 [(1,.ptr 0 0 0),(2,.ptr 1 0 0),(3,.sl 2 0 ((p1.Edges.length:Int).toNat) ((p1.Edges.length:Int).toNat)),(4,.ptr 4 0 0)]∧σ=⟨[(4,.row [.sl 3 0 ((p1.Edges.length:Int).toNat) ((p1.Edges.length:Int).toNat)] 35),(3,.row (List.map cGDeriv l14).flatten 37),(2,.row (List.map (cI .i64) l15).flatten 3),(1,.row [.int .i64 0,.nils] 24),(0,.row (cGChart p1) 24)],5⟩) n ⟨0,(List.replicate (p1.Edges.length:Int).toNat (GDeriv.mk 0 [] 0 0 [])),(List.replicate (p1.Edges.length:Int).toNat 0),hF,rfl,rfl⟩ ?_ ?_
 rintro _ _ ⟨l14,l15,hF,rfl,rfl⟩
 unfold q3z at hF
 refine st ?_
 refine WPU.ghost (tm':=fr 102 [(1,.iptr (cGChart p1)),(2,.ptr 1 0 0),(3,.sl 2 0 ((p1.Edges.length:Int).toNat) ((p1.Edges.length:Int).toNat)),(4,.ptr 4 0 0)]) (σ':=⟨[(4,.row [.sl 3 0 ((p1.Edges.length:Int).toNat) ((p1.Edges.length:Int).toNat)] 35),(3,.row (List.map cGDeriv l14).flatten 37),(2,.row (List.map (cI .i64) l15).flatten 3),(1,.row [.int .i64 0,.nils] 24)],5⟩) (Gh.trans (Gh.sub (l':=[(1,.ptr 0 0 0),(2,.ptr 1 0 0),(3,.sl 2 0 ((p1.Edges.length:Int).toNat) ((p1.Edges.length:Int).toNat)),(4,.ptr 4 0 0)]) ⟨rfl,rfl,rfl,rfl,trivial⟩) (Gh.fzS (l':=[(1,.iptr (cGChart p1)),(2,.ptr 1 0 0),(3,.sl 2 0 ((p1.Edges.length:Int).toNat) ((p1.Edges.length:Int).toNat)),(4,.ptr 4 0 0)]) (h':=[(4,.row [.sl 3 0 ((p1.Edges.length:Int).toNat) ((p1.Edges.length:Int).toNat)] 35),(3,.row (List.map cGDeriv l14).flatten 37),(2,.row (List.map (cI .i64) l15).flatten 3),(1,.row [.int .i64 0,.nils] 24)]) 0 (.row [.int .i64 p1.Words,.isl false (List.map cGEdge p1.Edges)] 24) 2 rfl (by simp) (by simp only [fzS,oneU,q0x,q0m,q1x,q12,q20,q16,q15,q14,q13,q0y,q1y,q1z,q1w,q21,q39,junkT,q69,q6h,q5p,q0k,q3o (show Nat.beq 1 0=false from rfl),q3n (show Nat.beq 1 0=false from rfl),q3m (show Nat.beq 1 0=false from rfl),q3o (show Nat.beq 2 0=false from rfl),q3n (show Nat.beq 2 0=false from rfl),q3m (show Nat.beq 2 0=false from rfl),q3o (show Nat.beq 3 0=false from rfl),q3n (show Nat.beq 3 0=false from rfl),q3m (show Nat.beq 3 0=false from rfl),q3o (show Nat.beq 4 0=false from rfl),q3n (show Nat.beq 4 0=false from rfl),q3m (show Nat.beq 4 0=false from rfl),q1n _ _ _ (q29 0 (fun q=>q50 _ q) l14),q1n _ _ _ (q29 0 (fun q=>q5t _ .i64 q) l15),Nat.reduceLeDiff,Nat.reduceMul,List.length_cons,List.length_nil,Nat.reduceAdd]<;>simp only [chunks,List.take,List.drop,List.map,cGChart]) (by simp only [fzH,fzB,ug,Nat.beq,cond_true,cond_false,oneU,q0x,q0m,q1x,q12,q20,q16,q15,q14,q13,q0y,q1y,q1z,q1w,q21,q39,junkT,q69,q6h,q5p,q0k,q3o (show Nat.beq 1 0=false from rfl),q3n (show Nat.beq 1 0=false from rfl),q3m (show Nat.beq 1 0=false from rfl),q3o (show Nat.beq 2 0=false from rfl),q3n (show Nat.beq 2 0=false from rfl),q3m (show Nat.beq 2 0=false from rfl),q3o (show Nat.beq 3 0=false from rfl),q3n (show Nat.beq 3 0=false from rfl),q3m (show Nat.beq 3 0=false from rfl),q3o (show Nat.beq 4 0=false from rfl),q3n (show Nat.beq 4 0=false from rfl),q3m (show Nat.beq 4 0=false from rfl),q1n _ _ _ (q29 0 (fun q=>q50 _ q) l14),q1n _ _ _ (q29 0 (fun q=>q5t _ .i64 q) l15),Nat.reduceLeDiff,Nat.reduceMul,List.length_cons,List.length_nil,Nat.reduceAdd]<;>simp only [chunks,List.take,List.drop,List.map,cGChart]))) (Nat.zero_le _) ?_
 obtain ⟨h16,hF⟩:=q0v hF
 refine WPU.ghost (tm':=fr 102 [(1,.iptr (cGChart p1)),(2,.ptr 1 0 0),(3,.sl 2 0 ((p1.Edges.length:Int).toNat) ((p1.Edges.length:Int).toNat)),(4,.ptr 4 0 0)]) (σ':=⟨[(4,.row [.isl false (List.map cGDeriv l14)] 35),(2,.row (List.map (cI .i64) l15).flatten 3),(1,.row [.int .i64 0,.nils] 24)],5⟩) (Gh.trans (Gh.sub (l':=[(1,.iptr (cGChart p1)),(2,.ptr 1 0 0),(3,.sl 2 0 ((p1.Edges.length:Int).toNat) ((p1.Edges.length:Int).toNat)),(4,.ptr 4 0 0)]) ⟨rfl,rfl,rfl,rfl,trivial⟩) (Gh.fzS (l':=[(1,.iptr (cGChart p1)),(2,.ptr 1 0 0),(3,.sl 2 0 ((p1.Edges.length:Int).toNat) ((p1.Edges.length:Int).toNat)),(4,.ptr 4 0 0)]) (h':=[(4,.row [.isl false (List.map cGDeriv l14)] 35),(2,.row (List.map (cI .i64) l15).flatten 3),(1,.row [.int .i64 0,.nils] 24)]) 3 (.row (List.map cGDeriv l14).flatten 37) 5 rfl (by simp) (by simp only [fzS,oneU,q0x,q0m,q1x,q12,q20,q16,q15,q14,q13,q0y,q1y,q1z,q1w,q21,q39,junkT,fz_rl q17 h16,q5p,q0k,q3o (show Nat.beq 1 3=false from rfl),q3n (show Nat.beq 1 3=false from rfl),q3m (show Nat.beq 1 3=false from rfl),q3o (show Nat.beq 2 3=false from rfl),q3n (show Nat.beq 2 3=false from rfl),q3m (show Nat.beq 2 3=false from rfl),q3o (show Nat.beq 4 3=false from rfl),q3n (show Nat.beq 4 3=false from rfl),q3m (show Nat.beq 4 3=false from rfl),q1n _ _ _ (q29 3 (fun q=>q5t _ .i64 q) l15)]) (by simp only [fzH,fzB,ug,Nat.beq,cond_true,cond_false,oneU,q0x,q0m,q1x,q12,q20,q16,q15,q14,q13,q0y,q1y,q1z,q1w,q21,q39,junkT,fz_rl q17 h16,q5p,q0k,q3o (show Nat.beq 1 3=false from rfl),q3n (show Nat.beq 1 3=false from rfl),q3m (show Nat.beq 1 3=false from rfl),q3o (show Nat.beq 2 3=false from rfl),q3n (show Nat.beq 2 3=false from rfl),q3m (show Nat.beq 2 3=false from rfl),q3o (show Nat.beq 4 3=false from rfl),q3n (show Nat.beq 4 3=false from rfl),q3m (show Nat.beq 4 3=false from rfl),q1n _ _ _ (q29 3 (fun q=>q5t _ .i64 q) l15)]))) (Nat.zero_le _) ?_
 refine WPU.ghost (tm':=fr 102 [(1,.iptr (cGChart p1)),(2,.ptr 1 0 0),(3,.sl 2 0 ((p1.Edges.length:Int).toNat) ((p1.Edges.length:Int).toNat)),(4,.iptr [.isl false (List.map cGDeriv l14)])]) (σ':=⟨[(2,.row (List.map (cI .i64) l15).flatten 3),(1,.row [.int .i64 0,.nils] 24)],5⟩) (Gh.trans (Gh.sub (l':=[(1,.iptr (cGChart p1)),(2,.ptr 1 0 0),(3,.sl 2 0 ((p1.Edges.length:Int).toNat) ((p1.Edges.length:Int).toNat)),(4,.ptr 4 0 0)]) ⟨rfl,rfl,rfl,rfl,trivial⟩) (Gh.fzS (l':=[(1,.iptr (cGChart p1)),(2,.ptr 1 0 0),(3,.sl 2 0 ((p1.Edges.length:Int).toNat) ((p1.Edges.length:Int).toNat)),(4,.iptr [.isl false (List.map cGDeriv l14)])]) (h':=[(2,.row (List.map (cI .i64) l15).flatten 3),(1,.row [.int .i64 0,.nils] 24)]) 4 (.row [.isl false (List.map cGDeriv l14)] 35) 1 rfl (by simp) (by simp only [fzS,oneU,q0x,q0m,q1x,q12,q20,q16,q15,q14,q13,q0y,q1y,q1z,q1w,q21,q39,junkT,q69,q6h,q5p,q0k,q3o (show Nat.beq 1 4=false from rfl),q3n (show Nat.beq 1 4=false from rfl),q3m (show Nat.beq 1 4=false from rfl),q3o (show Nat.beq 2 4=false from rfl),q3n (show Nat.beq 2 4=false from rfl),q3m (show Nat.beq 2 4=false from rfl),q1n _ _ _ (q29 4 (fun q=>q5t _ .i64 q) l15),Nat.reduceLeDiff,Nat.reduceMul,List.length_cons,List.length_nil,Nat.reduceAdd]<;>simp only [chunks,List.take,List.drop,List.map,cI,cB,cS,cL]) (by simp only [fzH,fzB,ug,Nat.beq,cond_true,cond_false,oneU,q0x,q0m,q1x,q12,q20,q16,q15,q14,q13,q0y,q1y,q1z,q1w,q21,q39,junkT,q69,q6h,q5p,q0k,q3o (show Nat.beq 1 4=false from rfl),q3n (show Nat.beq 1 4=false from rfl),q3m (show Nat.beq 1 4=false from rfl),q3o (show Nat.beq 2 4=false from rfl),q3n (show Nat.beq 2 4=false from rfl),q3m (show Nat.beq 2 4=false from rfl),q1n _ _ _ (q29 4 (fun q=>q5t _ .i64 q) l15),Nat.reduceLeDiff,Nat.reduceMul,List.length_cons,List.length_nil,Nat.reduceAdd]<;>simp only [chunks,List.take,List.drop,List.map,cI,cB,cS,cL]))) (Nat.zero_le _) ?_
 refine st ?_
 obtain ⟨h19,hF⟩:=q0v hF
 obtain ⟨r18,h17,hF⟩:=q00 hF
 refine sr ?_
 refine RS.q rfl (op_fun rfl rfl) (RS.callx (args:=[.sl 2 0 ((p1.Edges.length:Int).toNat) ((p1.Edges.length:Int).toNat),.fn (.func 45) [] [.iptr (cGChart p1),.iptr [.isl false (List.map cGDeriv l14)]]]) rfl (q0b rfl rfl fn44 hb44 rfl rfl) (srtI_okR p1 l14 (fun a b r h=>qbb n a b p1 l14 r h) l15 r18 h17 _ h19 rfl rfl) rfl rfl ?_)
 rintro _ _ ⟨rfl,rfl⟩
 refine sd ?_
 obtain ⟨h20,hF⟩:=q0v hF
 refine sr ?_
 refine RS.q rfl (q0l rfl rfl rfl (len_sl und34 rfl)) (RS.q (u:=.sl 5 0 ((((p1.Edges.length:Int).toNat:Nat):Int).toNat) ((((p1.Edges.length:Int).toNat:Nat):Int).toNat)) (σ':=⟨[(5,.row (List.map (cI .i64) (List.replicate (((p1.Edges.length:Int).toNat:Nat):Int).toNat 0)).flatten 3),(2,.row (List.map (cI .i64) r18).flatten 3),(1,.row [.int .i64 0,.nils] 24)],6⟩) rfl (op_mks (cI .i64) 0 rfl rfl und34 inf3 rfl rfl rfl rfl h20) ?_)
 refine se ?_
 refine RS.q rfl (q0l rfl rfl rfl (len_sl und34 rfl)) (RS.mv rfl rfl rfl rfl ?_)
 refine sd ?_
 refine WPU.ghost (tm':=fr 102 [(1,.iptr (cGChart p1)),(2,.ptr 1 0 0),(3,.sl 2 0 ((p1.Edges.length:Int).toNat) ((p1.Edges.length:Int).toNat)),(6,.sl 5 0 ((((p1.Edges.length:Int).toNat:Nat):Int).toNat) ((((p1.Edges.length:Int).toNat:Nat):Int).toNat)),(46,.sl 2 0 ((p1.Edges.length:Int).toNat) ((p1.Edges.length:Int).toNat)),(47,.int .i64 (((p1.Edges.length:Int).toNat:Nat):Int)),(48,.int .i64 0)]) (Gh.sub ⟨rfl,rfl,rfl,rfl,rfl,rfl,rfl,trivial⟩) (Nat.zero_le _) ?_
 refine WPU.loopK (fun m tm σ=>∃ z26:Int,∃ l27:List Int,q2t p1 n r18 m z26 l27=some r∧tm=fr 102 [(1,.iptr (cGChart p1)),(2,.ptr 1 0 0),(3,.sl 2 0 ((p1.Edges.length:Int).toNat) ((p1.Edges.length:Int).toNat)),(6,.sl 5 0 ((((p1.Edges.length:Int).toNat:Nat):Int).toNat) ((((p1.Edges.length:Int).toNat:Nat):Int).toNat)),(46,.sl 2 0 ((p1.Edges.length:Int).toNat) ((p1.Edges.length:Int).toNat)),(47,.int .i64 (((p1.Edges.length:Int).toNat:Nat):Int)),(48,.int .i64 z26)]∧σ=⟨[(5,.row (List.map (cI .i64) l27).flatten 3),(2,.row (List.map (cI .i64) r18).flatten 3),(1,.row [.int .i64 0,.nils] 24)],6⟩) (fun tm σ=>∃ l28:List Int,q40 p1 n r18 l28=some r∧tm=fr 102 [(1,.iptr (cGChart p1)),(2,.ptr 1 0 0),(3,.sl 2 0 ((p1.Edges.length:Int).toNat) ((p1.Edges.length:Int).toNat)),(6,.sl 5 0 ((((p1.Edges.length:Int).toNat:Nat):Int).toNat) ((((p1.Edges.length:Int).toNat:Nat):Int).toNat))]∧σ=⟨[(5,.row (List.map (cI .i64) l28).flatten 3),(2,.row (List.map (cI .i64) r18).flatten 3),(1,.row [.int .i64 0,.nils] 24)],6⟩) n ⟨0,(List.replicate (((p1.Edges.length:Int).toNat:Nat):Int).toNat 0),hF,rfl,rfl⟩ ?_ ?_
 rintro _ _ ⟨l28,hF,rfl,rfl⟩
 unfold q40 at hF
 refine sr ?_
 refine RS.q (u:=.iptr (cGChart p1)) rfl (q4f und24 rfl (q01 inf3) rfl rfl) (RS.q (u:=.int .i64 p1.Words) rfl (q19 und3 rfl rfl rfl) (RS.q (u:=.agg [.int .i64 p1.Words,.nils]) rfl (q7g bd24 rfl rfl rfl) (RS.q (u:=.ptr 6 0 0) (σ':=⟨[(6,.row [.int .i64 0,.nils] 24),(5,.row (List.map (cI .i64) l28).flatten 3),(2,.row (List.map (cI .i64) r18).flatten 3),(1,.row [.int .i64 0,.nils] 24)],7⟩) rfl (q1i inf24 rfl rfl) (RS.opn (u:=.junk) (σ':=⟨[(6,.row [.int .i64 p1.Words,.nils] 24),(5,.row (List.map (cI .i64) l28).flatten 3),(2,.row (List.map (cI .i64) r18).flatten 3),(1,.row [.int .i64 0,.nils] 24)],7⟩) rfl (q0h (q01 inf24) rfl rfl rfl rfl rfl rfl rfl rfl) rfl ?_))))
 refine se ?_
 refine RS.q rfl (q0l rfl rfl rfl (len_sl und34 rfl)) (RS.mv rfl rfl rfl rfl ?_)
 refine sd ?_
 refine WPU.ghost (tm':=fr 102 [(1,.iptr (cGChart p1)),(2,.ptr 1 0 0),(6,.sl 5 0 ((((p1.Edges.length:Int).toNat:Nat):Int).toNat) ((((p1.Edges.length:Int).toNat:Nat):Int).toNat)),(9,.ptr 6 0 0),(61,.sl 2 0 ((p1.Edges.length:Int).toNat) ((p1.Edges.length:Int).toNat)),(62,.int .i64 (((p1.Edges.length:Int).toNat:Nat):Int)),(63,.int .i64 0)]) (σ':=⟨[(7,.vec (List.map cGEdge ([]:List GEdge)).flatten 42 12 0),(6,.row [.int .i64 p1.Words,.vl 7 0 0 (([]:List GEdge).length)] 24),(5,.row (List.map (cI .i64) l28).flatten 3),(2,.row (List.map (cI .i64) r18).flatten 3),(1,.row [.int .i64 0,.nils] 24)],8⟩) (Gh.trans (Gh.nilC 6 1 42 12 (by decide) (Nat.zero_le _) rfl rfl) (Gh.eqS ⟨rfl,rfl,rfl,rfl,rfl,rfl,rfl,trivial⟩ rfl)) (Nat.zero_le _) ?_
 refine WPU.ghost (tm':=fr 102 [(1,.iptr (cGChart p1)),(2,.ptr 1 0 0),(6,.sl 5 0 ((((p1.Edges.length:Int).toNat:Nat):Int).toNat) ((((p1.Edges.length:Int).toNat:Nat):Int).toNat)),(9,.ptr 6 0 0),(61,.sl 2 0 ((p1.Edges.length:Int).toNat) ((p1.Edges.length:Int).toNat)),(62,.int .i64 (((p1.Edges.length:Int).toNat:Nat):Int)),(63,.int .i64 0)]) (Gh.sub ⟨rfl,rfl,rfl,rfl,rfl,rfl,rfl,trivial⟩) (Nat.zero_le _) ?_
 refine WPU.loopK (fun m tm σ=>∃ z37:Int,∃ l38:List GEdge,∃ t39:Nat,q26 p1 n r18 l28 m z37 l38=some r∧tm=fr 102 [(1,.iptr (cGChart p1)),(2,.ptr 1 0 0),(6,.sl 5 0 ((((p1.Edges.length:Int).toNat:Nat):Int).toNat) ((((p1.Edges.length:Int).toNat:Nat):Int).toNat)),(9,.ptr 6 0 0),(61,.sl 2 0 ((p1.Edges.length:Int).toNat) ((p1.Edges.length:Int).toNat)),(62,.int .i64 (((p1.Edges.length:Int).toNat:Nat):Int)),(63,.int .i64 z37)]∧σ=⟨[(7,.vec (List.map cGEdge l38).flatten 42 12 t39),(6,.row [.int .i64 p1.Words,.vl 7 t39 0 l38.length] 24),(5,.row (List.map (cI .i64) l28).flatten 3),(2,.row (List.map (cI .i64) r18).flatten 3),(1,.row [.int .i64 0,.nils] 24)],8⟩) (fun tm σ=>∃ l40:List GEdge,∃ t41:Nat,q55 p1 l40=some r∧tm=fr 102 [(2,.ptr 1 0 0),(9,.ptr 6 0 0)]∧σ=⟨[(7,.vec (List.map cGEdge l40).flatten 42 12 t41),(6,.row [.int .i64 p1.Words,.vl 7 t41 0 l40.length] 24),(5,.row (List.map (cI .i64) l28).flatten 3),(2,.row (List.map (cI .i64) r18).flatten 3),(1,.row [.int .i64 0,.nils] 24)],8⟩) n ⟨0,([]:List GEdge),0,hF,rfl,rfl⟩ ?_ ?_
 rintro _ _ ⟨l40,t41,hF,rfl,rfl⟩
 unfold q55 at hF
 refine sr ?_
 refine RS.q (u:=.agg [.int .i64 p1.Words,.vl 7 t41 0 l40.length]) rfl (q0o und24 rfl (q01 inf24) rfl rfl rfl) (RS.opn (u:=.junk) (σ':=⟨[(7,.vec (List.map cGEdge l40).flatten 42 12 t41),(6,.row [.int .i64 p1.Words,.vl 7 t41 0 l40.length] 24),(5,.row (List.map (cI .i64) l28).flatten 3),(2,.row (List.map (cI .i64) r18).flatten 3),(1,.row [.int .i64 p1.Words,.vl 7 t41 0 l40.length] 24)],8⟩) rfl (q0h (q01 inf24) rfl rfl rfl rfl rfl rfl rfl rfl) rfl ?_)
 refine sd ?_
 refine WPU.ret ?_
 refine st ?_
 have hr:=Option.some.inj hF
 subst hr
 exact ⟨.inr rfl,[.agg [.int .i64 p1.Words,.vl 7 t41 0 l40.length]],q9i (q0o und24 rfl (q01 inf24) rfl rfl rfl) (q1b),.agg [.int .i64 p1.Words,.isl false (List.map cGEdge l40)],⟨[],0⟩,Nat.le_refl _,Gh.trans (Gh.fz (tm':=[.agg [.int .i64 p1.Words,.isl false (List.map cGEdge l40)]]) (h':=[(6,.row [.int .i64 p1.Words,.isl false (List.map cGEdge l40)] 24),(5,.row (List.map (cI .i64) l28).flatten 3),(2,.row (List.map (cI .i64) r18).flatten 3),(1,.row [.int .i64 p1.Words,.isl false (List.map cGEdge l40)] 24)]) 7 (.vec (List.map cGEdge l40).flatten 42 12 t41) 12 rfl (by simp) (by simp only [oneU,q0x,q0m,q1x,q12,q20,q16,q15,q14,q13,q0y,q1y,q1z,q1w,q21,q39,junkT,fz_vl q0f,q1n _ _ _ (q29 7 (fun q=>q5t _ .i64 q) l28),q1n _ _ _ (q29 7 (fun q=>q5t _ .i64 q) r18)]) (by simp only [fzH,fzB,ug,Nat.beq,cond_true,cond_false,oneU,q0x,q0m,q1x,q12,q20,q16,q15,q14,q13,q0y,q1y,q1z,q1w,q21,q39,junkT,fz_vl q0f,q1n _ _ _ (q29 7 (fun q=>q5t _ .i64 q) l28),q1n _ _ _ (q29 7 (fun q=>q5t _ .i64 q) r18)])) (Gh.toR (.agg [.int .i64 p1.Words,.isl false (List.map cGEdge l40)]) rfl),rfl,BU.h⟩
 rintro m3 _ _ ⟨z37,l38,t39,hF,rfl,rfl⟩
 rcases m3 with _ | m3
 cases hF
 unfold q26 at hF
 refine sr ?_
 refine RS.q rfl (q02 rfl rfl (q1q _ _ _) rfl) ?_
 refine sd ?_
 refine WPU.condS (t:=(decide (z37<(((p1.Edges.length:Int).toNat:Nat):Int)))) rfl (fun h42=>?_) (fun h42=>?_)
 replace hF:=q0a h42 hF
 refine st ?_
 refine WPU.skip ?_
 refine st ?_
 refine WPU.block ?_
 refine st ?_
 obtain ⟨x43,h44,hF⟩:=q00 hF
 refine sr ?_
 refine RS.q (u:=.ptr 2 0 (0*1+z37.toNat*1)) rfl (q1e rfl rfl (ia_rl und34 (q01 inf3) rfl h44)) (RS.q (u:=.int .i64 x43) rfl (ld_rl1 (cI .i64) (fun x=>.int .i64 x) und3 rfl (fun _=>rfl) rfl rfl h44) ?_)
 refine sd ?_
 obtain ⟨x45,h46,hF⟩:=q00 hF
 refine sr ?_
 refine RS.q (u:=.iptr [.isl false (List.map cGEdge p1.Edges)]) rfl (q4f und24 rfl (q01 inf22) rfl rfl) (RS.q (u:=.isl false (List.map cGEdge p1.Edges)) rfl (q19 und22 rfl rfl rfl) (RS.mv rfl rfl rfl rfl (RS.q (u:=.iptr (cGEdge x45)) rfl (q1e rfl rfl (q0p cGEdge und22 (q01 inf42) q0f h46 rfl)) (RS.q (u:=.agg (cGEdge x45)) rfl (q3a und42 rfl (q01 inf42) rfl rfl) (RS.q (u:=.ptr 8 0 0) (σ':=⟨[(8,.row [.int .i64 0,.int .i64 0,.int .i64 0,.int .i64 0,.str [],.nils,.int .i64 0,.str [],.int .i64 0,.int .i64 0,.nils,.nils] 42),(7,.vec (List.map cGEdge l38).flatten 42 12 t39),(6,.row [.int .i64 p1.Words,.vl 7 t39 0 l38.length] 24),(5,.row (List.map (cI .i64) l28).flatten 3),(2,.row (List.map (cI .i64) r18).flatten 3),(1,.row [.int .i64 0,.nils] 24)],9⟩) rfl (q1i inf42 rfl rfl) (RS.opn (u:=.junk) (σ':=⟨[(8,.row (cGEdge x45) 42),(7,.vec (List.map cGEdge l38).flatten 42 12 t39),(6,.row [.int .i64 p1.Words,.vl 7 t39 0 l38.length] 24),(5,.row (List.map (cI .i64) l28).flatten 3),(2,.row (List.map (cI .i64) r18).flatten 3),(1,.row [.int .i64 0,.nils] 24)],9⟩) rfl (q0h (q01 inf42) rfl rfl rfl rfl rfl rfl rfl rfl) rfl ?_))))))
 refine sd ?_
 obtain ⟨h47,hF⟩:=q0v hF
 refine sr ?_
 refine RS.q (u:=.ptr 8 0 5) rfl (q07 und42 rfl (q01 inf34) rfl rfl rfl) (RS.q (u:=.isl false (List.map (cI .i64) x45.Kids)) rfl (q05 und34 rfl rfl rfl rfl) (RS.q rfl (q0l rfl rfl rfl (q0e (cI .i64) und34)) (RS.q (u:=.sl 9 0 ((x45.Kids.length:Int).toNat) ((x45.Kids.length:Int).toNat)) (σ':=⟨[(9,.row (List.map (cI .i64) (List.replicate (x45.Kids.length:Int).toNat 0)).flatten 3),(8,.row (cGEdge x45) 42),(7,.vec (List.map cGEdge l38).flatten 42 12 t39),(6,.row [.int .i64 p1.Words,.vl 7 t39 0 l38.length] 24),(5,.row (List.map (cI .i64) l28).flatten 3),(2,.row (List.map (cI .i64) r18).flatten 3),(1,.row [.int .i64 0,.nils] 24)],10⟩) rfl (op_mks (cI .i64) 0 rfl rfl und34 inf3 rfl rfl rfl rfl h47) ?_)))
 refine se ?_
 refine RS.q (u:=.ptr 8 0 5) rfl (q07 und42 rfl (q01 inf34) rfl rfl rfl) (RS.q (u:=.isl false (List.map (cI .i64) x45.Kids)) rfl (q05 und34 rfl rfl rfl rfl) (RS.q rfl (q0l rfl rfl rfl (q0e (cI .i64) und34)) (RS.mv rfl rfl rfl rfl ?_)))
 refine sd ?_
 refine WPU.ghost (tm':=fr 102 [(1,.iptr (cGChart p1)),(2,.ptr 1 0 0),(6,.sl 5 0 ((((p1.Edges.length:Int).toNat:Nat):Int).toNat) ((((p1.Edges.length:Int).toNat:Nat):Int).toNat)),(9,.ptr 6 0 0),(12,.ptr 8 0 0),(13,.sl 9 0 ((x45.Kids.length:Int).toNat) ((x45.Kids.length:Int).toNat)),(61,.sl 2 0 ((p1.Edges.length:Int).toNat) ((p1.Edges.length:Int).toNat)),(62,.int .i64 (((p1.Edges.length:Int).toNat:Nat):Int)),(63,.int .i64 z37),(77,.isl false (List.map (cI .i64) x45.Kids)),(78,.int .i64 (x45.Kids.length:Int)),(79,.int .i64 0)]) (Gh.sub ⟨rfl,rfl,rfl,rfl,rfl,rfl,rfl,rfl,rfl,rfl,rfl,rfl,trivial⟩) (Nat.zero_le _) ?_
 refine WPU.loopK (fun m tm σ=>∃ z72:Int,∃ l73:List Int,q3d p1 l28 z37 l38 (q26 p1 n r18 l28 m3) x45 m z72 l73=some r∧tm=fr 102 [(1,.iptr (cGChart p1)),(2,.ptr 1 0 0),(6,.sl 5 0 ((((p1.Edges.length:Int).toNat:Nat):Int).toNat) ((((p1.Edges.length:Int).toNat:Nat):Int).toNat)),(9,.ptr 6 0 0),(12,.ptr 8 0 0),(13,.sl 9 0 ((x45.Kids.length:Int).toNat) ((x45.Kids.length:Int).toNat)),(61,.sl 2 0 ((p1.Edges.length:Int).toNat) ((p1.Edges.length:Int).toNat)),(62,.int .i64 (((p1.Edges.length:Int).toNat:Nat):Int)),(63,.int .i64 z37),(77,.isl false (List.map (cI .i64) x45.Kids)),(78,.int .i64 (x45.Kids.length:Int)),(79,.int .i64 z72)]∧σ=⟨[(9,.row (List.map (cI .i64) l73).flatten 3),(8,.row (cGEdge x45) 42),(7,.vec (List.map cGEdge l38).flatten 42 12 t39),(6,.row [.int .i64 p1.Words,.vl 7 t39 0 l38.length] 24),(5,.row (List.map (cI .i64) l28).flatten 3),(2,.row (List.map (cI .i64) r18).flatten 3),(1,.row [.int .i64 0,.nils] 24)],10⟩) (fun tm σ=>∃ l74:List Int,q56 z37 l38 (q26 p1 n r18 l28 m3) x45 l74=some r∧tm=fr 102 [(1,.iptr (cGChart p1)),(2,.ptr 1 0 0),(6,.sl 5 0 ((((p1.Edges.length:Int).toNat:Nat):Int).toNat) ((((p1.Edges.length:Int).toNat:Nat):Int).toNat)),(9,.ptr 6 0 0),(12,.ptr 8 0 0),(13,.sl 9 0 ((x45.Kids.length:Int).toNat) ((x45.Kids.length:Int).toNat)),(61,.sl 2 0 ((p1.Edges.length:Int).toNat) ((p1.Edges.length:Int).toNat)),(62,.int .i64 (((p1.Edges.length:Int).toNat:Nat):Int)),(63,.int .i64 z37)]∧σ=⟨[(9,.row (List.map (cI .i64) l74).flatten 3),(8,.row (cGEdge x45) 42),(7,.vec (List.map cGEdge l38).flatten 42 12 t39),(6,.row [.int .i64 p1.Words,.vl 7 t39 0 l38.length] 24),(5,.row (List.map (cI .i64) l28).flatten 3),(2,.row (List.map (cI .i64) r18).flatten 3),(1,.row [.int .i64 0,.nils] 24)],10⟩) n ⟨0,(List.replicate (x45.Kids.length:Int).toNat 0),hF,rfl,rfl⟩ ?_ ?_
 rintro _ _ ⟨l74,hF,rfl,rfl⟩
 unfold q56 at hF
 refine sr ?_
 refine RS.q (u:=.ptr 8 0 5) rfl (q07 und42 rfl (q01 inf34) rfl rfl rfl) (RS.opn (u:=.junk) (σ':=⟨[(9,.row (List.map (cI .i64) l74).flatten 3),(8,.row [.int .i64 x45.From,.int .i64 x45.To,.int .i64 x45.Unary,.int .i64 x45.Kind,.str x45.Name,.sl 9 0 ((x45.Kids.length:Int).toNat) ((x45.Kids.length:Int).toNat),.int .i64 x45.Lex.Kind,.str x45.Lex.Name,.int .i64 x45.Lex.From,.int .i64 x45.Lex.To,.isl false (List.map cGDeriv x45.Lex.Kids),.isl false (List.map cGNode x45.FS.Nodes)] 42),(7,.vec (List.map cGEdge l38).flatten 42 12 t39),(6,.row [.int .i64 p1.Words,.vl 7 t39 0 l38.length] 24),(5,.row (List.map (cI .i64) l28).flatten 3),(2,.row (List.map (cI .i64) r18).flatten 3),(1,.row [.int .i64 0,.nils] 24)],10⟩) rfl (q0h (q01 inf34) rfl rfl rfl rfl rfl rfl rfl rfl) rfl ?_)
 refine sd ?_
 obtain ⟨h75,hF⟩:=q0v hF
 refine WPU.ghost (tm':=fr 102 [(1,.iptr (cGChart p1)),(2,.ptr 1 0 0),(6,.sl 5 0 ((((p1.Edges.length:Int).toNat:Nat):Int).toNat) ((((p1.Edges.length:Int).toNat:Nat):Int).toNat)),(9,.ptr 6 0 0),(12,.ptr 8 0 0),(61,.sl 2 0 ((p1.Edges.length:Int).toNat) ((p1.Edges.length:Int).toNat)),(62,.int .i64 (((p1.Edges.length:Int).toNat:Nat):Int)),(63,.int .i64 z37)]) (σ':=⟨[(8,.row [.int .i64 x45.From,.int .i64 x45.To,.int .i64 x45.Unary,.int .i64 x45.Kind,.str x45.Name,.isl false (List.map (cI .i64) l74),.int .i64 x45.Lex.Kind,.str x45.Lex.Name,.int .i64 x45.Lex.From,.int .i64 x45.Lex.To,.isl false (List.map cGDeriv x45.Lex.Kids),.isl false (List.map cGNode x45.FS.Nodes)] 42),(7,.vec (List.map cGEdge l38).flatten 42 12 t39),(6,.row [.int .i64 p1.Words,.vl 7 t39 0 l38.length] 24),(5,.row (List.map (cI .i64) l28).flatten 3),(2,.row (List.map (cI .i64) r18).flatten 3),(1,.row [.int .i64 0,.nils] 24)],10⟩) (Gh.trans (Gh.sub (l':=[(1,.iptr (cGChart p1)),(2,.ptr 1 0 0),(6,.sl 5 0 ((((p1.Edges.length:Int).toNat:Nat):Int).toNat) ((((p1.Edges.length:Int).toNat:Nat):Int).toNat)),(9,.ptr 6 0 0),(12,.ptr 8 0 0),(61,.sl 2 0 ((p1.Edges.length:Int).toNat) ((p1.Edges.length:Int).toNat)),(62,.int .i64 (((p1.Edges.length:Int).toNat:Nat):Int)),(63,.int .i64 z37)]) ⟨rfl,rfl,rfl,rfl,rfl,rfl,rfl,rfl,trivial⟩) (Gh.fzS (l':=[(1,.iptr (cGChart p1)),(2,.ptr 1 0 0),(6,.sl 5 0 ((((p1.Edges.length:Int).toNat:Nat):Int).toNat) ((((p1.Edges.length:Int).toNat:Nat):Int).toNat)),(9,.ptr 6 0 0),(12,.ptr 8 0 0),(61,.sl 2 0 ((p1.Edges.length:Int).toNat) ((p1.Edges.length:Int).toNat)),(62,.int .i64 (((p1.Edges.length:Int).toNat:Nat):Int)),(63,.int .i64 z37)]) (h':=[(8,.row [.int .i64 x45.From,.int .i64 x45.To,.int .i64 x45.Unary,.int .i64 x45.Kind,.str x45.Name,.isl false (List.map (cI .i64) l74),.int .i64 x45.Lex.Kind,.str x45.Lex.Name,.int .i64 x45.Lex.From,.int .i64 x45.Lex.To,.isl false (List.map cGDeriv x45.Lex.Kids),.isl false (List.map cGNode x45.FS.Nodes)] 42),(7,.vec (List.map cGEdge l38).flatten 42 12 t39),(6,.row [.int .i64 p1.Words,.vl 7 t39 0 l38.length] 24),(5,.row (List.map (cI .i64) l28).flatten 3),(2,.row (List.map (cI .i64) r18).flatten 3),(1,.row [.int .i64 0,.nils] 24)]) 9 (.row (List.map (cI .i64) l74).flatten 3) 1 rfl (by simp) (by simp only [fzS,oneU,q0x,q0m,q1x,q12,q20,q16,q15,q14,q13,q0y,q1y,q1z,q1w,q21,q39,junkT,fz_rl (q2j .i64) h75,q5p,q0k,q3o (show Nat.beq 1 9=false from rfl),q3n (show Nat.beq 1 9=false from rfl),q3m (show Nat.beq 1 9=false from rfl),q3o (show Nat.beq 2 9=false from rfl),q3n (show Nat.beq 2 9=false from rfl),q3m (show Nat.beq 2 9=false from rfl),q3o (show Nat.beq 5 9=false from rfl),q3n (show Nat.beq 5 9=false from rfl),q3m (show Nat.beq 5 9=false from rfl),q3o (show Nat.beq 6 9=false from rfl),q3n (show Nat.beq 6 9=false from rfl),q3m (show Nat.beq 6 9=false from rfl),q3o (show Nat.beq 7 9=false from rfl),q3n (show Nat.beq 7 9=false from rfl),q3m (show Nat.beq 7 9=false from rfl),q3o (show Nat.beq 8 9=false from rfl),q3n (show Nat.beq 8 9=false from rfl),q3m (show Nat.beq 8 9=false from rfl),q1n _ _ _ (q29 9 (fun q=>q5y _ q) l38),q1n _ _ _ (q29 9 (fun q=>q5t _ .i64 q) l28),q1n _ _ _ (q29 9 (fun q=>q5t _ .i64 q) r18)]) (by simp only [fzH,fzB,ug,Nat.beq,cond_true,cond_false,oneU,q0x,q0m,q1x,q12,q20,q16,q15,q14,q13,q0y,q1y,q1z,q1w,q21,q39,junkT,fz_rl (q2j .i64) h75,q5p,q0k,q3o (show Nat.beq 1 9=false from rfl),q3n (show Nat.beq 1 9=false from rfl),q3m (show Nat.beq 1 9=false from rfl),q3o (show Nat.beq 2 9=false from rfl),q3n (show Nat.beq 2 9=false from rfl),q3m (show Nat.beq 2 9=false from rfl),q3o (show Nat.beq 5 9=false from rfl),q3n (show Nat.beq 5 9=false from rfl),q3m (show Nat.beq 5 9=false from rfl),q3o (show Nat.beq 6 9=false from rfl),q3n (show Nat.beq 6 9=false from rfl),q3m (show Nat.beq 6 9=false from rfl),q3o (show Nat.beq 7 9=false from rfl),q3n (show Nat.beq 7 9=false from rfl),q3m (show Nat.beq 7 9=false from rfl),q3o (show Nat.beq 8 9=false from rfl),q3n (show Nat.beq 8 9=false from rfl),q3m (show Nat.beq 8 9=false from rfl),q1n _ _ _ (q29 9 (fun q=>q5y _ q) l38),q1n _ _ _ (q29 9 (fun q=>q5t _ .i64 q) l28),q1n _ _ _ (q29 9 (fun q=>q5t _ .i64 q) r18)]))) (Nat.zero_le _) ?_
 refine st ?_
 obtain ⟨h76,hF⟩:=q0v hF
 refine sr ?_
 refine RS.q (u:=.ptr 6 0 1) rfl (q07 und24 rfl (q01 inf22) rfl rfl rfl) (RS.q (u:=.vl 7 t39 0 l38.length) rfl (q05 und22 rfl rfl rfl rfl) (RS.q (u:=.agg [.int .i64 x45.From,.int .i64 x45.To,.int .i64 x45.Unary,.int .i64 x45.Kind,.str x45.Name,.isl false (List.map (cI .i64) l74),.int .i64 x45.Lex.Kind,.str x45.Lex.Name,.int .i64 x45.Lex.From,.int .i64 x45.Lex.To,.isl false (List.map cGDeriv x45.Lex.Kids),.isl false (List.map cGNode x45.FS.Nodes)]) rfl (q0o und42 rfl (q01 inf42) rfl rfl rfl) (RS.q (u:=.sl 10 0 1 1) (σ':=⟨[(10,.row [.int .i64 x45.From,.int .i64 x45.To,.int .i64 x45.Unary,.int .i64 x45.Kind,.str x45.Name,.isl false (List.map (cI .i64) l74),.int .i64 x45.Lex.Kind,.str x45.Lex.Name,.int .i64 x45.Lex.From,.int .i64 x45.Lex.To,.isl false (List.map cGDeriv x45.Lex.Kids),.isl false (List.map cGNode x45.FS.Nodes)] 42),(8,.row [.int .i64 x45.From,.int .i64 x45.To,.int .i64 x45.Unary,.int .i64 x45.Kind,.str x45.Name,.isl false (List.map (cI .i64) l74),.int .i64 x45.Lex.Kind,.str x45.Lex.Name,.int .i64 x45.Lex.From,.int .i64 x45.Lex.To,.isl false (List.map cGDeriv x45.Lex.Kids),.isl false (List.map cGNode x45.FS.Nodes)] 42),(7,.vec (List.map cGEdge l38).flatten 42 12 t39),(6,.row [.int .i64 p1.Words,.vl 7 t39 0 l38.length] 24),(5,.row (List.map (cI .i64) l28).flatten 3),(2,.row (List.map (cI .i64) r18).flatten 3),(1,.row [.int .i64 0,.nils] 24)],11⟩) rfl (q71 und22 inf42 rfl rfl rfl rfl rfl rfl rfl) (RS.q (u:=.vl 7 (t39+1) 0 ((l38++[(GEdge.mk x45.From x45.To x45.Unary x45.Kind x45.Name l74 x45.Lex x45.FS)]).length)) (σ':=⟨[(10,.row [.int .i64 x45.From,.int .i64 x45.To,.int .i64 x45.Unary,.int .i64 x45.Kind,.str x45.Name,.isl false (List.map (cI .i64) l74),.int .i64 x45.Lex.Kind,.str x45.Lex.Name,.int .i64 x45.Lex.From,.int .i64 x45.Lex.To,.isl false (List.map cGDeriv x45.Lex.Kids),.isl false (List.map cGNode x45.FS.Nodes)] 42),(8,.row [.int .i64 x45.From,.int .i64 x45.To,.int .i64 x45.Unary,.int .i64 x45.Kind,.str x45.Name,.isl false (List.map (cI .i64) l74),.int .i64 x45.Lex.Kind,.str x45.Lex.Name,.int .i64 x45.Lex.From,.int .i64 x45.Lex.To,.isl false (List.map cGDeriv x45.Lex.Kids),.isl false (List.map cGNode x45.FS.Nodes)] 42),(7,.vec (List.map cGEdge (l38++[(GEdge.mk x45.From x45.To x45.Unary x45.Kind x45.Name l74 x45.Lex x45.FS)])).flatten 42 12 (t39+1)),(6,.row [.int .i64 p1.Words,.vl 7 t39 0 l38.length] 24),(5,.row (List.map (cI .i64) l28).flatten 3),(2,.row (List.map (cI .i64) r18).flatten 3),(1,.row [.int .i64 0,.nils] 24)],11⟩) rfl (op_app rfl rfl rfl rfl (app_vl cGEdge ([(GEdge.mk x45.From x45.To x45.Unary x45.Kind x45.Name l74 x45.Lex x45.FS)]) und22 und22 inf42 rfl q0f rfl (qbz cGEdge [(GEdge.mk x45.From x45.To x45.Unary x45.Kind x45.Name l74 x45.Lex x45.FS)] rfl rfl rfl rfl) h76)) (RS.q (u:=.ptr 6 0 1) rfl (q07 und24 rfl (q01 inf22) rfl rfl rfl) (RS.opn (u:=.junk) (σ':=⟨[(10,.row [.int .i64 x45.From,.int .i64 x45.To,.int .i64 x45.Unary,.int .i64 x45.Kind,.str x45.Name,.isl false (List.map (cI .i64) l74),.int .i64 x45.Lex.Kind,.str x45.Lex.Name,.int .i64 x45.Lex.From,.int .i64 x45.Lex.To,.isl false (List.map cGDeriv x45.Lex.Kids),.isl false (List.map cGNode x45.FS.Nodes)] 42),(8,.row [.int .i64 x45.From,.int .i64 x45.To,.int .i64 x45.Unary,.int .i64 x45.Kind,.str x45.Name,.isl false (List.map (cI .i64) l74),.int .i64 x45.Lex.Kind,.str x45.Lex.Name,.int .i64 x45.Lex.From,.int .i64 x45.Lex.To,.isl false (List.map cGDeriv x45.Lex.Kids),.isl false (List.map cGNode x45.FS.Nodes)] 42),(7,.vec (List.map cGEdge (l38++[(GEdge.mk x45.From x45.To x45.Unary x45.Kind x45.Name l74 x45.Lex x45.FS)])).flatten 42 12 (t39+1)),(6,.row [.int .i64 p1.Words,.vl 7 (t39+1) 0 ((l38++[(GEdge.mk x45.From x45.To x45.Unary x45.Kind x45.Name l74 x45.Lex x45.FS)]).length)] 24),(5,.row (List.map (cI .i64) l28).flatten 3),(2,.row (List.map (cI .i64) r18).flatten 3),(1,.row [.int .i64 0,.nils] 24)],11⟩) rfl (q0h (q01 inf22) rfl rfl rfl rfl rfl rfl rfl rfl) rfl ?_))))))
 refine se ?_
 refine RS.q rfl (q02 rfl rfl (q35 _ _ _) rfl) (RS.mv rfl rfl rfl rfl ?_)
 refine sd ?_
 exact ⟨m3,_,_,Nat.lt_succ_self _,⟨(IntKind.i64.wrap (z37+1)),(l38++[(GEdge.mk x45.From x45.To x45.Unary x45.Kind x45.Name l74 x45.Lex x45.FS)]),(t39+1),hF,rfl,rfl⟩,(Nat.zero_le _),Gh.toC (n1:=8) ⟨rfl,rfl,rfl,rfl,rfl,rfl,rfl,trivial⟩ rfl (Nat.zero_le _) (by simp)⟩
 rintro m4 _ _ ⟨z72,l73,hF,rfl,rfl⟩
 rcases m4 with _ | m4
 cases hF
 unfold q3d at hF
 refine sr ?_
 refine RS.q rfl (q02 rfl rfl (q1q _ _ _) rfl) ?_
 refine sd ?_
 refine WPU.condS (t:=(decide (z72<(x45.Kids.length:Int)))) rfl (fun h77=>?_) (fun h77=>?_)
 replace hF:=q0a h77 hF
 refine st ?_
 refine WPU.skip ?_
 refine st ?_
 refine WPU.block ?_
 refine st ?_
 obtain ⟨x78,h79,hF⟩:=q00 hF
 refine sr ?_
 refine RS.q (u:=.iptr [.int .i64 x78]) rfl (q1e rfl rfl (q0p (cI .i64) und34 (q01 inf3) (q2j .i64) h79 rfl)) (RS.q (u:=.int .i64 x78) rfl (q19 und3 rfl rfl rfl) ?_)
 repeat refine RS.as rfl rfl rfl rfl ?_
 refine sd ?_
 obtain ⟨x80,h81,hF⟩:=q00 hF
 obtain ⟨x82,h83,hF⟩:=q00 hF
 refine sr ?_
 repeat refine RS.mv rfl rfl rfl rfl ?_
 refine RS.q (u:=.ptr 5 0 (0*1+x78.toNat*1)) rfl (q1e rfl rfl (ia_rl und34 (q01 inf3) rfl h81)) (RS.q (u:=.int .i64 x80) rfl (ld_rl1 (cI .i64) (fun x=>.int .i64 x) und3 rfl (fun _=>rfl) rfl rfl h81) (RS.q (u:=.ptr 9 0 (0*1+z72.toNat*1)) rfl (q1e rfl rfl (ia_rl und34 (q01 inf3) rfl h83)) (RS.opn (u:=.junk) (σ':=⟨[(9,.row (List.map (cI .i64) (l73.set z72.toNat x80)).flatten 3),(8,.row (cGEdge x45) 42),(7,.vec (List.map cGEdge l38).flatten 42 12 t39),(6,.row [.int .i64 p1.Words,.vl 7 t39 0 l38.length] 24),(5,.row (List.map (cI .i64) l28).flatten 3),(2,.row (List.map (cI .i64) r18).flatten 3),(1,.row [.int .i64 0,.nils] 24)],10⟩) rfl (st_rl (cI .i64) (q01 inf3) (q2j .i64) rfl rfl rfl rfl rfl rfl h83 rfl) rfl ?_)))
 refine se ?_
 refine RS.q rfl (q02 rfl rfl (q35 _ _ _) rfl) (RS.mv rfl rfl rfl rfl ?_)
 refine sd ?_
 exact ⟨m4,_,_,Nat.lt_succ_self _,⟨(IntKind.i64.wrap (z72+1)),(l73.set z72.toNat x80),hF,rfl,rfl⟩,(Nat.zero_le _),Gh.toC (n1:=10) ⟨rfl,rfl,rfl,rfl,rfl,rfl,rfl,rfl,rfl,rfl,rfl,rfl,trivial⟩ rfl (Nat.zero_le _) (by simp)⟩
 replace hF:=q09 h77 hF
 refine st ?_
 refine WPU.exit ?_
 refine st ?_
 exact ⟨_,_,⟨l73,hF,rfl,rfl⟩,(Nat.zero_le _),Gh.toC (n1:=10) ⟨rfl,rfl,rfl,rfl,rfl,rfl,rfl,rfl,rfl,trivial⟩ rfl (Nat.zero_le _) (by simp)⟩
 replace hF:=q09 h42 hF
 refine st ?_
 refine WPU.exit ?_
 refine st ?_
 exact ⟨_,_,⟨l38,t39,hF,rfl,rfl⟩,(Nat.zero_le _),Gh.toC (n1:=8) ⟨rfl,rfl,trivial⟩ rfl (Nat.zero_le _) (by simp)⟩
 rintro m2 _ _ ⟨z26,l27,hF,rfl,rfl⟩
 rcases m2 with _ | m2
 cases hF
 unfold q2t at hF
 refine sr ?_
 refine RS.q rfl (q02 rfl rfl (q1q _ _ _) rfl) ?_
 refine sd ?_
 refine WPU.condS (t:=(decide (z26<(((p1.Edges.length:Int).toNat:Nat):Int)))) rfl (fun h84=>?_) (fun h84=>?_)
 replace hF:=q0a h84 hF
 refine st ?_
 refine WPU.skip ?_
 refine st ?_
 refine WPU.block ?_
 refine st ?_
 obtain ⟨x85,h86,hF⟩:=q00 hF
 refine sr ?_
 refine RS.q (u:=.ptr 2 0 (0*1+z26.toNat*1)) rfl (q1e rfl rfl (ia_rl und34 (q01 inf3) rfl h86)) (RS.q (u:=.int .i64 x85) rfl (ld_rl1 (cI .i64) (fun x=>.int .i64 x) und3 rfl (fun _=>rfl) rfl rfl h86) ?_)
 repeat refine RS.as rfl rfl rfl rfl ?_
 refine sd ?_
 obtain ⟨x87,h88,hF⟩:=q00 hF
 refine sr ?_
 repeat refine RS.mv rfl rfl rfl rfl ?_
 refine RS.q (u:=.ptr 5 0 (0*1+x85.toNat*1)) rfl (q1e rfl rfl (ia_rl und34 (q01 inf3) rfl h88)) (RS.opn (u:=.junk) (σ':=⟨[(5,.row (List.map (cI .i64) (l27.set x85.toNat z26)).flatten 3),(2,.row (List.map (cI .i64) r18).flatten 3),(1,.row [.int .i64 0,.nils] 24)],6⟩) rfl (st_rl (cI .i64) (q01 inf3) (q2j .i64) rfl rfl rfl rfl rfl rfl h88 rfl) rfl ?_)
 refine se ?_
 refine RS.q rfl (q02 rfl rfl (q35 _ _ _) rfl) (RS.mv rfl rfl rfl rfl ?_)
 refine sd ?_
 exact ⟨m2,_,_,Nat.lt_succ_self _,⟨(IntKind.i64.wrap (z26+1)),(l27.set x85.toNat z26),hF,rfl,rfl⟩,(Nat.zero_le _),Gh.toC (n1:=6) ⟨rfl,rfl,rfl,rfl,rfl,rfl,rfl,trivial⟩ rfl (Nat.zero_le _) (by simp)⟩
 replace hF:=q09 h84 hF
 refine st ?_
 refine WPU.exit ?_
 refine st ?_
 exact ⟨_,_,⟨l27,hF,rfl,rfl⟩,(Nat.zero_le _),Gh.toC (n1:=6) ⟨rfl,rfl,rfl,rfl,trivial⟩ rfl (Nat.zero_le _) (by simp)⟩
 rintro m1 _ _ ⟨z11,l12,l13,hF,rfl,rfl⟩
 rcases m1 with _ | m1
 cases hF
 unfold q3c at hF
 refine sr ?_
 refine RS.q rfl (q02 rfl rfl (q1q _ _ _) rfl) ?_
 refine sd ?_
 refine WPU.condS (t:=(decide (z11<(((p1.Edges.length:Int).toNat:Nat):Int)))) rfl (fun h89=>?_) (fun h89=>?_)
 replace hF:=q0a h89 hF
 refine st ?_
 refine WPU.skip ?_
 refine st ?_
 refine WPU.block ?_
 refine sr ?_
 refine sd ?_
 obtain ⟨r90,h91,hF⟩:=q00 hF
 obtain ⟨x92,h93,hF⟩:=q00 hF
 obtain ⟨x94,h95,hF⟩:=q00 hF
 refine WPU.drawE Try.tb_ok [(2,9),(3,9)] (by kernel_rfl) ?_
 repeat refine RD.mv rfl rfl rfl rfl ?_
 refine RD.q (u:=.sl 3 0 ((p1.Edges.length:Int).toNat) ((p1.Edges.length:Int).toNat)) rfl (q05 und35 rfl rfl rfl rfl) ?_
 repeat refine RD.mv rfl rfl rfl rfl ?_
 refine RD.q (u:=.agg (cGChart p1)) rfl (q0o und24 rfl (q01 inf24) rfl rfl rfl) (RD.mv rfl rfl rfl rfl (RD.free (u:=.agg (xGDeriv r90)) (args:=[.agg (cGChart p1),.int .i64 z11]) rfl (q0b rfl rfl fn22 hb22 rfl rfl) (fun s=>q6t n p1 z11 r90 h91 s) rfl rfl (RD.q (u:=.ptr 2 0 (0*1+z11.toNat*1)) rfl (q1e rfl rfl (ia_rl und34 (q01 inf3) rfl h93)) (RD.actn (u:=.junk) (σ':=⟨[(4,.row [.sl 3 0 ((p1.Edges.length:Int).toNat) ((p1.Edges.length:Int).toNat)] 35),(3,.row (List.map cGDeriv l12).flatten 37),(2,.row (List.map (cI .i64) (l13.set z11.toNat z11)).flatten 3),(1,.row [.int .i64 0,.nils] 24),(0,.row (cGChart p1) 24)],5⟩) rfl (st_rl (cI .i64) (q01 inf3) (q2j .i64) rfl rfl rfl rfl rfl rfl h93 rfl) rfl (RD.q (u:=.ptr 3 0 (0*5+z11.toNat*5)) rfl (q1e rfl rfl (ia_rl und35 (q01 inf37) rfl h95)) ?_)))))
 refine RD.actn (u:=.junk) (σ':=⟨[(4,.row [.sl 3 0 ((p1.Edges.length:Int).toNat) ((p1.Edges.length:Int).toNat)] 35),(3,.row (List.map cGDeriv (l12.set z11.toNat r90)).flatten 37),(2,.row (List.map (cI .i64) (l13.set z11.toNat z11)).flatten 3),(1,.row [.int .i64 0,.nils] 24),(0,.row (cGChart p1) 24)],5⟩) rfl (st_rl cGDeriv (q01 inf37) q17 rfl rfl rfl rfl (by simp only [q1j,xGDeriv,GDeriv.Kind,GDeriv.Name,GDeriv.From,GDeriv.To,GDeriv.Kids]<;>rfl) rfl h95 rfl) rfl ?_
 refine RD.done ⟨by kernel_rfl,⟨q05 und35 rfl rfl rfl rfl,⟨q06 rfl,trivial⟩⟩,?_⟩
 refine sr ?_
 refine RS.q rfl (q02 rfl rfl (q35 _ _ _) rfl) (RS.mv rfl rfl rfl rfl ?_)
 refine sd ?_
 exact ⟨m1,_,_,Nat.lt_succ_self _,⟨(IntKind.i64.wrap (z11+1)),(l12.set z11.toNat r90),(l13.set z11.toNat z11),hF,rfl,rfl⟩,(Nat.zero_le _),Gh.toC (n1:=5) ⟨rfl,rfl,rfl,rfl,rfl,rfl,trivial⟩ rfl (Nat.zero_le _) (by simp)⟩
 replace hF:=q09 h89 hF
 refine st ?_
 refine WPU.exit ?_
 refine st ?_
 exact ⟨_,_,⟨l12,l13,hF,rfl,rfl⟩,(Nat.zero_le _),Gh.toC (n1:=5) ⟨rfl,rfl,rfl,rfl,trivial⟩ rfl (Nat.zero_le _) (by simp)⟩
theorem q8g (n:Nat) (p1:GChart) (r:GChart) (hF:q4e n p1=some r) (σ:Sg):EvU Try.prog 25 [.agg (cGChart p1)] σ (fun u σ'=>u = .agg (cGChart r)∧σ'=σ) :=
 EvU.pure1C (chart_Canon_0 n p1 r hF) σ
def q1h (n:Nat)  : Option (Bool) :=
 bindO (q5j n 0) fun r1 =>
 bindO (q5j n 33) fun r3 =>
 bindO (q5j n 2) fun r5 =>
 bindO (q62 n ([97]) 0 1) fun r7 =>
 bindO (q31 n (GChart.mk r5.1.Words r5.1.Edges) r7) fun r9 =>
 bindO (q62 n ([98]) 1 2) fun r11 =>
 bindO (q31 n (GChart.mk r9.1.Words r9.1.Edges) r11) fun r13 =>
 bindO (q62 n ([98]) 1 2) fun r15 =>
 bindO (q31 n (GChart.mk r13.1.Words r13.1.Edges) r15) fun r17 =>
 bindO (q31 n (GChart.mk r13.1.Words r13.1.Edges) (GEdge.mk 0 2 0 2 ([115]) ([0,1]) (GDeriv.mk 0 [] 0 0 []) (GFS.mk []))) fun r19 =>
 bindO (q31 n (GChart.mk r19.1.Words r19.1.Edges) (GEdge.mk 0 1 1 2 ([110]) ([0]) (GDeriv.mk 0 [] 0 0 []) (GFS.mk []))) fun r21 =>
 bindO (q31 n (GChart.mk r21.1.Words r21.1.Edges) (GEdge.mk 0 1 2 2 ([110]) ([3]) (GDeriv.mk 0 [] 0 0 []) (GFS.mk []))) fun r23 =>
 bindO (q31 n (GChart.mk r23.1.Words r23.1.Edges) (GEdge.mk 0 1 3 2 ([110]) ([4]) (GDeriv.mk 0 [] 0 0 []) (GFS.mk []))) fun r25 =>
 bindO (cond (r1.2 != 2)
  (some true)
  (cond (r3.2 != 2)
   (some true)
   (cond (r5.2 != 0)
    (some true)
    (cond (r9.2.2 != 0)
     (some true)
     (cond (r13.2.2 != 0)
      (some true)
      (cond (r17.2.2 != 4)
       (some true)
       (cond (r17.2.1 != 1)
        (some true)
        (cond (r19.2.2 != 0)
         (some true)
         (cond (r19.2.1 != 2)
          (some true)
          (cond (r21.2.2 != 0)
           (some true)
           (cond (r23.2.2 != 0)
            (some true)
            (some (r25.2.2 != 13))))))))))))) fun b38 =>
 cond b38
  (some false)
  (bindO (q58 n (GChart.mk r23.1.Words r23.1.Edges) 0) fun r41 =>
  bindO (q6m n (GChart.mk r23.1.Words r23.1.Edges) 2) fun r43 =>
  bindO (cond ((r41.length:Int) == 4)
   (bindO (idxO r41 1) fun x46 =>
   cond (x46 == 2)
    (cond ((r43.length:Int) == 2)
     (bindO (idxO r43 0) fun x50 =>
     cond (x50 == 1)
      (bindO (idxO r43 1) fun x53 =>
      cond (x53 == 2)
       (bindO (q2l n (GChart.mk r23.1.Words r23.1.Edges) 2) fun r56 =>
       bindO (q3p n r56) fun r58 =>
       cond (bytesEq r58 ([40,115,32,48,32,50,32,40,97,32,48,32,49,41,32,40,98,32,49,32,50,41,41]))
        (bindO (q4e n (GChart.mk r23.1.Words r23.1.Edges)) fun r61 =>
        bindO (idxO r61.Edges 4) fun x63 =>
        some (bytesEq x63.Name ([115])))
        (some false))
       (some false))
      (some false))
     (some false))
    (some false))
   (some false)) fun b65 =>
  some b65)
theorem q8f (n:Nat)  (r:Bool) (hF:q1h n  = some r):EvU Try.prog 12 [] ⟨[],0⟩ (fun u _=>u = .bool r∧Bel 0 u):=by
 unfold q1h at hF
 refine EvU.of_body Try.tb_ok fn12 rfl ?_
 refine WPU.ghost (tm':=fr 181 []) (Gh.start (Nat.le_of_ble_eq_true rfl)) (Nat.zero_le _) ?_
 refine sr ?_
 refine sd ?_
 obtain ⟨r1,h2,hF⟩:=q00 hF
 refine sr ?_
 refine RS.call (u:=.tup [.agg (cGChart r1.1),.int .i64 r1.2]) (args:=[.int .i64 0]) rfl (q0b rfl rfl fn9 hb9 rfl rfl) (q6n n 0 r1 h2 _) rfl rfl (RS.mv rfl rfl rfl rfl (RS.q rfl (q1f rfl rfl) (RS.q rfl (q1f rfl rfl) (RS.q (u:=.ptr 0 0 0) (σ':=⟨[(0,.row [.int .i64 0,.nils] 24)],1⟩) rfl (q1i inf24 rfl rfl) (RS.opn (u:=.junk) (σ':=⟨[(0,.row (cGChart r1.1) 24)],1⟩) rfl (q0h (q01 inf24) rfl rfl rfl rfl rfl rfl rfl rfl) rfl ?_)))))
 refine sd ?_
 obtain ⟨r3,h4,hF⟩:=q00 hF
 refine sr ?_
 refine RS.call (u:=.tup [.agg (cGChart r3.1),.int .i64 r3.2]) (args:=[.int .i64 33]) rfl (q0b rfl rfl fn9 hb9 rfl rfl) (q6n n 33 r3 h4 _) rfl rfl (RS.mv rfl rfl rfl rfl (RS.q rfl (q1f rfl rfl) (RS.q rfl (q1f rfl rfl) (RS.q (u:=.ptr 1 0 0) (σ':=⟨[(1,.row [.int .i64 0,.nils] 24),(0,.row (cGChart r1.1) 24)],2⟩) rfl (q1i inf24 rfl rfl) (RS.opn (u:=.junk) (σ':=⟨[(1,.row (cGChart r3.1) 24),(0,.row (cGChart r1.1) 24)],2⟩) rfl (q0h (q01 inf24) rfl rfl rfl rfl rfl rfl rfl rfl) rfl ?_)))))
 refine sd ?_
 obtain ⟨r5,h6,hF⟩:=q00 hF
 refine sr ?_
 refine RS.call (u:=.tup [.agg (cGChart r5.1),.int .i64 r5.2]) (args:=[.int .i64 2]) rfl (q0b rfl rfl fn9 hb9 rfl rfl) (q6n n 2 r5 h6 _) rfl rfl (RS.mv rfl rfl rfl rfl (RS.q rfl (q1f rfl rfl) (RS.q rfl (q1f rfl rfl) (RS.q (u:=.ptr 2 0 0) (σ':=⟨[(2,.row [.int .i64 0,.nils] 24),(1,.row (cGChart r3.1) 24),(0,.row (cGChart r1.1) 24)],3⟩) rfl (q1i inf24 rfl rfl) (RS.opn (u:=.junk) (σ':=⟨[(2,.row (cGChart r5.1) 24),(1,.row (cGChart r3.1) 24),(0,.row (cGChart r1.1) 24)],3⟩) rfl (q0h (q01 inf24) rfl rfl rfl rfl rfl rfl rfl rfl) rfl ?_)))))
 refine sd ?_
 obtain ⟨r7,h8,hF⟩:=q00 hF
 obtain ⟨r9,h10,hF⟩:=q00 hF
 refine WPU.drawE Try.tb_ok [(5,7),(6,7)] (by kernel_rfl) ?_
 refine RD.q (u:=.agg (cGChart r5.1)) rfl (q0o und24 rfl (q01 inf24) rfl rfl rfl) (RD.free (u:=.agg (cGEdge r7)) (args:=[.str ([97]),.int .i64 0,.int .i64 1]) rfl (q0b rfl rfl fn31 hb31 rfl rfl) (fun s=>q78 n ([97]) 0 1 r7 h8 s) rfl rfl (RD.free (u:=.tup [.agg (cGChart r9.1),.int .i64 r9.2.1,.int .i64 r9.2.2]) (args:=[.agg (cGChart r5.1),.agg (cGEdge r7)]) rfl (q0b rfl rfl fn14 hb14 rfl rfl) (fun s=>q34 n (GChart.mk r5.1.Words r5.1.Edges) r7 r9 h10 s) rfl rfl (RD.mv rfl rfl rfl rfl (RD.q rfl (q1f rfl rfl) (RD.q rfl (q1f rfl rfl) (RD.q rfl (q1f rfl rfl) (RD.actn (u:=.junk) (σ':=⟨[(2,.row (cGChart r9.1) 24),(1,.row (cGChart r3.1) 24),(0,.row (cGChart r1.1) 24)],3⟩) rfl (q0h (q01 inf24) rfl rfl rfl rfl rfl rfl rfl rfl) rfl ?_)))))))
 repeat refine RD.as rfl rfl rfl rfl ?_
 refine RD.done ⟨by kernel_rfl,⟨q1f rfl rfl,⟨q1f rfl rfl,trivial⟩⟩,?_⟩
 refine st ?_
 obtain ⟨r11,h12,hF⟩:=q00 hF
 obtain ⟨r13,h14,hF⟩:=q00 hF
 refine WPU.drawE Try.tb_ok [(5,7),(6,7)] (by kernel_rfl) ?_
 refine RD.q (u:=.agg (cGChart r9.1)) rfl (q0o und24 rfl (q01 inf24) rfl rfl rfl) (RD.free (u:=.agg (cGEdge r11)) (args:=[.str ([98]),.int .i64 1,.int .i64 2]) rfl (q0b rfl rfl fn31 hb31 rfl rfl) (fun s=>q78 n ([98]) 1 2 r11 h12 s) rfl rfl (RD.free (u:=.tup [.agg (cGChart r13.1),.int .i64 r13.2.1,.int .i64 r13.2.2]) (args:=[.agg (cGChart r9.1),.agg (cGEdge r11)]) rfl (q0b rfl rfl fn14 hb14 rfl rfl) (fun s=>q34 n (GChart.mk r9.1.Words r9.1.Edges) r11 r13 h14 s) rfl rfl (RD.mv rfl rfl rfl rfl (RD.q rfl (q1f rfl rfl) (RD.q rfl (q1f rfl rfl) (RD.q rfl (q1f rfl rfl) (RD.actn (u:=.junk) (σ':=⟨[(2,.row (cGChart r13.1) 24),(1,.row (cGChart r3.1) 24),(0,.row (cGChart r1.1) 24)],3⟩) rfl (q0h (q01 inf24) rfl rfl rfl rfl rfl rfl rfl rfl) rfl ?_)))))))
 repeat refine RD.as rfl rfl rfl rfl ?_
 refine RD.done ⟨by kernel_rfl,⟨q1f rfl rfl,⟨q1f rfl rfl,trivial⟩⟩,?_⟩
 refine st ?_
 obtain ⟨r15,h16,hF⟩:=q00 hF
 obtain ⟨r17,h18,hF⟩:=q00 hF
 refine WPU.drawE Try.tb_ok [(0,7),(3,7),(4,7),(5,7),(5,8),(6,7),(6,8)] (by kernel_rfl) ?_
 refine RD.q (u:=.agg (cGChart r13.1)) rfl (q0o und24 rfl (q01 inf24) rfl rfl rfl) (RD.free (u:=.agg (cGEdge r15)) (args:=[.str ([98]),.int .i64 1,.int .i64 2]) rfl (q0b rfl rfl fn31 hb31 rfl rfl) (fun s=>q78 n ([98]) 1 2 r15 h16 s) rfl rfl (RD.free (u:=.tup [.agg (cGChart r17.1),.int .i64 r17.2.1,.int .i64 r17.2.2]) (args:=[.agg (cGChart r13.1),.agg (cGEdge r15)]) rfl (q0b rfl rfl fn14 hb14 rfl rfl) (fun s=>q34 n (GChart.mk r13.1.Words r13.1.Edges) r15 r17 h18 s) rfl rfl (RD.mv rfl rfl rfl rfl (RD.q rfl (q1f rfl rfl) (RD.q rfl (q1f rfl rfl) (RD.q rfl (q1f rfl rfl) (RD.act (u:=.ptr 3 0 0) (σ':=⟨[(3,.row [.int .i64 0,.nils] 24),(2,.row (cGChart r13.1) 24),(1,.row (cGChart r3.1) 24),(0,.row (cGChart r1.1) 24)],4⟩) rfl (q1i inf24 rfl rfl) rfl rfl ?_)))))))
 refine RD.actn (u:=.junk) (σ':=⟨[(3,.row (cGChart r17.1) 24),(2,.row (cGChart r13.1) 24),(1,.row (cGChart r3.1) 24),(0,.row (cGChart r1.1) 24)],4⟩) rfl (q0h (q01 inf24) rfl rfl rfl rfl rfl rfl rfl rfl) rfl ?_
 repeat refine RD.as rfl rfl rfl rfl ?_
 refine RD.done ⟨by kernel_rfl,⟨q0o und24 rfl (q01 inf24) rfl rfl rfl,⟨q06 rfl,⟨q1f rfl rfl,⟨q1f rfl rfl,⟨q1f rfl rfl,⟨q1f rfl rfl,⟨q1f rfl rfl,trivial⟩⟩⟩⟩⟩⟩⟩,?_⟩
 refine st ?_
 obtain ⟨r19,h20,hF⟩:=q00 hF
 refine sr ?_
 refine RS.q (u:=.agg (cGChart r13.1)) rfl (q0o und24 rfl (q01 inf24) rfl rfl rfl) (RS.q (u:=.sl 4 0 2 2) (σ':=⟨[(4,.row [.int .i64 0,.int .i64 1] 3),(3,.row (cGChart r17.1) 24),(2,.row (cGChart r13.1) 24),(1,.row (cGChart r3.1) 24),(0,.row (cGChart r1.1) 24)],5⟩) rfl (q71 und34 inf3 rfl rfl rfl rfl rfl rfl rfl) (RS.q (u:=.agg [.int .i64 0,.int .i64 2,.int .i64 0,.int .i64 2,.str ([115]),.sl 4 0 2 2,.int .i64 0,.str [],.int .i64 0,.int .i64 0,.nils,.nils]) rfl (q7g bd42 rfl rfl rfl) ?_))
 refine RS.fcall (u:=.tup [.agg (cGChart r19.1),.int .i64 r19.2.1,.int .i64 r19.2.2]) (args:=[.agg (cGChart r13.1),.agg [.int .i64 0,.int .i64 2,.int .i64 0,.int .i64 2,.str ([115]),.sl 4 0 2 2,.int .i64 0,.str [],.int .i64 0,.int .i64 0,.nils,.nils]]) (σ1:=⟨[(3,.row (cGChart r17.1) 24),(2,.row (cGChart r13.1) 24),(1,.row (cGChart r3.1) 24),(0,.row (cGChart r1.1) 24)],5⟩) rfl (q0b rfl rfl fn14 hb14 rfl rfl) (Gh.trans (Gh.fz (tm':=[.agg (cGChart r13.1),.agg [.int .i64 0,.int .i64 2,.int .i64 0,.int .i64 2,.str ([115]),.isl false (List.map (cI .i64) ([0,1])),.int .i64 0,.str [],.int .i64 0,.int .i64 0,.nils,.nils]]) (h':=[(3,.row (cGChart r17.1) 24),(2,.row (cGChart r13.1) 24),(1,.row (cGChart r3.1) 24),(0,.row (cGChart r1.1) 24)]) 4 (.row [.int .i64 0,.int .i64 1] 3) 1 rfl (by simp) (by simp only [oneU,q0x,q0m,q1x,q12,q20,q16,q15,q14,q13,q0y,q1y,q1z,q1w,q21,q39,junkT,q69,q6h,q0k,Nat.reduceLeDiff,Nat.reduceMul,List.length_cons,List.length_nil,Nat.reduceAdd]<;>simp only [chunks,List.take,List.drop,List.map,cI,cB,cS,cL]) (by simp only [fzH,fzB,ug,Nat.beq,cond_true,cond_false,oneU,q0x,q0m,q1x,q12,q20,q16,q15,q14,q13,q0y,q1y,q1z,q1w,q21,q39,junkT,q69,q6h,q0k,Nat.reduceLeDiff,Nat.reduceMul,List.length_cons,List.length_nil,Nat.reduceAdd]<;>simp only [chunks,List.take,List.drop,List.map,cI,cB,cS,cL])) (Gh.wk (tm':=[.agg (cGChart r13.1),.agg [.int .i64 0,.int .i64 2,.int .i64 0,.int .i64 2,.str ([115]),.isl false (List.map (cI .i64) ([0,1])),.int .i64 0,.str [],.int .i64 0,.int .i64 0,.isl false [],.isl false []]]) (.cons (.refl _) (.cons (.agg (.cons (.refl _) (.cons (.refl _) (.cons (.refl _) (.cons (.refl _) (.cons (.refl _) (.cons (.refl _) (.cons (.refl _) (.cons (.refl _) (.cons (.refl _) (.cons (.refl _) (.cons (.nil false) (.cons (.nil false) .nil))))))))))))) .nil)))) (Nat.le_of_ble_eq_true rfl) (q34 n (GChart.mk r13.1.Words r13.1.Edges) (GEdge.mk 0 2 0 2 ([115]) ([0,1]) (GDeriv.mk 0 [] 0 0 []) (GFS.mk [])) r19 h20 _) rfl rfl ?_
 refine RS.mv rfl rfl rfl rfl (RS.q rfl (q1f rfl rfl) (RS.q rfl (q1f rfl rfl) (RS.q rfl (q1f rfl rfl) (RS.opn (u:=.junk) (σ':=⟨[(3,.row (cGChart r17.1) 24),(2,.row (cGChart r19.1) 24),(1,.row (cGChart r3.1) 24),(0,.row (cGChart r1.1) 24)],5⟩) rfl (q0h (q01 inf24) rfl rfl rfl rfl rfl rfl rfl rfl) rfl ?_))))
 repeat refine RS.as rfl rfl rfl rfl ?_
 refine sd ?_
 obtain ⟨r21,h22,hF⟩:=q00 hF
 refine sr ?_
 refine RS.q (u:=.agg (cGChart r19.1)) rfl (q0o und24 rfl (q01 inf24) rfl rfl rfl) (RS.q (u:=.sl 5 0 1 1) (σ':=⟨[(5,.row [.int .i64 0] 3),(3,.row (cGChart r17.1) 24),(2,.row (cGChart r19.1) 24),(1,.row (cGChart r3.1) 24),(0,.row (cGChart r1.1) 24)],6⟩) rfl (q71 und34 inf3 rfl rfl rfl rfl rfl rfl rfl) (RS.q (u:=.agg [.int .i64 0,.int .i64 1,.int .i64 1,.int .i64 2,.str ([110]),.sl 5 0 1 1,.int .i64 0,.str [],.int .i64 0,.int .i64 0,.nils,.nils]) rfl (q7g bd42 rfl rfl rfl) ?_))
 refine RS.fcall (u:=.tup [.agg (cGChart r21.1),.int .i64 r21.2.1,.int .i64 r21.2.2]) (args:=[.agg (cGChart r19.1),.agg [.int .i64 0,.int .i64 1,.int .i64 1,.int .i64 2,.str ([110]),.sl 5 0 1 1,.int .i64 0,.str [],.int .i64 0,.int .i64 0,.nils,.nils]]) (σ1:=⟨[(3,.row (cGChart r17.1) 24),(2,.row (cGChart r19.1) 24),(1,.row (cGChart r3.1) 24),(0,.row (cGChart r1.1) 24)],6⟩) rfl (q0b rfl rfl fn14 hb14 rfl rfl) (Gh.trans (Gh.fz (tm':=[.agg (cGChart r19.1),.agg [.int .i64 0,.int .i64 1,.int .i64 1,.int .i64 2,.str ([110]),.isl false (List.map (cI .i64) ([0])),.int .i64 0,.str [],.int .i64 0,.int .i64 0,.nils,.nils]]) (h':=[(3,.row (cGChart r17.1) 24),(2,.row (cGChart r19.1) 24),(1,.row (cGChart r3.1) 24),(0,.row (cGChart r1.1) 24)]) 5 (.row [.int .i64 0] 3) 1 rfl (by simp) (by simp only [oneU,q0x,q0m,q1x,q12,q20,q16,q15,q14,q13,q0y,q1y,q1z,q1w,q21,q39,junkT,q69,q6h,q0k,Nat.reduceLeDiff,Nat.reduceMul,List.length_cons,List.length_nil,Nat.reduceAdd]<;>simp only [chunks,List.take,List.drop,List.map,cI,cB,cS,cL]) (by simp only [fzH,fzB,ug,Nat.beq,cond_true,cond_false,oneU,q0x,q0m,q1x,q12,q20,q16,q15,q14,q13,q0y,q1y,q1z,q1w,q21,q39,junkT,q69,q6h,q0k,Nat.reduceLeDiff,Nat.reduceMul,List.length_cons,List.length_nil,Nat.reduceAdd]<;>simp only [chunks,List.take,List.drop,List.map,cI,cB,cS,cL])) (Gh.wk (tm':=[.agg (cGChart r19.1),.agg [.int .i64 0,.int .i64 1,.int .i64 1,.int .i64 2,.str ([110]),.isl false (List.map (cI .i64) ([0])),.int .i64 0,.str [],.int .i64 0,.int .i64 0,.isl false [],.isl false []]]) (.cons (.refl _) (.cons (.agg (.cons (.refl _) (.cons (.refl _) (.cons (.refl _) (.cons (.refl _) (.cons (.refl _) (.cons (.refl _) (.cons (.refl _) (.cons (.refl _) (.cons (.refl _) (.cons (.refl _) (.cons (.nil false) (.cons (.nil false) .nil))))))))))))) .nil)))) (Nat.le_of_ble_eq_true rfl) (q34 n (GChart.mk r19.1.Words r19.1.Edges) (GEdge.mk 0 1 1 2 ([110]) ([0]) (GDeriv.mk 0 [] 0 0 []) (GFS.mk [])) r21 h22 _) rfl rfl ?_
 refine RS.mv rfl rfl rfl rfl (RS.q rfl (q1f rfl rfl) (RS.q rfl (q1f rfl rfl) (RS.q rfl (q1f rfl rfl) (RS.opn (u:=.junk) (σ':=⟨[(3,.row (cGChart r17.1) 24),(2,.row (cGChart r21.1) 24),(1,.row (cGChart r3.1) 24),(0,.row (cGChart r1.1) 24)],6⟩) rfl (q0h (q01 inf24) rfl rfl rfl rfl rfl rfl rfl rfl) rfl ?_))))
 repeat refine RS.as rfl rfl rfl rfl ?_
 refine sd ?_
 obtain ⟨r23,h24,hF⟩:=q00 hF
 refine sr ?_
 refine RS.q (u:=.agg (cGChart r21.1)) rfl (q0o und24 rfl (q01 inf24) rfl rfl rfl) (RS.q (u:=.sl 6 0 1 1) (σ':=⟨[(6,.row [.int .i64 3] 3),(3,.row (cGChart r17.1) 24),(2,.row (cGChart r21.1) 24),(1,.row (cGChart r3.1) 24),(0,.row (cGChart r1.1) 24)],7⟩) rfl (q71 und34 inf3 rfl rfl rfl rfl rfl rfl rfl) (RS.q (u:=.agg [.int .i64 0,.int .i64 1,.int .i64 2,.int .i64 2,.str ([110]),.sl 6 0 1 1,.int .i64 0,.str [],.int .i64 0,.int .i64 0,.nils,.nils]) rfl (q7g bd42 rfl rfl rfl) ?_))
 refine RS.fcall (u:=.tup [.agg (cGChart r23.1),.int .i64 r23.2.1,.int .i64 r23.2.2]) (args:=[.agg (cGChart r21.1),.agg [.int .i64 0,.int .i64 1,.int .i64 2,.int .i64 2,.str ([110]),.sl 6 0 1 1,.int .i64 0,.str [],.int .i64 0,.int .i64 0,.nils,.nils]]) (σ1:=⟨[(3,.row (cGChart r17.1) 24),(2,.row (cGChart r21.1) 24),(1,.row (cGChart r3.1) 24),(0,.row (cGChart r1.1) 24)],7⟩) rfl (q0b rfl rfl fn14 hb14 rfl rfl) (Gh.trans (Gh.fz (tm':=[.agg (cGChart r21.1),.agg [.int .i64 0,.int .i64 1,.int .i64 2,.int .i64 2,.str ([110]),.isl false (List.map (cI .i64) ([3])),.int .i64 0,.str [],.int .i64 0,.int .i64 0,.nils,.nils]]) (h':=[(3,.row (cGChart r17.1) 24),(2,.row (cGChart r21.1) 24),(1,.row (cGChart r3.1) 24),(0,.row (cGChart r1.1) 24)]) 6 (.row [.int .i64 3] 3) 1 rfl (by simp) (by simp only [oneU,q0x,q0m,q1x,q12,q20,q16,q15,q14,q13,q0y,q1y,q1z,q1w,q21,q39,junkT,q69,q6h,q0k,Nat.reduceLeDiff,Nat.reduceMul,List.length_cons,List.length_nil,Nat.reduceAdd]<;>simp only [chunks,List.take,List.drop,List.map,cI,cB,cS,cL]) (by simp only [fzH,fzB,ug,Nat.beq,cond_true,cond_false,oneU,q0x,q0m,q1x,q12,q20,q16,q15,q14,q13,q0y,q1y,q1z,q1w,q21,q39,junkT,q69,q6h,q0k,Nat.reduceLeDiff,Nat.reduceMul,List.length_cons,List.length_nil,Nat.reduceAdd]<;>simp only [chunks,List.take,List.drop,List.map,cI,cB,cS,cL])) (Gh.wk (tm':=[.agg (cGChart r21.1),.agg [.int .i64 0,.int .i64 1,.int .i64 2,.int .i64 2,.str ([110]),.isl false (List.map (cI .i64) ([3])),.int .i64 0,.str [],.int .i64 0,.int .i64 0,.isl false [],.isl false []]]) (.cons (.refl _) (.cons (.agg (.cons (.refl _) (.cons (.refl _) (.cons (.refl _) (.cons (.refl _) (.cons (.refl _) (.cons (.refl _) (.cons (.refl _) (.cons (.refl _) (.cons (.refl _) (.cons (.refl _) (.cons (.nil false) (.cons (.nil false) .nil))))))))))))) .nil)))) (Nat.le_of_ble_eq_true rfl) (q34 n (GChart.mk r21.1.Words r21.1.Edges) (GEdge.mk 0 1 2 2 ([110]) ([3]) (GDeriv.mk 0 [] 0 0 []) (GFS.mk [])) r23 h24 _) rfl rfl ?_
 refine RS.mv rfl rfl rfl rfl (RS.q rfl (q1f rfl rfl) (RS.q rfl (q1f rfl rfl) (RS.q rfl (q1f rfl rfl) (RS.opn (u:=.junk) (σ':=⟨[(3,.row (cGChart r17.1) 24),(2,.row (cGChart r23.1) 24),(1,.row (cGChart r3.1) 24),(0,.row (cGChart r1.1) 24)],7⟩) rfl (q0h (q01 inf24) rfl rfl rfl rfl rfl rfl rfl rfl) rfl ?_))))
 repeat refine RS.as rfl rfl rfl rfl ?_
 refine sd ?_
 obtain ⟨r25,h26,hF⟩:=q00 hF
 refine sr ?_
 refine RS.q (u:=.agg (cGChart r23.1)) rfl (q0o und24 rfl (q01 inf24) rfl rfl rfl) (RS.q (u:=.sl 7 0 1 1) (σ':=⟨[(7,.row [.int .i64 4] 3),(3,.row (cGChart r17.1) 24),(2,.row (cGChart r23.1) 24),(1,.row (cGChart r3.1) 24),(0,.row (cGChart r1.1) 24)],8⟩) rfl (q71 und34 inf3 rfl rfl rfl rfl rfl rfl rfl) (RS.q (u:=.agg [.int .i64 0,.int .i64 1,.int .i64 3,.int .i64 2,.str ([110]),.sl 7 0 1 1,.int .i64 0,.str [],.int .i64 0,.int .i64 0,.nils,.nils]) rfl (q7g bd42 rfl rfl rfl) ?_))
 refine RS.fcall (u:=.tup [.agg (cGChart r25.1),.int .i64 r25.2.1,.int .i64 r25.2.2]) (args:=[.agg (cGChart r23.1),.agg [.int .i64 0,.int .i64 1,.int .i64 3,.int .i64 2,.str ([110]),.sl 7 0 1 1,.int .i64 0,.str [],.int .i64 0,.int .i64 0,.nils,.nils]]) (σ1:=⟨[(3,.row (cGChart r17.1) 24),(2,.row (cGChart r23.1) 24),(1,.row (cGChart r3.1) 24),(0,.row (cGChart r1.1) 24)],8⟩) rfl (q0b rfl rfl fn14 hb14 rfl rfl) (Gh.trans (Gh.fz (tm':=[.agg (cGChart r23.1),.agg [.int .i64 0,.int .i64 1,.int .i64 3,.int .i64 2,.str ([110]),.isl false (List.map (cI .i64) ([4])),.int .i64 0,.str [],.int .i64 0,.int .i64 0,.nils,.nils]]) (h':=[(3,.row (cGChart r17.1) 24),(2,.row (cGChart r23.1) 24),(1,.row (cGChart r3.1) 24),(0,.row (cGChart r1.1) 24)]) 7 (.row [.int .i64 4] 3) 1 rfl (by simp) (by simp only [oneU,q0x,q0m,q1x,q12,q20,q16,q15,q14,q13,q0y,q1y,q1z,q1w,q21,q39,junkT,q69,q6h,q0k,Nat.reduceLeDiff,Nat.reduceMul,List.length_cons,List.length_nil,Nat.reduceAdd]<;>simp only [chunks,List.take,List.drop,List.map,cI,cB,cS,cL]) (by simp only [fzH,fzB,ug,Nat.beq,cond_true,cond_false,oneU,q0x,q0m,q1x,q12,q20,q16,q15,q14,q13,q0y,q1y,q1z,q1w,q21,q39,junkT,q69,q6h,q0k,Nat.reduceLeDiff,Nat.reduceMul,List.length_cons,List.length_nil,Nat.reduceAdd]<;>simp only [chunks,List.take,List.drop,List.map,cI,cB,cS,cL])) (Gh.wk (tm':=[.agg (cGChart r23.1),.agg [.int .i64 0,.int .i64 1,.int .i64 3,.int .i64 2,.str ([110]),.isl false (List.map (cI .i64) ([4])),.int .i64 0,.str [],.int .i64 0,.int .i64 0,.isl false [],.isl false []]]) (.cons (.refl _) (.cons (.agg (.cons (.refl _) (.cons (.refl _) (.cons (.refl _) (.cons (.refl _) (.cons (.refl _) (.cons (.refl _) (.cons (.refl _) (.cons (.refl _) (.cons (.refl _) (.cons (.refl _) (.cons (.nil false) (.cons (.nil false) .nil))))))))))))) .nil)))) (Nat.le_of_ble_eq_true rfl) (q34 n (GChart.mk r23.1.Words r23.1.Edges) (GEdge.mk 0 1 3 2 ([110]) ([4]) (GDeriv.mk 0 [] 0 0 []) (GFS.mk [])) r25 h26 _) rfl rfl ?_
 refine RS.mv rfl rfl rfl rfl (RS.q rfl (q1f rfl rfl) (RS.q rfl (q1f rfl rfl) (RS.q rfl (q1f rfl rfl) (RS.q (u:=.ptr 8 0 0) (σ':=⟨[(8,.row [.int .i64 0,.nils] 24),(3,.row (cGChart r17.1) 24),(2,.row (cGChart r23.1) 24),(1,.row (cGChart r3.1) 24),(0,.row (cGChart r1.1) 24)],9⟩) rfl (q1i inf24 rfl rfl) (RS.opn (u:=.junk) (σ':=⟨[(8,.row (cGChart r25.1) 24),(3,.row (cGChart r17.1) 24),(2,.row (cGChart r23.1) 24),(1,.row (cGChart r3.1) 24),(0,.row (cGChart r1.1) 24)],9⟩) rfl (q0h (q01 inf24) rfl rfl rfl rfl rfl rfl rfl rfl) rfl ?_)))))
 repeat refine RS.as rfl rfl rfl rfl ?_
 refine sd ?_
 obtain ⟨b38,h39,hF⟩:=q00 hF
 refine WPU.joinK (fun tm σ=>tm=fr 181 [(5,.ptr 2 0 0),(135,.bool b38)]∧σ=⟨[(8,.row (cGChart r25.1) 24),(3,.row (cGChart r17.1) 24),(2,.row (cGChart r23.1) 24),(1,.row (cGChart r3.1) 24),(0,.row (cGChart r1.1) 24)],9⟩) ?_ ?_
 rintro _ _ ⟨rfl,rfl⟩
 refine st ?_
 refine WPU.condS (t:=b38) rfl (fun h40=>?_) (fun h40=>?_)
 replace hF:=q0a h40 hF
 refine sr ?_
 refine sd ?_
 refine WPU.ret ?_
 refine st ?_
 have hr:=Option.some.inj hF
 subst hr
 exact ⟨.inr rfl,[.bool false],q1g rfl (q1b),.bool false,⟨[],0⟩,Nat.le_refl _,Gh.toR (.bool false) rfl,rfl,BU.h⟩
 replace hF:=q09 h40 hF
 refine st ?_
 refine WPU.skip ?_
 refine st ?_
 obtain ⟨r41,h42,hF⟩:=q00 hF
 obtain ⟨r43,h44,hF⟩:=q00 hF
 refine WPU.drawE Try.tb_ok [] (by kernel_rfl) ?_
 refine RD.q (u:=.agg (cGChart r23.1)) rfl (q0o und24 rfl (q01 inf24) rfl rfl rfl) (RD.free (u:=.isl false (List.map (cI .i64) r41)) (args:=[.agg (cGChart r23.1),.int .i64 0]) rfl (q0b rfl rfl fn16 hb16 rfl rfl) (fun s=>q9v n (GChart.mk r23.1.Words r23.1.Edges) 0 r41 h42 s) rfl rfl (RD.q (u:=.agg (cGChart r23.1)) rfl (q0o und24 rfl (q01 inf24) rfl rfl rfl) (RD.free (u:=.isl false (List.map (cI .i64) r43)) (args:=[.agg (cGChart r23.1),.int .i64 2]) rfl (q0b rfl rfl fn18 hb18 rfl rfl) (fun s=>qbc n (GChart.mk r23.1.Words r23.1.Edges) 2 r43 h44 s) rfl rfl ?_)))
 repeat refine RD.as rfl rfl rfl rfl ?_
 refine RD.done ⟨by kernel_rfl,trivial,?_⟩
 refine st ?_
 obtain ⟨b65,h66,hF⟩:=q00 hF
 refine WPU.joinK (fun tm σ=>tm=fr 181 [(0,.bool b65)]∧σ=⟨[(8,.row (cGChart r25.1) 24),(3,.row (cGChart r17.1) 24),(2,.row (cGChart r23.1) 24),(1,.row (cGChart r3.1) 24),(0,.row (cGChart r1.1) 24)],9⟩) ?_ ?_
 rintro _ _ ⟨rfl,rfl⟩
 refine st ?_
 refine WPU.ret ?_
 refine st ?_
 have hr:=Option.some.inj hF
 subst hr
 exact ⟨.inr rfl,[.bool b65],q1g rfl (q1b),.bool b65,⟨[],0⟩,Nat.le_refl _,Gh.toR (.bool b65) rfl,rfl,BU.h⟩
 rcases q0j ((r41.length:Int) == 4) with h45 | h45
 replace h66:=q0a h45 h66
 obtain ⟨x46,h47,h66⟩:=q00 h66
 rcases q0j (x46 == 2) with h48 | h48
 replace h66:=q0a h48 h66
 rcases q0j ((r43.length:Int) == 2) with h49 | h49
 replace h66:=q0a h49 h66
 obtain ⟨x50,h51,h66⟩:=q00 h66
 rcases q0j (x50 == 1) with h52 | h52
 replace h66:=q0a h52 h66
 obtain ⟨x53,h54,h66⟩:=q00 h66
 rcases q0j (x53 == 2) with h55 | h55
 replace h66:=q0a h55 h66
 obtain ⟨r56,h57,h66⟩:=q00 h66
 obtain ⟨r58,h59,h66⟩:=q00 h66
 rcases q0j (bytesEq r58 ([40,115,32,48,32,50,32,40,97,32,48,32,49,41,32,40,98,32,49,32,50,41,41])) with h60 | h60
 replace h66:=q0a h60 h66
 obtain ⟨r61,h62,h66⟩:=q00 h66
 obtain ⟨x63,h64,h66⟩:=q00 h66
 replace h66:=Option.some.inj h66
 subst h66
 refine sr ?_
 refine RS.q rfl (q0l rfl rfl rfl (q0e (cI .i64) und34)) (RS.q rfl (q02 rfl rfl (q0d _ _ _) rfl) (RS.mv rfl rfl rfl rfl (RS.op (want1 rfl rfl rfl h45) (q06 rfl) rfl rfl (RS.op (u:=.iptr [.int .i64 x46]) (want1 rfl rfl rfl h45) (q1e rfl rfl (q0p (cI .i64) und34 (q01 inf3) (q2j .i64) h47 rfl)) rfl rfl (RS.op (u:=.int .i64 x46) (want1 rfl rfl rfl h45) (q19 und3 rfl rfl rfl) rfl rfl (RS.op (want1 rfl rfl rfl h45) (q02 rfl rfl (q0d _ _ _) rfl) rfl rfl (RS.q (u:=.bool (x46 == 2)) rfl (q04 rfl h45 rfl) ?_)))))))
 refine RS.mv rfl rfl rfl rfl (RS.op (want1 rfl rfl rfl h48) (q06 rfl) rfl rfl (RS.op (want1 rfl rfl rfl h48) (q0l rfl rfl rfl (q0e (cI .i64) und34)) rfl rfl (RS.op (want1 rfl rfl rfl h48) (q02 rfl rfl (q0d _ _ _) rfl) rfl rfl (RS.q (u:=.bool ((r43.length:Int) == 2)) rfl (q04 rfl h48 rfl) (RS.mv rfl rfl rfl rfl (RS.op (want1 rfl rfl rfl h49) (q06 rfl) rfl rfl (RS.op (u:=.iptr [.int .i64 x50]) (want1 rfl rfl rfl h49) (q1e rfl rfl (q0p (cI .i64) und34 (q01 inf3) (q2j .i64) h51 rfl)) rfl rfl ?_)))))))
 refine RS.op (u:=.int .i64 x50) (want1 rfl rfl rfl h49) (q19 und3 rfl rfl rfl) rfl rfl (RS.op (want1 rfl rfl rfl h49) (q02 rfl rfl (q0d _ _ _) rfl) rfl rfl (RS.q (u:=.bool (x50 == 1)) rfl (q04 rfl h49 rfl) (RS.mv rfl rfl rfl rfl (RS.op (want1 rfl rfl rfl h52) (q06 rfl) rfl rfl (RS.op (u:=.iptr [.int .i64 x53]) (want1 rfl rfl rfl h52) (q1e rfl rfl (q0p (cI .i64) und34 (q01 inf3) (q2j .i64) h54 rfl)) rfl rfl (RS.op (u:=.int .i64 x53) (want1 rfl rfl rfl h52) (q19 und3 rfl rfl rfl) rfl rfl (RS.op (want1 rfl rfl rfl h52) (q02 rfl rfl (q0d _ _ _) rfl) rfl rfl ?_)))))))
 refine RS.q (u:=.bool (x53 == 2)) rfl (q04 rfl h52 rfl) (RS.mv rfl rfl rfl rfl (RS.op (u:=.agg (cGChart r23.1)) (want1 rfl rfl rfl h55) (q0o und24 rfl (q01 inf24) rfl rfl rfl) rfl rfl (RS.call (u:=.agg (xGDeriv r56)) (args:=[.agg (cGChart r23.1),.int .i64 2]) (want1 rfl rfl rfl h55) (q0b rfl rfl fn22 hb22 rfl rfl) (q6t n (GChart.mk r23.1.Words r23.1.Edges) 2 r56 h57 _) rfl rfl (RS.call (u:=.str r58) (args:=[.agg (xGDeriv r56)]) (want1 rfl rfl rfl h55) (q0b rfl rfl fn32 hb32 rfl rfl) (q8h n r56 r58 h59 _) rfl rfl (RS.op (u:=.bool (bytesEq r58 ([40,115,32,48,32,50,32,40,97,32,48,32,49,41,32,40,98,32,49,32,50,41,41]))) (want1 rfl rfl rfl h55) (q30 rfl rfl rfl rfl) rfl rfl (RS.q (u:=.bool (bytesEq r58 ([40,115,32,48,32,50,32,40,97,32,48,32,49,41,32,40,98,32,49,32,50,41,41]))) rfl (q04 rfl h55 rfl) (RS.mv rfl rfl rfl rfl ?_)))))))
 refine RS.op (u:=.agg (cGChart r23.1)) (want1 rfl rfl rfl h60) (q0o und24 rfl (q01 inf24) rfl rfl rfl) rfl rfl (RS.call (u:=.agg (cGChart r61)) (args:=[.agg (cGChart r23.1)]) (want1 rfl rfl rfl h60) (q0b rfl rfl fn25 hb25 rfl rfl) (q8g n (GChart.mk r23.1.Words r23.1.Edges) r61 h62 _) rfl rfl (RS.op (u:=.isl false (List.map cGEdge r61.Edges)) (want1 rfl rfl rfl h60) (op_fl1 und24 rfl rfl und22 rfl rfl) rfl rfl (RS.op (u:=.iptr (cGEdge x63)) (want1 rfl rfl rfl h60) (q1e rfl rfl (q0p cGEdge und22 (q01 inf42) q0f h64 rfl)) rfl rfl (RS.op (u:=.iptr [.str x63.Name,.isl false (List.map (cI .i64) x63.Kids),.int .i64 x63.Lex.Kind,.str x63.Lex.Name,.int .i64 x63.Lex.From,.int .i64 x63.Lex.To,.isl false (List.map cGDeriv x63.Lex.Kids),.isl false (List.map cGNode x63.FS.Nodes)]) (want1 rfl rfl rfl h60) (q4f und42 rfl (q01 inf9) rfl rfl) rfl rfl (RS.op (u:=.str x63.Name) (want1 rfl rfl rfl h60) (q19 und9 rfl rfl rfl) rfl rfl (RS.op (u:=.bool (bytesEq x63.Name ([115]))) (want1 rfl rfl rfl h60) (q30 rfl rfl rfl rfl) rfl rfl (RS.q (u:=.bool (bytesEq x63.Name ([115]))) rfl (q04 rfl h60 rfl) ?_)))))))
 refine sd ?_
 exact ⟨_,_,⟨rfl,rfl⟩,(Nat.zero_le _),Gh.toC (n1:=9) ⟨rfl,trivial⟩ rfl (Nat.zero_le _) (by simp)⟩
 replace h66:=q09 h60 h66
 replace h66:=Option.some.inj h66
 subst h66
 refine sr ?_
 refine RS.q rfl (q0l rfl rfl rfl (q0e (cI .i64) und34)) (RS.q rfl (q02 rfl rfl (q0d _ _ _) rfl) (RS.mv rfl rfl rfl rfl (RS.op (want1 rfl rfl rfl h45) (q06 rfl) rfl rfl (RS.op (u:=.iptr [.int .i64 x46]) (want1 rfl rfl rfl h45) (q1e rfl rfl (q0p (cI .i64) und34 (q01 inf3) (q2j .i64) h47 rfl)) rfl rfl (RS.op (u:=.int .i64 x46) (want1 rfl rfl rfl h45) (q19 und3 rfl rfl rfl) rfl rfl (RS.op (want1 rfl rfl rfl h45) (q02 rfl rfl (q0d _ _ _) rfl) rfl rfl (RS.q (u:=.bool (x46 == 2)) rfl (q04 rfl h45 rfl) ?_)))))))
 refine RS.mv rfl rfl rfl rfl (RS.op (want1 rfl rfl rfl h48) (q06 rfl) rfl rfl (RS.op (want1 rfl rfl rfl h48) (q0l rfl rfl rfl (q0e (cI .i64) und34)) rfl rfl (RS.op (want1 rfl rfl rfl h48) (q02 rfl rfl (q0d _ _ _) rfl) rfl rfl (RS.q (u:=.bool ((r43.length:Int) == 2)) rfl (q04 rfl h48 rfl) (RS.mv rfl rfl rfl rfl (RS.op (want1 rfl rfl rfl h49) (q06 rfl) rfl rfl (RS.op (u:=.iptr [.int .i64 x50]) (want1 rfl rfl rfl h49) (q1e rfl rfl (q0p (cI .i64) und34 (q01 inf3) (q2j .i64) h51 rfl)) rfl rfl ?_)))))))
 refine RS.op (u:=.int .i64 x50) (want1 rfl rfl rfl h49) (q19 und3 rfl rfl rfl) rfl rfl (RS.op (want1 rfl rfl rfl h49) (q02 rfl rfl (q0d _ _ _) rfl) rfl rfl (RS.q (u:=.bool (x50 == 1)) rfl (q04 rfl h49 rfl) (RS.mv rfl rfl rfl rfl (RS.op (want1 rfl rfl rfl h52) (q06 rfl) rfl rfl (RS.op (u:=.iptr [.int .i64 x53]) (want1 rfl rfl rfl h52) (q1e rfl rfl (q0p (cI .i64) und34 (q01 inf3) (q2j .i64) h54 rfl)) rfl rfl (RS.op (u:=.int .i64 x53) (want1 rfl rfl rfl h52) (q19 und3 rfl rfl rfl) rfl rfl (RS.op (want1 rfl rfl rfl h52) (q02 rfl rfl (q0d _ _ _) rfl) rfl rfl ?_)))))))
 refine RS.q (u:=.bool (x53 == 2)) rfl (q04 rfl h52 rfl) (RS.mv rfl rfl rfl rfl (RS.op (u:=.agg (cGChart r23.1)) (want1 rfl rfl rfl h55) (q0o und24 rfl (q01 inf24) rfl rfl rfl) rfl rfl (RS.call (u:=.agg (xGDeriv r56)) (args:=[.agg (cGChart r23.1),.int .i64 2]) (want1 rfl rfl rfl h55) (q0b rfl rfl fn22 hb22 rfl rfl) (q6t n (GChart.mk r23.1.Words r23.1.Edges) 2 r56 h57 _) rfl rfl (RS.call (u:=.str r58) (args:=[.agg (xGDeriv r56)]) (want1 rfl rfl rfl h55) (q0b rfl rfl fn32 hb32 rfl rfl) (q8h n r56 r58 h59 _) rfl rfl (RS.op (u:=.bool (bytesEq r58 ([40,115,32,48,32,50,32,40,97,32,48,32,49,41,32,40,98,32,49,32,50,41,41]))) (want1 rfl rfl rfl h55) (q30 rfl rfl rfl rfl) rfl rfl (RS.q (u:=.bool (bytesEq r58 ([40,115,32,48,32,50,32,40,97,32,48,32,49,41,32,40,98,32,49,32,50,41,41]))) rfl (q04 rfl h55 rfl) (RS.mv rfl rfl rfl rfl ?_)))))))
 repeat refine RS.no (want0 rfl rfl rfl h60) rfl rfl ?_
 refine RS.q (u:=.bool false) rfl (q03 rfl h60 rfl) ?_
 refine sd ?_
 exact ⟨_,_,⟨rfl,rfl⟩,(Nat.zero_le _),Gh.toC (n1:=9) ⟨rfl,trivial⟩ rfl (Nat.zero_le _) (by simp)⟩
 replace h66:=q09 h55 h66
 replace h66:=Option.some.inj h66
 subst h66
 refine sr ?_
 refine RS.q rfl (q0l rfl rfl rfl (q0e (cI .i64) und34)) (RS.q rfl (q02 rfl rfl (q0d _ _ _) rfl) (RS.mv rfl rfl rfl rfl (RS.op (want1 rfl rfl rfl h45) (q06 rfl) rfl rfl (RS.op (u:=.iptr [.int .i64 x46]) (want1 rfl rfl rfl h45) (q1e rfl rfl (q0p (cI .i64) und34 (q01 inf3) (q2j .i64) h47 rfl)) rfl rfl (RS.op (u:=.int .i64 x46) (want1 rfl rfl rfl h45) (q19 und3 rfl rfl rfl) rfl rfl (RS.op (want1 rfl rfl rfl h45) (q02 rfl rfl (q0d _ _ _) rfl) rfl rfl (RS.q (u:=.bool (x46 == 2)) rfl (q04 rfl h45 rfl) ?_)))))))
 refine RS.mv rfl rfl rfl rfl (RS.op (want1 rfl rfl rfl h48) (q06 rfl) rfl rfl (RS.op (want1 rfl rfl rfl h48) (q0l rfl rfl rfl (q0e (cI .i64) und34)) rfl rfl (RS.op (want1 rfl rfl rfl h48) (q02 rfl rfl (q0d _ _ _) rfl) rfl rfl (RS.q (u:=.bool ((r43.length:Int) == 2)) rfl (q04 rfl h48 rfl) (RS.mv rfl rfl rfl rfl (RS.op (want1 rfl rfl rfl h49) (q06 rfl) rfl rfl (RS.op (u:=.iptr [.int .i64 x50]) (want1 rfl rfl rfl h49) (q1e rfl rfl (q0p (cI .i64) und34 (q01 inf3) (q2j .i64) h51 rfl)) rfl rfl ?_)))))))
 refine RS.op (u:=.int .i64 x50) (want1 rfl rfl rfl h49) (q19 und3 rfl rfl rfl) rfl rfl (RS.op (want1 rfl rfl rfl h49) (q02 rfl rfl (q0d _ _ _) rfl) rfl rfl (RS.q (u:=.bool (x50 == 1)) rfl (q04 rfl h49 rfl) (RS.mv rfl rfl rfl rfl (RS.op (want1 rfl rfl rfl h52) (q06 rfl) rfl rfl (RS.op (u:=.iptr [.int .i64 x53]) (want1 rfl rfl rfl h52) (q1e rfl rfl (q0p (cI .i64) und34 (q01 inf3) (q2j .i64) h54 rfl)) rfl rfl (RS.op (u:=.int .i64 x53) (want1 rfl rfl rfl h52) (q19 und3 rfl rfl rfl) rfl rfl (RS.op (want1 rfl rfl rfl h52) (q02 rfl rfl (q0d _ _ _) rfl) rfl rfl ?_)))))))
 refine RS.q (u:=.bool (x53 == 2)) rfl (q04 rfl h52 rfl) (RS.mv rfl rfl rfl rfl ?_)
 repeat refine RS.no (want0 rfl rfl rfl h55) rfl rfl ?_
 refine RS.q (u:=.bool false) rfl (q03 rfl h55 rfl) (RS.mv rfl rfl rfl rfl ?_)
 repeat refine RS.no (want0 rfl rfl rfl rfl) rfl rfl ?_
 refine RS.q (u:=.bool false) rfl (q03 rfl rfl rfl) ?_
 refine sd ?_
 exact ⟨_,_,⟨rfl,rfl⟩,(Nat.zero_le _),Gh.toC (n1:=9) ⟨rfl,trivial⟩ rfl (Nat.zero_le _) (by simp)⟩
 replace h66:=q09 h52 h66
 replace h66:=Option.some.inj h66
 subst h66
 refine sr ?_
 refine RS.q rfl (q0l rfl rfl rfl (q0e (cI .i64) und34)) (RS.q rfl (q02 rfl rfl (q0d _ _ _) rfl) (RS.mv rfl rfl rfl rfl (RS.op (want1 rfl rfl rfl h45) (q06 rfl) rfl rfl (RS.op (u:=.iptr [.int .i64 x46]) (want1 rfl rfl rfl h45) (q1e rfl rfl (q0p (cI .i64) und34 (q01 inf3) (q2j .i64) h47 rfl)) rfl rfl (RS.op (u:=.int .i64 x46) (want1 rfl rfl rfl h45) (q19 und3 rfl rfl rfl) rfl rfl (RS.op (want1 rfl rfl rfl h45) (q02 rfl rfl (q0d _ _ _) rfl) rfl rfl (RS.q (u:=.bool (x46 == 2)) rfl (q04 rfl h45 rfl) ?_)))))))
 refine RS.mv rfl rfl rfl rfl (RS.op (want1 rfl rfl rfl h48) (q06 rfl) rfl rfl (RS.op (want1 rfl rfl rfl h48) (q0l rfl rfl rfl (q0e (cI .i64) und34)) rfl rfl (RS.op (want1 rfl rfl rfl h48) (q02 rfl rfl (q0d _ _ _) rfl) rfl rfl (RS.q (u:=.bool ((r43.length:Int) == 2)) rfl (q04 rfl h48 rfl) (RS.mv rfl rfl rfl rfl (RS.op (want1 rfl rfl rfl h49) (q06 rfl) rfl rfl (RS.op (u:=.iptr [.int .i64 x50]) (want1 rfl rfl rfl h49) (q1e rfl rfl (q0p (cI .i64) und34 (q01 inf3) (q2j .i64) h51 rfl)) rfl rfl ?_)))))))
 refine RS.op (u:=.int .i64 x50) (want1 rfl rfl rfl h49) (q19 und3 rfl rfl rfl) rfl rfl (RS.op (want1 rfl rfl rfl h49) (q02 rfl rfl (q0d _ _ _) rfl) rfl rfl (RS.q (u:=.bool (x50 == 1)) rfl (q04 rfl h49 rfl) (RS.mv rfl rfl rfl rfl ?_)))
 repeat refine RS.no (want0 rfl rfl rfl h52) rfl rfl ?_
 refine RS.q (u:=.bool false) rfl (q03 rfl h52 rfl) (RS.mv rfl rfl rfl rfl ?_)
 repeat refine RS.no (want0 rfl rfl rfl rfl) rfl rfl ?_
 refine RS.q (u:=.bool false) rfl (q03 rfl rfl rfl) (RS.mv rfl rfl rfl rfl ?_)
 repeat refine RS.no (want0 rfl rfl rfl rfl) rfl rfl ?_
 refine RS.q (u:=.bool false) rfl (q03 rfl rfl rfl) ?_
 refine sd ?_
 exact ⟨_,_,⟨rfl,rfl⟩,(Nat.zero_le _),Gh.toC (n1:=9) ⟨rfl,trivial⟩ rfl (Nat.zero_le _) (by simp)⟩
 replace h66:=q09 h49 h66
 replace h66:=Option.some.inj h66
 subst h66
 refine sr ?_
 refine RS.q rfl (q0l rfl rfl rfl (q0e (cI .i64) und34)) (RS.q rfl (q02 rfl rfl (q0d _ _ _) rfl) (RS.mv rfl rfl rfl rfl (RS.op (want1 rfl rfl rfl h45) (q06 rfl) rfl rfl (RS.op (u:=.iptr [.int .i64 x46]) (want1 rfl rfl rfl h45) (q1e rfl rfl (q0p (cI .i64) und34 (q01 inf3) (q2j .i64) h47 rfl)) rfl rfl (RS.op (u:=.int .i64 x46) (want1 rfl rfl rfl h45) (q19 und3 rfl rfl rfl) rfl rfl (RS.op (want1 rfl rfl rfl h45) (q02 rfl rfl (q0d _ _ _) rfl) rfl rfl (RS.q (u:=.bool (x46 == 2)) rfl (q04 rfl h45 rfl) ?_)))))))
 refine RS.mv rfl rfl rfl rfl (RS.op (want1 rfl rfl rfl h48) (q06 rfl) rfl rfl (RS.op (want1 rfl rfl rfl h48) (q0l rfl rfl rfl (q0e (cI .i64) und34)) rfl rfl (RS.op (want1 rfl rfl rfl h48) (q02 rfl rfl (q0d _ _ _) rfl) rfl rfl (RS.q (u:=.bool ((r43.length:Int) == 2)) rfl (q04 rfl h48 rfl) (RS.mv rfl rfl rfl rfl ?_)))))
 repeat refine RS.no (want0 rfl rfl rfl h49) rfl rfl ?_
 refine RS.q (u:=.bool false) rfl (q03 rfl h49 rfl) (RS.mv rfl rfl rfl rfl ?_)
 repeat refine RS.no (want0 rfl rfl rfl rfl) rfl rfl ?_
 refine RS.q (u:=.bool false) rfl (q03 rfl rfl rfl) (RS.mv rfl rfl rfl rfl ?_)
 repeat refine RS.no (want0 rfl rfl rfl rfl) rfl rfl ?_
 refine RS.q (u:=.bool false) rfl (q03 rfl rfl rfl) (RS.mv rfl rfl rfl rfl ?_)
 repeat refine RS.no (want0 rfl rfl rfl rfl) rfl rfl ?_
 refine RS.q (u:=.bool false) rfl (q03 rfl rfl rfl) ?_
 refine sd ?_
 exact ⟨_,_,⟨rfl,rfl⟩,(Nat.zero_le _),Gh.toC (n1:=9) ⟨rfl,trivial⟩ rfl (Nat.zero_le _) (by simp)⟩
 replace h66:=q09 h48 h66
 replace h66:=Option.some.inj h66
 subst h66
 refine sr ?_
 refine RS.q rfl (q0l rfl rfl rfl (q0e (cI .i64) und34)) (RS.q rfl (q02 rfl rfl (q0d _ _ _) rfl) (RS.mv rfl rfl rfl rfl (RS.op (want1 rfl rfl rfl h45) (q06 rfl) rfl rfl (RS.op (u:=.iptr [.int .i64 x46]) (want1 rfl rfl rfl h45) (q1e rfl rfl (q0p (cI .i64) und34 (q01 inf3) (q2j .i64) h47 rfl)) rfl rfl (RS.op (u:=.int .i64 x46) (want1 rfl rfl rfl h45) (q19 und3 rfl rfl rfl) rfl rfl (RS.op (want1 rfl rfl rfl h45) (q02 rfl rfl (q0d _ _ _) rfl) rfl rfl (RS.q (u:=.bool (x46 == 2)) rfl (q04 rfl h45 rfl) ?_)))))))
 refine RS.mv rfl rfl rfl rfl ?_
 repeat refine RS.no (want0 rfl rfl rfl h48) rfl rfl ?_
 refine RS.q (u:=.bool false) rfl (q03 rfl h48 rfl) (RS.mv rfl rfl rfl rfl ?_)
 repeat refine RS.no (want0 rfl rfl rfl rfl) rfl rfl ?_
 refine RS.q (u:=.bool false) rfl (q03 rfl rfl rfl) (RS.mv rfl rfl rfl rfl ?_)
 repeat refine RS.no (want0 rfl rfl rfl rfl) rfl rfl ?_
 refine RS.q (u:=.bool false) rfl (q03 rfl rfl rfl) (RS.mv rfl rfl rfl rfl ?_)
 repeat refine RS.no (want0 rfl rfl rfl rfl) rfl rfl ?_
 refine RS.q (u:=.bool false) rfl (q03 rfl rfl rfl) (RS.mv rfl rfl rfl rfl ?_)
 repeat refine RS.no (want0 rfl rfl rfl rfl) rfl rfl ?_
 refine RS.q (u:=.bool false) rfl (q03 rfl rfl rfl) ?_
 refine sd ?_
 exact ⟨_,_,⟨rfl,rfl⟩,(Nat.zero_le _),Gh.toC (n1:=9) ⟨rfl,trivial⟩ rfl (Nat.zero_le _) (by simp)⟩
 replace h66:=q09 h45 h66
 replace h66:=Option.some.inj h66
 subst h66
 refine sr ?_
 refine RS.q rfl (q0l rfl rfl rfl (q0e (cI .i64) und34)) (RS.q rfl (q02 rfl rfl (q0d _ _ _) rfl) (RS.mv rfl rfl rfl rfl ?_))
 repeat refine RS.no (want0 rfl rfl rfl h45) rfl rfl ?_
 refine RS.q (u:=.bool false) rfl (q03 rfl h45 rfl) (RS.mv rfl rfl rfl rfl ?_)
 repeat refine RS.no (want0 rfl rfl rfl rfl) rfl rfl ?_
 refine RS.q (u:=.bool false) rfl (q03 rfl rfl rfl) (RS.mv rfl rfl rfl rfl ?_)
 repeat refine RS.no (want0 rfl rfl rfl rfl) rfl rfl ?_
 refine RS.q (u:=.bool false) rfl (q03 rfl rfl rfl) (RS.mv rfl rfl rfl rfl ?_)
 repeat refine RS.no (want0 rfl rfl rfl rfl) rfl rfl ?_
 refine RS.q (u:=.bool false) rfl (q03 rfl rfl rfl) (RS.mv rfl rfl rfl rfl ?_)
 repeat refine RS.no (want0 rfl rfl rfl rfl) rfl rfl ?_
 refine RS.q (u:=.bool false) rfl (q03 rfl rfl rfl) (RS.mv rfl rfl rfl rfl ?_)
 repeat refine RS.no (want0 rfl rfl rfl rfl) rfl rfl ?_
 refine RS.q (u:=.bool false) rfl (q03 rfl rfl rfl) ?_
 refine sd ?_
 exact ⟨_,_,⟨rfl,rfl⟩,(Nat.zero_le _),Gh.toC (n1:=9) ⟨rfl,trivial⟩ rfl (Nat.zero_le _) (by simp)⟩
 rcases q0j (r1.2 != 2) with h27 | h27
 replace h39:=q0a h27 h39
 replace h39:=Option.some.inj h39
 subst h39
 refine sr ?_
 refine RS.q rfl (q02 rfl rfl (q0c _ _ _) rfl) (RS.mv rfl rfl rfl rfl ?_)
 repeat refine RS.no (want0 rfl rfl rfl h27) rfl rfl ?_
 refine RS.q (u:=.bool true) rfl (q04 rfl h27 rfl) (RS.mv rfl rfl rfl rfl ?_)
 repeat refine RS.no (want0 rfl rfl rfl rfl) rfl rfl ?_
 refine RS.q (u:=.bool true) rfl (q04 rfl rfl rfl) (RS.mv rfl rfl rfl rfl ?_)
 repeat refine RS.no (want0 rfl rfl rfl rfl) rfl rfl ?_
 refine RS.q (u:=.bool true) rfl (q04 rfl rfl rfl) (RS.mv rfl rfl rfl rfl ?_)
 repeat refine RS.no (want0 rfl rfl rfl rfl) rfl rfl ?_
 refine RS.q (u:=.bool true) rfl (q04 rfl rfl rfl) (RS.mv rfl rfl rfl rfl ?_)
 repeat refine RS.no (want0 rfl rfl rfl rfl) rfl rfl ?_
 refine RS.q (u:=.bool true) rfl (q04 rfl rfl rfl) (RS.mv rfl rfl rfl rfl ?_)
 repeat refine RS.no (want0 rfl rfl rfl rfl) rfl rfl ?_
 refine RS.q (u:=.bool true) rfl (q04 rfl rfl rfl) (RS.mv rfl rfl rfl rfl ?_)
 repeat refine RS.no (want0 rfl rfl rfl rfl) rfl rfl ?_
 refine RS.q (u:=.bool true) rfl (q04 rfl rfl rfl) (RS.mv rfl rfl rfl rfl ?_)
 repeat refine RS.no (want0 rfl rfl rfl rfl) rfl rfl ?_
 refine RS.q (u:=.bool true) rfl (q04 rfl rfl rfl) (RS.mv rfl rfl rfl rfl ?_)
 repeat refine RS.no (want0 rfl rfl rfl rfl) rfl rfl ?_
 refine RS.q (u:=.bool true) rfl (q04 rfl rfl rfl) (RS.mv rfl rfl rfl rfl ?_)
 repeat refine RS.no (want0 rfl rfl rfl rfl) rfl rfl ?_
 refine RS.q (u:=.bool true) rfl (q04 rfl rfl rfl) (RS.mv rfl rfl rfl rfl ?_)
 repeat refine RS.no (want0 rfl rfl rfl rfl) rfl rfl ?_
 refine RS.q (u:=.bool true) rfl (q04 rfl rfl rfl) ?_
 refine sd ?_
 exact ⟨_,_,⟨rfl,rfl⟩,(Nat.zero_le _),Gh.toC (n1:=9) ⟨rfl,rfl,trivial⟩ rfl (Nat.zero_le _) (by simp)⟩
 replace h39:=q09 h27 h39
 rcases q0j (r3.2 != 2) with h28 | h28
 replace h39:=q0a h28 h39
 replace h39:=Option.some.inj h39
 subst h39
 refine sr ?_
 refine RS.q rfl (q02 rfl rfl (q0c _ _ _) rfl) (RS.mv rfl rfl rfl rfl (RS.op (want1 rfl rfl rfl h27) (q06 rfl) rfl rfl (RS.op (want1 rfl rfl rfl h27) (q02 rfl rfl (q0c _ _ _) rfl) rfl rfl (RS.q (u:=.bool (r3.2 != 2)) rfl (q03 rfl h27 rfl) (RS.mv rfl rfl rfl rfl ?_)))))
 repeat refine RS.no (want0 rfl rfl rfl h28) rfl rfl ?_
 refine RS.q (u:=.bool true) rfl (q04 rfl h28 rfl) (RS.mv rfl rfl rfl rfl ?_)
 repeat refine RS.no (want0 rfl rfl rfl rfl) rfl rfl ?_
 refine RS.q (u:=.bool true) rfl (q04 rfl rfl rfl) (RS.mv rfl rfl rfl rfl ?_)
 repeat refine RS.no (want0 rfl rfl rfl rfl) rfl rfl ?_
 refine RS.q (u:=.bool true) rfl (q04 rfl rfl rfl) (RS.mv rfl rfl rfl rfl ?_)
 repeat refine RS.no (want0 rfl rfl rfl rfl) rfl rfl ?_
 refine RS.q (u:=.bool true) rfl (q04 rfl rfl rfl) (RS.mv rfl rfl rfl rfl ?_)
 repeat refine RS.no (want0 rfl rfl rfl rfl) rfl rfl ?_
 refine RS.q (u:=.bool true) rfl (q04 rfl rfl rfl) (RS.mv rfl rfl rfl rfl ?_)
 repeat refine RS.no (want0 rfl rfl rfl rfl) rfl rfl ?_
 refine RS.q (u:=.bool true) rfl (q04 rfl rfl rfl) (RS.mv rfl rfl rfl rfl ?_)
 repeat refine RS.no (want0 rfl rfl rfl rfl) rfl rfl ?_
 refine RS.q (u:=.bool true) rfl (q04 rfl rfl rfl) (RS.mv rfl rfl rfl rfl ?_)
 repeat refine RS.no (want0 rfl rfl rfl rfl) rfl rfl ?_
 refine RS.q (u:=.bool true) rfl (q04 rfl rfl rfl) (RS.mv rfl rfl rfl rfl ?_)
 repeat refine RS.no (want0 rfl rfl rfl rfl) rfl rfl ?_
 refine RS.q (u:=.bool true) rfl (q04 rfl rfl rfl) (RS.mv rfl rfl rfl rfl ?_)
 repeat refine RS.no (want0 rfl rfl rfl rfl) rfl rfl ?_
 refine RS.q (u:=.bool true) rfl (q04 rfl rfl rfl) ?_
 refine sd ?_
 exact ⟨_,_,⟨rfl,rfl⟩,(Nat.zero_le _),Gh.toC (n1:=9) ⟨rfl,rfl,trivial⟩ rfl (Nat.zero_le _) (by simp)⟩
 replace h39:=q09 h28 h39
 rcases q0j (r5.2 != 0) with h29 | h29
 replace h39:=q0a h29 h39
 replace h39:=Option.some.inj h39
 subst h39
 refine sr ?_
 refine RS.q rfl (q02 rfl rfl (q0c _ _ _) rfl) (RS.mv rfl rfl rfl rfl (RS.op (want1 rfl rfl rfl h27) (q06 rfl) rfl rfl (RS.op (want1 rfl rfl rfl h27) (q02 rfl rfl (q0c _ _ _) rfl) rfl rfl (RS.q (u:=.bool (r3.2 != 2)) rfl (q03 rfl h27 rfl) (RS.mv rfl rfl rfl rfl (RS.op (want1 rfl rfl rfl h28) (q06 rfl) rfl rfl (RS.op (want1 rfl rfl rfl h28) (q02 rfl rfl (q0c _ _ _) rfl) rfl rfl ?_)))))))
 refine RS.q (u:=.bool (r5.2 != 0)) rfl (q03 rfl h28 rfl) (RS.mv rfl rfl rfl rfl ?_)
 repeat refine RS.no (want0 rfl rfl rfl h29) rfl rfl ?_
 refine RS.q (u:=.bool true) rfl (q04 rfl h29 rfl) (RS.mv rfl rfl rfl rfl ?_)
 repeat refine RS.no (want0 rfl rfl rfl rfl) rfl rfl ?_
 refine RS.q (u:=.bool true) rfl (q04 rfl rfl rfl) (RS.mv rfl rfl rfl rfl ?_)
 repeat refine RS.no (want0 rfl rfl rfl rfl) rfl rfl ?_
 refine RS.q (u:=.bool true) rfl (q04 rfl rfl rfl) (RS.mv rfl rfl rfl rfl ?_)
 repeat refine RS.no (want0 rfl rfl rfl rfl) rfl rfl ?_
 refine RS.q (u:=.bool true) rfl (q04 rfl rfl rfl) (RS.mv rfl rfl rfl rfl ?_)
 repeat refine RS.no (want0 rfl rfl rfl rfl) rfl rfl ?_
 refine RS.q (u:=.bool true) rfl (q04 rfl rfl rfl) (RS.mv rfl rfl rfl rfl ?_)
 repeat refine RS.no (want0 rfl rfl rfl rfl) rfl rfl ?_
 refine RS.q (u:=.bool true) rfl (q04 rfl rfl rfl) (RS.mv rfl rfl rfl rfl ?_)
 repeat refine RS.no (want0 rfl rfl rfl rfl) rfl rfl ?_
 refine RS.q (u:=.bool true) rfl (q04 rfl rfl rfl) (RS.mv rfl rfl rfl rfl ?_)
 repeat refine RS.no (want0 rfl rfl rfl rfl) rfl rfl ?_
 refine RS.q (u:=.bool true) rfl (q04 rfl rfl rfl) (RS.mv rfl rfl rfl rfl ?_)
 repeat refine RS.no (want0 rfl rfl rfl rfl) rfl rfl ?_
 refine RS.q (u:=.bool true) rfl (q04 rfl rfl rfl) ?_
 refine sd ?_
 exact ⟨_,_,⟨rfl,rfl⟩,(Nat.zero_le _),Gh.toC (n1:=9) ⟨rfl,rfl,trivial⟩ rfl (Nat.zero_le _) (by simp)⟩
 replace h39:=q09 h29 h39
 rcases q0j (r9.2.2 != 0) with h30 | h30
 replace h39:=q0a h30 h39
 replace h39:=Option.some.inj h39
 subst h39
 refine sr ?_
 refine RS.q rfl (q02 rfl rfl (q0c _ _ _) rfl) (RS.mv rfl rfl rfl rfl (RS.op (want1 rfl rfl rfl h27) (q06 rfl) rfl rfl (RS.op (want1 rfl rfl rfl h27) (q02 rfl rfl (q0c _ _ _) rfl) rfl rfl (RS.q (u:=.bool (r3.2 != 2)) rfl (q03 rfl h27 rfl) (RS.mv rfl rfl rfl rfl (RS.op (want1 rfl rfl rfl h28) (q06 rfl) rfl rfl (RS.op (want1 rfl rfl rfl h28) (q02 rfl rfl (q0c _ _ _) rfl) rfl rfl ?_)))))))
 refine RS.q (u:=.bool (r5.2 != 0)) rfl (q03 rfl h28 rfl) (RS.mv rfl rfl rfl rfl (RS.op (want1 rfl rfl rfl h29) (q06 rfl) rfl rfl (RS.op (want1 rfl rfl rfl h29) (q02 rfl rfl (q0c _ _ _) rfl) rfl rfl (RS.q (u:=.bool (r9.2.2 != 0)) rfl (q03 rfl h29 rfl) (RS.mv rfl rfl rfl rfl ?_)))))
 repeat refine RS.no (want0 rfl rfl rfl h30) rfl rfl ?_
 refine RS.q (u:=.bool true) rfl (q04 rfl h30 rfl) (RS.mv rfl rfl rfl rfl ?_)
 repeat refine RS.no (want0 rfl rfl rfl rfl) rfl rfl ?_
 refine RS.q (u:=.bool true) rfl (q04 rfl rfl rfl) (RS.mv rfl rfl rfl rfl ?_)
 repeat refine RS.no (want0 rfl rfl rfl rfl) rfl rfl ?_
 refine RS.q (u:=.bool true) rfl (q04 rfl rfl rfl) (RS.mv rfl rfl rfl rfl ?_)
 repeat refine RS.no (want0 rfl rfl rfl rfl) rfl rfl ?_
 refine RS.q (u:=.bool true) rfl (q04 rfl rfl rfl) (RS.mv rfl rfl rfl rfl ?_)
 repeat refine RS.no (want0 rfl rfl rfl rfl) rfl rfl ?_
 refine RS.q (u:=.bool true) rfl (q04 rfl rfl rfl) (RS.mv rfl rfl rfl rfl ?_)
 repeat refine RS.no (want0 rfl rfl rfl rfl) rfl rfl ?_
 refine RS.q (u:=.bool true) rfl (q04 rfl rfl rfl) (RS.mv rfl rfl rfl rfl ?_)
 repeat refine RS.no (want0 rfl rfl rfl rfl) rfl rfl ?_
 refine RS.q (u:=.bool true) rfl (q04 rfl rfl rfl) (RS.mv rfl rfl rfl rfl ?_)
 repeat refine RS.no (want0 rfl rfl rfl rfl) rfl rfl ?_
 refine RS.q (u:=.bool true) rfl (q04 rfl rfl rfl) ?_
 refine sd ?_
 exact ⟨_,_,⟨rfl,rfl⟩,(Nat.zero_le _),Gh.toC (n1:=9) ⟨rfl,rfl,trivial⟩ rfl (Nat.zero_le _) (by simp)⟩
 replace h39:=q09 h30 h39
 rcases q0j (r13.2.2 != 0) with h31 | h31
 replace h39:=q0a h31 h39
 replace h39:=Option.some.inj h39
 subst h39
 refine sr ?_
 refine RS.q rfl (q02 rfl rfl (q0c _ _ _) rfl) (RS.mv rfl rfl rfl rfl (RS.op (want1 rfl rfl rfl h27) (q06 rfl) rfl rfl (RS.op (want1 rfl rfl rfl h27) (q02 rfl rfl (q0c _ _ _) rfl) rfl rfl (RS.q (u:=.bool (r3.2 != 2)) rfl (q03 rfl h27 rfl) (RS.mv rfl rfl rfl rfl (RS.op (want1 rfl rfl rfl h28) (q06 rfl) rfl rfl (RS.op (want1 rfl rfl rfl h28) (q02 rfl rfl (q0c _ _ _) rfl) rfl rfl ?_)))))))
 refine RS.q (u:=.bool (r5.2 != 0)) rfl (q03 rfl h28 rfl) (RS.mv rfl rfl rfl rfl (RS.op (want1 rfl rfl rfl h29) (q06 rfl) rfl rfl (RS.op (want1 rfl rfl rfl h29) (q02 rfl rfl (q0c _ _ _) rfl) rfl rfl (RS.q (u:=.bool (r9.2.2 != 0)) rfl (q03 rfl h29 rfl) (RS.mv rfl rfl rfl rfl (RS.op (want1 rfl rfl rfl h30) (q06 rfl) rfl rfl (RS.op (want1 rfl rfl rfl h30) (q02 rfl rfl (q0c _ _ _) rfl) rfl rfl ?_)))))))
 refine RS.q (u:=.bool (r13.2.2 != 0)) rfl (q03 rfl h30 rfl) (RS.mv rfl rfl rfl rfl ?_)
 repeat refine RS.no (want0 rfl rfl rfl h31) rfl rfl ?_
 refine RS.q (u:=.bool true) rfl (q04 rfl h31 rfl) (RS.mv rfl rfl rfl rfl ?_)
 repeat refine RS.no (want0 rfl rfl rfl rfl) rfl rfl ?_
 refine RS.q (u:=.bool true) rfl (q04 rfl rfl rfl) (RS.mv rfl rfl rfl rfl ?_)
 repeat refine RS.no (want0 rfl rfl rfl rfl) rfl rfl ?_
 refine RS.q (u:=.bool true) rfl (q04 rfl rfl rfl) (RS.mv rfl rfl rfl rfl ?_)
 repeat refine RS.no (want0 rfl rfl rfl rfl) rfl rfl ?_
 refine RS.q (u:=.bool true) rfl (q04 rfl rfl rfl) (RS.mv rfl rfl rfl rfl ?_)
 repeat refine RS.no (want0 rfl rfl rfl rfl) rfl rfl ?_
 refine RS.q (u:=.bool true) rfl (q04 rfl rfl rfl) (RS.mv rfl rfl rfl rfl ?_)
 repeat refine RS.no (want0 rfl rfl rfl rfl) rfl rfl ?_
 refine RS.q (u:=.bool true) rfl (q04 rfl rfl rfl) (RS.mv rfl rfl rfl rfl ?_)
 repeat refine RS.no (want0 rfl rfl rfl rfl) rfl rfl ?_
 refine RS.q (u:=.bool true) rfl (q04 rfl rfl rfl) ?_
 refine sd ?_
 exact ⟨_,_,⟨rfl,rfl⟩,(Nat.zero_le _),Gh.toC (n1:=9) ⟨rfl,rfl,trivial⟩ rfl (Nat.zero_le _) (by simp)⟩
 replace h39:=q09 h31 h39
 rcases q0j (r17.2.2 != 4) with h32 | h32
 replace h39:=q0a h32 h39
 replace h39:=Option.some.inj h39
 subst h39
 refine sr ?_
 refine RS.q rfl (q02 rfl rfl (q0c _ _ _) rfl) (RS.mv rfl rfl rfl rfl (RS.op (want1 rfl rfl rfl h27) (q06 rfl) rfl rfl (RS.op (want1 rfl rfl rfl h27) (q02 rfl rfl (q0c _ _ _) rfl) rfl rfl (RS.q (u:=.bool (r3.2 != 2)) rfl (q03 rfl h27 rfl) (RS.mv rfl rfl rfl rfl (RS.op (want1 rfl rfl rfl h28) (q06 rfl) rfl rfl (RS.op (want1 rfl rfl rfl h28) (q02 rfl rfl (q0c _ _ _) rfl) rfl rfl ?_)))))))
 refine RS.q (u:=.bool (r5.2 != 0)) rfl (q03 rfl h28 rfl) (RS.mv rfl rfl rfl rfl (RS.op (want1 rfl rfl rfl h29) (q06 rfl) rfl rfl (RS.op (want1 rfl rfl rfl h29) (q02 rfl rfl (q0c _ _ _) rfl) rfl rfl (RS.q (u:=.bool (r9.2.2 != 0)) rfl (q03 rfl h29 rfl) (RS.mv rfl rfl rfl rfl (RS.op (want1 rfl rfl rfl h30) (q06 rfl) rfl rfl (RS.op (want1 rfl rfl rfl h30) (q02 rfl rfl (q0c _ _ _) rfl) rfl rfl ?_)))))))
 refine RS.q (u:=.bool (r13.2.2 != 0)) rfl (q03 rfl h30 rfl) (RS.mv rfl rfl rfl rfl (RS.op (want1 rfl rfl rfl h31) (q06 rfl) rfl rfl (RS.op (want1 rfl rfl rfl h31) (q02 rfl rfl (q0c _ _ _) rfl) rfl rfl (RS.q (u:=.bool (r17.2.2 != 4)) rfl (q03 rfl h31 rfl) (RS.mv rfl rfl rfl rfl ?_)))))
 repeat refine RS.no (want0 rfl rfl rfl h32) rfl rfl ?_
 refine RS.q (u:=.bool true) rfl (q04 rfl h32 rfl) (RS.mv rfl rfl rfl rfl ?_)
 repeat refine RS.no (want0 rfl rfl rfl rfl) rfl rfl ?_
 refine RS.q (u:=.bool true) rfl (q04 rfl rfl rfl) (RS.mv rfl rfl rfl rfl ?_)
 repeat refine RS.no (want0 rfl rfl rfl rfl) rfl rfl ?_
 refine RS.q (u:=.bool true) rfl (q04 rfl rfl rfl) (RS.mv rfl rfl rfl rfl ?_)
 repeat refine RS.no (want0 rfl rfl rfl rfl) rfl rfl ?_
 refine RS.q (u:=.bool true) rfl (q04 rfl rfl rfl) (RS.mv rfl rfl rfl rfl ?_)
 repeat refine RS.no (want0 rfl rfl rfl rfl) rfl rfl ?_
 refine RS.q (u:=.bool true) rfl (q04 rfl rfl rfl) (RS.mv rfl rfl rfl rfl ?_)
 repeat refine RS.no (want0 rfl rfl rfl rfl) rfl rfl ?_
 refine RS.q (u:=.bool true) rfl (q04 rfl rfl rfl) ?_
 refine sd ?_
 exact ⟨_,_,⟨rfl,rfl⟩,(Nat.zero_le _),Gh.toC (n1:=9) ⟨rfl,rfl,trivial⟩ rfl (Nat.zero_le _) (by simp)⟩
 replace h39:=q09 h32 h39
 rcases q0j (r17.2.1 != 1) with h33 | h33
 replace h39:=q0a h33 h39
 replace h39:=Option.some.inj h39
 subst h39
 refine sr ?_
 refine RS.q rfl (q02 rfl rfl (q0c _ _ _) rfl) (RS.mv rfl rfl rfl rfl (RS.op (want1 rfl rfl rfl h27) (q06 rfl) rfl rfl (RS.op (want1 rfl rfl rfl h27) (q02 rfl rfl (q0c _ _ _) rfl) rfl rfl (RS.q (u:=.bool (r3.2 != 2)) rfl (q03 rfl h27 rfl) (RS.mv rfl rfl rfl rfl (RS.op (want1 rfl rfl rfl h28) (q06 rfl) rfl rfl (RS.op (want1 rfl rfl rfl h28) (q02 rfl rfl (q0c _ _ _) rfl) rfl rfl ?_)))))))
 refine RS.q (u:=.bool (r5.2 != 0)) rfl (q03 rfl h28 rfl) (RS.mv rfl rfl rfl rfl (RS.op (want1 rfl rfl rfl h29) (q06 rfl) rfl rfl (RS.op (want1 rfl rfl rfl h29) (q02 rfl rfl (q0c _ _ _) rfl) rfl rfl (RS.q (u:=.bool (r9.2.2 != 0)) rfl (q03 rfl h29 rfl) (RS.mv rfl rfl rfl rfl (RS.op (want1 rfl rfl rfl h30) (q06 rfl) rfl rfl (RS.op (want1 rfl rfl rfl h30) (q02 rfl rfl (q0c _ _ _) rfl) rfl rfl ?_)))))))
 refine RS.q (u:=.bool (r13.2.2 != 0)) rfl (q03 rfl h30 rfl) (RS.mv rfl rfl rfl rfl (RS.op (want1 rfl rfl rfl h31) (q06 rfl) rfl rfl (RS.op (want1 rfl rfl rfl h31) (q02 rfl rfl (q0c _ _ _) rfl) rfl rfl (RS.q (u:=.bool (r17.2.2 != 4)) rfl (q03 rfl h31 rfl) (RS.mv rfl rfl rfl rfl (RS.op (want1 rfl rfl rfl h32) (q06 rfl) rfl rfl (RS.op (want1 rfl rfl rfl h32) (q02 rfl rfl (q0c _ _ _) rfl) rfl rfl ?_)))))))
 refine RS.q (u:=.bool (r17.2.1 != 1)) rfl (q03 rfl h32 rfl) (RS.mv rfl rfl rfl rfl ?_)
 repeat refine RS.no (want0 rfl rfl rfl h33) rfl rfl ?_
 refine RS.q (u:=.bool true) rfl (q04 rfl h33 rfl) (RS.mv rfl rfl rfl rfl ?_)
 repeat refine RS.no (want0 rfl rfl rfl rfl) rfl rfl ?_
 refine RS.q (u:=.bool true) rfl (q04 rfl rfl rfl) (RS.mv rfl rfl rfl rfl ?_)
 repeat refine RS.no (want0 rfl rfl rfl rfl) rfl rfl ?_
 refine RS.q (u:=.bool true) rfl (q04 rfl rfl rfl) (RS.mv rfl rfl rfl rfl ?_)
 repeat refine RS.no (want0 rfl rfl rfl rfl) rfl rfl ?_
 refine RS.q (u:=.bool true) rfl (q04 rfl rfl rfl) (RS.mv rfl rfl rfl rfl ?_)
 repeat refine RS.no (want0 rfl rfl rfl rfl) rfl rfl ?_
 refine RS.q (u:=.bool true) rfl (q04 rfl rfl rfl) ?_
 refine sd ?_
 exact ⟨_,_,⟨rfl,rfl⟩,(Nat.zero_le _),Gh.toC (n1:=9) ⟨rfl,rfl,trivial⟩ rfl (Nat.zero_le _) (by simp)⟩
 replace h39:=q09 h33 h39
 rcases q0j (r19.2.2 != 0) with h34 | h34
 replace h39:=q0a h34 h39
 replace h39:=Option.some.inj h39
 subst h39
 refine sr ?_
 refine RS.q rfl (q02 rfl rfl (q0c _ _ _) rfl) (RS.mv rfl rfl rfl rfl (RS.op (want1 rfl rfl rfl h27) (q06 rfl) rfl rfl (RS.op (want1 rfl rfl rfl h27) (q02 rfl rfl (q0c _ _ _) rfl) rfl rfl (RS.q (u:=.bool (r3.2 != 2)) rfl (q03 rfl h27 rfl) (RS.mv rfl rfl rfl rfl (RS.op (want1 rfl rfl rfl h28) (q06 rfl) rfl rfl (RS.op (want1 rfl rfl rfl h28) (q02 rfl rfl (q0c _ _ _) rfl) rfl rfl ?_)))))))
 refine RS.q (u:=.bool (r5.2 != 0)) rfl (q03 rfl h28 rfl) (RS.mv rfl rfl rfl rfl (RS.op (want1 rfl rfl rfl h29) (q06 rfl) rfl rfl (RS.op (want1 rfl rfl rfl h29) (q02 rfl rfl (q0c _ _ _) rfl) rfl rfl (RS.q (u:=.bool (r9.2.2 != 0)) rfl (q03 rfl h29 rfl) (RS.mv rfl rfl rfl rfl (RS.op (want1 rfl rfl rfl h30) (q06 rfl) rfl rfl (RS.op (want1 rfl rfl rfl h30) (q02 rfl rfl (q0c _ _ _) rfl) rfl rfl ?_)))))))
 refine RS.q (u:=.bool (r13.2.2 != 0)) rfl (q03 rfl h30 rfl) (RS.mv rfl rfl rfl rfl (RS.op (want1 rfl rfl rfl h31) (q06 rfl) rfl rfl (RS.op (want1 rfl rfl rfl h31) (q02 rfl rfl (q0c _ _ _) rfl) rfl rfl (RS.q (u:=.bool (r17.2.2 != 4)) rfl (q03 rfl h31 rfl) (RS.mv rfl rfl rfl rfl (RS.op (want1 rfl rfl rfl h32) (q06 rfl) rfl rfl (RS.op (want1 rfl rfl rfl h32) (q02 rfl rfl (q0c _ _ _) rfl) rfl rfl ?_)))))))
 refine RS.q (u:=.bool (r17.2.1 != 1)) rfl (q03 rfl h32 rfl) (RS.mv rfl rfl rfl rfl (RS.op (want1 rfl rfl rfl h33) (q06 rfl) rfl rfl (RS.op (want1 rfl rfl rfl h33) (q02 rfl rfl (q0c _ _ _) rfl) rfl rfl (RS.q (u:=.bool (r19.2.2 != 0)) rfl (q03 rfl h33 rfl) (RS.mv rfl rfl rfl rfl ?_)))))
 repeat refine RS.no (want0 rfl rfl rfl h34) rfl rfl ?_
 refine RS.q (u:=.bool true) rfl (q04 rfl h34 rfl) (RS.mv rfl rfl rfl rfl ?_)
 repeat refine RS.no (want0 rfl rfl rfl rfl) rfl rfl ?_
 refine RS.q (u:=.bool true) rfl (q04 rfl rfl rfl) (RS.mv rfl rfl rfl rfl ?_)
 repeat refine RS.no (want0 rfl rfl rfl rfl) rfl rfl ?_
 refine RS.q (u:=.bool true) rfl (q04 rfl rfl rfl) (RS.mv rfl rfl rfl rfl ?_)
 repeat refine RS.no (want0 rfl rfl rfl rfl) rfl rfl ?_
 refine RS.q (u:=.bool true) rfl (q04 rfl rfl rfl) ?_
 refine sd ?_
 exact ⟨_,_,⟨rfl,rfl⟩,(Nat.zero_le _),Gh.toC (n1:=9) ⟨rfl,rfl,trivial⟩ rfl (Nat.zero_le _) (by simp)⟩
 replace h39:=q09 h34 h39
 rcases q0j (r19.2.1 != 2) with h35 | h35
 replace h39:=q0a h35 h39
 replace h39:=Option.some.inj h39
 subst h39
 refine sr ?_
 refine RS.q rfl (q02 rfl rfl (q0c _ _ _) rfl) (RS.mv rfl rfl rfl rfl (RS.op (want1 rfl rfl rfl h27) (q06 rfl) rfl rfl (RS.op (want1 rfl rfl rfl h27) (q02 rfl rfl (q0c _ _ _) rfl) rfl rfl (RS.q (u:=.bool (r3.2 != 2)) rfl (q03 rfl h27 rfl) (RS.mv rfl rfl rfl rfl (RS.op (want1 rfl rfl rfl h28) (q06 rfl) rfl rfl (RS.op (want1 rfl rfl rfl h28) (q02 rfl rfl (q0c _ _ _) rfl) rfl rfl ?_)))))))
 refine RS.q (u:=.bool (r5.2 != 0)) rfl (q03 rfl h28 rfl) (RS.mv rfl rfl rfl rfl (RS.op (want1 rfl rfl rfl h29) (q06 rfl) rfl rfl (RS.op (want1 rfl rfl rfl h29) (q02 rfl rfl (q0c _ _ _) rfl) rfl rfl (RS.q (u:=.bool (r9.2.2 != 0)) rfl (q03 rfl h29 rfl) (RS.mv rfl rfl rfl rfl (RS.op (want1 rfl rfl rfl h30) (q06 rfl) rfl rfl (RS.op (want1 rfl rfl rfl h30) (q02 rfl rfl (q0c _ _ _) rfl) rfl rfl ?_)))))))
 refine RS.q (u:=.bool (r13.2.2 != 0)) rfl (q03 rfl h30 rfl) (RS.mv rfl rfl rfl rfl (RS.op (want1 rfl rfl rfl h31) (q06 rfl) rfl rfl (RS.op (want1 rfl rfl rfl h31) (q02 rfl rfl (q0c _ _ _) rfl) rfl rfl (RS.q (u:=.bool (r17.2.2 != 4)) rfl (q03 rfl h31 rfl) (RS.mv rfl rfl rfl rfl (RS.op (want1 rfl rfl rfl h32) (q06 rfl) rfl rfl (RS.op (want1 rfl rfl rfl h32) (q02 rfl rfl (q0c _ _ _) rfl) rfl rfl ?_)))))))
 refine RS.q (u:=.bool (r17.2.1 != 1)) rfl (q03 rfl h32 rfl) (RS.mv rfl rfl rfl rfl (RS.op (want1 rfl rfl rfl h33) (q06 rfl) rfl rfl (RS.op (want1 rfl rfl rfl h33) (q02 rfl rfl (q0c _ _ _) rfl) rfl rfl (RS.q (u:=.bool (r19.2.2 != 0)) rfl (q03 rfl h33 rfl) (RS.mv rfl rfl rfl rfl (RS.op (want1 rfl rfl rfl h34) (q06 rfl) rfl rfl (RS.op (want1 rfl rfl rfl h34) (q02 rfl rfl (q0c _ _ _) rfl) rfl rfl ?_)))))))
 refine RS.q (u:=.bool (r19.2.1 != 2)) rfl (q03 rfl h34 rfl) (RS.mv rfl rfl rfl rfl ?_)
 repeat refine RS.no (want0 rfl rfl rfl h35) rfl rfl ?_
 refine RS.q (u:=.bool true) rfl (q04 rfl h35 rfl) (RS.mv rfl rfl rfl rfl ?_)
 repeat refine RS.no (want0 rfl rfl rfl rfl) rfl rfl ?_
 refine RS.q (u:=.bool true) rfl (q04 rfl rfl rfl) (RS.mv rfl rfl rfl rfl ?_)
 repeat refine RS.no (want0 rfl rfl rfl rfl) rfl rfl ?_
 refine RS.q (u:=.bool true) rfl (q04 rfl rfl rfl) ?_
 refine sd ?_
 exact ⟨_,_,⟨rfl,rfl⟩,(Nat.zero_le _),Gh.toC (n1:=9) ⟨rfl,rfl,trivial⟩ rfl (Nat.zero_le _) (by simp)⟩
 replace h39:=q09 h35 h39
 rcases q0j (r21.2.2 != 0) with h36 | h36
 replace h39:=q0a h36 h39
 replace h39:=Option.some.inj h39
 subst h39
 refine sr ?_
 refine RS.q rfl (q02 rfl rfl (q0c _ _ _) rfl) (RS.mv rfl rfl rfl rfl (RS.op (want1 rfl rfl rfl h27) (q06 rfl) rfl rfl (RS.op (want1 rfl rfl rfl h27) (q02 rfl rfl (q0c _ _ _) rfl) rfl rfl (RS.q (u:=.bool (r3.2 != 2)) rfl (q03 rfl h27 rfl) (RS.mv rfl rfl rfl rfl (RS.op (want1 rfl rfl rfl h28) (q06 rfl) rfl rfl (RS.op (want1 rfl rfl rfl h28) (q02 rfl rfl (q0c _ _ _) rfl) rfl rfl ?_)))))))
 refine RS.q (u:=.bool (r5.2 != 0)) rfl (q03 rfl h28 rfl) (RS.mv rfl rfl rfl rfl (RS.op (want1 rfl rfl rfl h29) (q06 rfl) rfl rfl (RS.op (want1 rfl rfl rfl h29) (q02 rfl rfl (q0c _ _ _) rfl) rfl rfl (RS.q (u:=.bool (r9.2.2 != 0)) rfl (q03 rfl h29 rfl) (RS.mv rfl rfl rfl rfl (RS.op (want1 rfl rfl rfl h30) (q06 rfl) rfl rfl (RS.op (want1 rfl rfl rfl h30) (q02 rfl rfl (q0c _ _ _) rfl) rfl rfl ?_)))))))
 refine RS.q (u:=.bool (r13.2.2 != 0)) rfl (q03 rfl h30 rfl) (RS.mv rfl rfl rfl rfl (RS.op (want1 rfl rfl rfl h31) (q06 rfl) rfl rfl (RS.op (want1 rfl rfl rfl h31) (q02 rfl rfl (q0c _ _ _) rfl) rfl rfl (RS.q (u:=.bool (r17.2.2 != 4)) rfl (q03 rfl h31 rfl) (RS.mv rfl rfl rfl rfl (RS.op (want1 rfl rfl rfl h32) (q06 rfl) rfl rfl (RS.op (want1 rfl rfl rfl h32) (q02 rfl rfl (q0c _ _ _) rfl) rfl rfl ?_)))))))
 refine RS.q (u:=.bool (r17.2.1 != 1)) rfl (q03 rfl h32 rfl) (RS.mv rfl rfl rfl rfl (RS.op (want1 rfl rfl rfl h33) (q06 rfl) rfl rfl (RS.op (want1 rfl rfl rfl h33) (q02 rfl rfl (q0c _ _ _) rfl) rfl rfl (RS.q (u:=.bool (r19.2.2 != 0)) rfl (q03 rfl h33 rfl) (RS.mv rfl rfl rfl rfl (RS.op (want1 rfl rfl rfl h34) (q06 rfl) rfl rfl (RS.op (want1 rfl rfl rfl h34) (q02 rfl rfl (q0c _ _ _) rfl) rfl rfl ?_)))))))
 refine RS.q (u:=.bool (r19.2.1 != 2)) rfl (q03 rfl h34 rfl) (RS.mv rfl rfl rfl rfl (RS.op (want1 rfl rfl rfl h35) (q06 rfl) rfl rfl (RS.op (want1 rfl rfl rfl h35) (q02 rfl rfl (q0c _ _ _) rfl) rfl rfl (RS.q (u:=.bool (r21.2.2 != 0)) rfl (q03 rfl h35 rfl) (RS.mv rfl rfl rfl rfl ?_)))))
 repeat refine RS.no (want0 rfl rfl rfl h36) rfl rfl ?_
 refine RS.q (u:=.bool true) rfl (q04 rfl h36 rfl) (RS.mv rfl rfl rfl rfl ?_)
 repeat refine RS.no (want0 rfl rfl rfl rfl) rfl rfl ?_
 refine RS.q (u:=.bool true) rfl (q04 rfl rfl rfl) ?_
 refine sd ?_
 exact ⟨_,_,⟨rfl,rfl⟩,(Nat.zero_le _),Gh.toC (n1:=9) ⟨rfl,rfl,trivial⟩ rfl (Nat.zero_le _) (by simp)⟩
 replace h39:=q09 h36 h39
 rcases q0j (r23.2.2 != 0) with h37 | h37
 replace h39:=q0a h37 h39
 replace h39:=Option.some.inj h39
 subst h39
 refine sr ?_
 refine RS.q rfl (q02 rfl rfl (q0c _ _ _) rfl) (RS.mv rfl rfl rfl rfl (RS.op (want1 rfl rfl rfl h27) (q06 rfl) rfl rfl (RS.op (want1 rfl rfl rfl h27) (q02 rfl rfl (q0c _ _ _) rfl) rfl rfl (RS.q (u:=.bool (r3.2 != 2)) rfl (q03 rfl h27 rfl) (RS.mv rfl rfl rfl rfl (RS.op (want1 rfl rfl rfl h28) (q06 rfl) rfl rfl (RS.op (want1 rfl rfl rfl h28) (q02 rfl rfl (q0c _ _ _) rfl) rfl rfl ?_)))))))
 refine RS.q (u:=.bool (r5.2 != 0)) rfl (q03 rfl h28 rfl) (RS.mv rfl rfl rfl rfl (RS.op (want1 rfl rfl rfl h29) (q06 rfl) rfl rfl (RS.op (want1 rfl rfl rfl h29) (q02 rfl rfl (q0c _ _ _) rfl) rfl rfl (RS.q (u:=.bool (r9.2.2 != 0)) rfl (q03 rfl h29 rfl) (RS.mv rfl rfl rfl rfl (RS.op (want1 rfl rfl rfl h30) (q06 rfl) rfl rfl (RS.op (want1 rfl rfl rfl h30) (q02 rfl rfl (q0c _ _ _) rfl) rfl rfl ?_)))))))
 refine RS.q (u:=.bool (r13.2.2 != 0)) rfl (q03 rfl h30 rfl) (RS.mv rfl rfl rfl rfl (RS.op (want1 rfl rfl rfl h31) (q06 rfl) rfl rfl (RS.op (want1 rfl rfl rfl h31) (q02 rfl rfl (q0c _ _ _) rfl) rfl rfl (RS.q (u:=.bool (r17.2.2 != 4)) rfl (q03 rfl h31 rfl) (RS.mv rfl rfl rfl rfl (RS.op (want1 rfl rfl rfl h32) (q06 rfl) rfl rfl (RS.op (want1 rfl rfl rfl h32) (q02 rfl rfl (q0c _ _ _) rfl) rfl rfl ?_)))))))
 refine RS.q (u:=.bool (r17.2.1 != 1)) rfl (q03 rfl h32 rfl) (RS.mv rfl rfl rfl rfl (RS.op (want1 rfl rfl rfl h33) (q06 rfl) rfl rfl (RS.op (want1 rfl rfl rfl h33) (q02 rfl rfl (q0c _ _ _) rfl) rfl rfl (RS.q (u:=.bool (r19.2.2 != 0)) rfl (q03 rfl h33 rfl) (RS.mv rfl rfl rfl rfl (RS.op (want1 rfl rfl rfl h34) (q06 rfl) rfl rfl (RS.op (want1 rfl rfl rfl h34) (q02 rfl rfl (q0c _ _ _) rfl) rfl rfl ?_)))))))
 refine RS.q (u:=.bool (r19.2.1 != 2)) rfl (q03 rfl h34 rfl) (RS.mv rfl rfl rfl rfl (RS.op (want1 rfl rfl rfl h35) (q06 rfl) rfl rfl (RS.op (want1 rfl rfl rfl h35) (q02 rfl rfl (q0c _ _ _) rfl) rfl rfl (RS.q (u:=.bool (r21.2.2 != 0)) rfl (q03 rfl h35 rfl) (RS.mv rfl rfl rfl rfl (RS.op (want1 rfl rfl rfl h36) (q06 rfl) rfl rfl (RS.op (want1 rfl rfl rfl h36) (q02 rfl rfl (q0c _ _ _) rfl) rfl rfl ?_)))))))
 refine RS.q (u:=.bool (r23.2.2 != 0)) rfl (q03 rfl h36 rfl) (RS.mv rfl rfl rfl rfl ?_)
 repeat refine RS.no (want0 rfl rfl rfl h37) rfl rfl ?_
 refine RS.q (u:=.bool true) rfl (q04 rfl h37 rfl) ?_
 refine sd ?_
 exact ⟨_,_,⟨rfl,rfl⟩,(Nat.zero_le _),Gh.toC (n1:=9) ⟨rfl,rfl,trivial⟩ rfl (Nat.zero_le _) (by simp)⟩
 replace h39:=q09 h37 h39
 replace h39:=Option.some.inj h39
 subst h39
 refine sr ?_
 refine RS.q rfl (q02 rfl rfl (q0c _ _ _) rfl) (RS.mv rfl rfl rfl rfl (RS.op (want1 rfl rfl rfl h27) (q06 rfl) rfl rfl (RS.op (want1 rfl rfl rfl h27) (q02 rfl rfl (q0c _ _ _) rfl) rfl rfl (RS.q (u:=.bool (r3.2 != 2)) rfl (q03 rfl h27 rfl) (RS.mv rfl rfl rfl rfl (RS.op (want1 rfl rfl rfl h28) (q06 rfl) rfl rfl (RS.op (want1 rfl rfl rfl h28) (q02 rfl rfl (q0c _ _ _) rfl) rfl rfl ?_)))))))
 refine RS.q (u:=.bool (r5.2 != 0)) rfl (q03 rfl h28 rfl) (RS.mv rfl rfl rfl rfl (RS.op (want1 rfl rfl rfl h29) (q06 rfl) rfl rfl (RS.op (want1 rfl rfl rfl h29) (q02 rfl rfl (q0c _ _ _) rfl) rfl rfl (RS.q (u:=.bool (r9.2.2 != 0)) rfl (q03 rfl h29 rfl) (RS.mv rfl rfl rfl rfl (RS.op (want1 rfl rfl rfl h30) (q06 rfl) rfl rfl (RS.op (want1 rfl rfl rfl h30) (q02 rfl rfl (q0c _ _ _) rfl) rfl rfl ?_)))))))
 refine RS.q (u:=.bool (r13.2.2 != 0)) rfl (q03 rfl h30 rfl) (RS.mv rfl rfl rfl rfl (RS.op (want1 rfl rfl rfl h31) (q06 rfl) rfl rfl (RS.op (want1 rfl rfl rfl h31) (q02 rfl rfl (q0c _ _ _) rfl) rfl rfl (RS.q (u:=.bool (r17.2.2 != 4)) rfl (q03 rfl h31 rfl) (RS.mv rfl rfl rfl rfl (RS.op (want1 rfl rfl rfl h32) (q06 rfl) rfl rfl (RS.op (want1 rfl rfl rfl h32) (q02 rfl rfl (q0c _ _ _) rfl) rfl rfl ?_)))))))
 refine RS.q (u:=.bool (r17.2.1 != 1)) rfl (q03 rfl h32 rfl) (RS.mv rfl rfl rfl rfl (RS.op (want1 rfl rfl rfl h33) (q06 rfl) rfl rfl (RS.op (want1 rfl rfl rfl h33) (q02 rfl rfl (q0c _ _ _) rfl) rfl rfl (RS.q (u:=.bool (r19.2.2 != 0)) rfl (q03 rfl h33 rfl) (RS.mv rfl rfl rfl rfl (RS.op (want1 rfl rfl rfl h34) (q06 rfl) rfl rfl (RS.op (want1 rfl rfl rfl h34) (q02 rfl rfl (q0c _ _ _) rfl) rfl rfl ?_)))))))
 refine RS.q (u:=.bool (r19.2.1 != 2)) rfl (q03 rfl h34 rfl) (RS.mv rfl rfl rfl rfl (RS.op (want1 rfl rfl rfl h35) (q06 rfl) rfl rfl (RS.op (want1 rfl rfl rfl h35) (q02 rfl rfl (q0c _ _ _) rfl) rfl rfl (RS.q (u:=.bool (r21.2.2 != 0)) rfl (q03 rfl h35 rfl) (RS.mv rfl rfl rfl rfl (RS.op (want1 rfl rfl rfl h36) (q06 rfl) rfl rfl (RS.op (want1 rfl rfl rfl h36) (q02 rfl rfl (q0c _ _ _) rfl) rfl rfl ?_)))))))
 refine RS.q (u:=.bool (r23.2.2 != 0)) rfl (q03 rfl h36 rfl) (RS.mv rfl rfl rfl rfl (RS.op (want1 rfl rfl rfl h37) (q06 rfl) rfl rfl (RS.op (want1 rfl rfl rfl h37) (q02 rfl rfl (q0c _ _ _) rfl) rfl rfl (RS.q (u:=.bool (r25.2.2 != 13)) rfl (q03 rfl h37 rfl) ?_))))
 refine sd ?_
 exact ⟨_,_,⟨rfl,rfl⟩,(Nat.zero_le _),Gh.toC (n1:=9) ⟨rfl,rfl,trivial⟩ rfl (Nat.zero_le _) (by simp)⟩
theorem q5m (n:Nat)  (r:Bool) (hF:q1h n  = some r) (σ:Sg):EvU Try.prog 12 [] σ (fun u σ'=>u = .bool r∧σ'=σ) :=
 EvU.pure1C (q8f n  r hF) σ
def q98 (z22:Int) (rc1:Int→Option (Bool)) (b38:Bool):Option (Bool) :=
 cond (!b38)
  (some false)
  (rc1 (IntKind.i64.wrap (z22+1)))
def q6p (n:Nat) (r8:GChart) (r10:GChart) (z22:Int) (rc1:Int→Option (Bool)):Nat→Bool→Int→Option (Bool)
 | 0,_,_=>none
 | m2+1,b36,z37 =>
  cond (decide (z37<(r8.Edges.length:Int)))
   (bindO (cond (z22 != z37)
    (bindO (q2l n r8 z22) fun r42 =>
    bindO (q2l n r8 z37) fun r44 =>
    bindO (q37 n r42 r44) fun r46 =>
    some (r46 == 0))
    (some false)) fun b48 =>
   cond b48
    (some false)
    (bindO (cond b36
     (some true)
     (bindO (q2l n r8 z22) fun r52 =>
     bindO (q2l n r10 z37) fun r54 =>
     bindO (q37 n r52 r54) fun r56 =>
     cond (r56 == 0)
      (bindO (idxO r8.Edges z22) fun x59 =>
      bindO (idxO r10.Edges z37) fun x61 =>
      bindO (ref32_SameFS n x59.FS x61.FS) fun r63 =>
      some r63)
      (some false))) fun b65 =>
    (q6p n r8 r10 z22 rc1 m2) b65 (IntKind.i64.wrap (z37+1))))
   (q98 z22 rc1 b36)
def q97 (n:Nat)  : Option (Bool) :=
 bindO (q1h n) fun r23 =>
 some r23
def q99 (n:Nat) (r8:GChart) (r10:GChart):Nat→Int→Option (Bool)
 | 0,_=>none
 | m1+1,z22 =>
  cond (decide (z22<(r8.Edges.length:Int)))
   (q6p n r8 r10 z22 (q99 n r8 r10 m1) n false 0)
   (q97 n)
def q3k (z33:Int) (rc2:Int→Option (Bool)) (x35:GEdge) (z66:Int):Option (Bool) :=
 bindO (cond (decide ((x35.Kids.length:Int) > 0))
  (some (z66 != x35.To))
  (some false)) fun b68 =>
 cond b68
  (some false)
  (rc2 (IntKind.i64.wrap (z33+1)))
def q2e (x21:GChart) (z33:Int) (rc2:Int→Option (Bool)) (x35:GEdge):Nat→Int→Int→Option (Bool)
 | 0,_,_=>none
 | m3+1,z64,z65 =>
  cond (decide (z65<(x35.Kids.length:Int)))
   (bindO (idxO x35.Kids z65) fun x72 =>
   bindO (cond (decide (x72<0))
    (some true)
    (cond (decide (x72 ≥ z33))
     (some true)
     (bindO (idxO x21.Edges x72) fun x76 =>
     some (x76.From != z64)))) fun b78 =>
   cond b78
    (some false)
    (bindO (idxO x21.Edges x72) fun x81 =>
    (q2e x21 z33 rc2 x35 m3) x81.To (IntKind.i64.wrap (z65+1))))
   (q3k z33 rc2 x35 z64)
def q3j (z17:Int) (rc1:Int→Option (Bool))  : Option (Bool) :=
 rc1 (IntKind.i64.wrap (z17+1))
def q18 (n:Nat) (z17:Int) (rc1:Int→Option (Bool)) (x21:GChart):Nat→Int→Option (Bool)
 | 0,_=>none
 | m2+1,z33 =>
  cond (decide (z33<(x21.Edges.length:Int)))
   (bindO (idxO x21.Edges z33) fun x35 =>
   q2e x21 z33 (q18 n z17 rc1 x21 m2) x35 n x35.From 0)
   (q3j z17 rc1)
def q3i (n:Nat)  : Option (Bool) :=
 bindO (q1h n) fun r18 =>
 some r18
def q0r (n:Nat) (r8:GChart) (r10:GChart):Nat→Int→Option (Bool)
 | 0,_=>none
 | m1+1,z17 =>
  cond (decide (z17<2))
   (bindO (idxO ([r8,r10]) z17) fun x21 =>
   q18 n z17 (q0r n r8 r10 m1) x21 n 0)
   (q3i n)
def q4u (n:Nat) (p1:Int) (p2:List GEdge):Option (Bool) :=
 bindO (q4g n p2 12) fun r3 =>
 cond (!r3)
  (bindO (q1h n) fun r6 =>
  some r6)
  (bindO (q6b n p1 p2) fun r8 =>
  bindO (q4e n r8) fun r10 =>
  q0r n r8 r10 n 0)
theorem qa1 (n:Nat) (p1:Int) (p2:List GEdge) (r:Bool) (hF:q4u n p1 p2=some r):EvU Try.prog 8 [.int .u8 p1,.isl false (List.map cGEdge p2)] ⟨[],0⟩ (fun u _=>u = .bool r∧Bel 0 u):=by
 unfold q4u at hF
 refine EvU.of_body Try.tb_ok fn8 rfl ?_
 refine WPU.ghost (tm':=fr 83 [(0,.int .u8 p1),(1,.isl false (List.map cGEdge p2))]) (Gh.start (Nat.le_of_ble_eq_true rfl)) (Nat.zero_le _) ?_
 refine sr ?_
 refine sd ?_
 obtain ⟨r3,h4,hF⟩:=q00 hF
 refine sr ?_
 refine RS.call (u:=.bool r3) (args:=[.isl false (List.map cGEdge p2),.int .i64 12]) rfl (q0b rfl rfl fn13 hb13 rfl rfl) (ref32_Light_ok n p2 12 r3 h4 _) rfl rfl (RS.q (u:=.bool (!r3)) rfl (op_un rfl rfl rfl rfl) ?_)
 refine sd ?_
 refine WPU.condS (t:=(!r3)) rfl (fun h5=>?_) (fun h5=>?_)
 replace hF:=q0a h5 hF
 refine st ?_
 obtain ⟨r6,h7,hF⟩:=q00 hF
 refine sr ?_
 refine RS.call (u:=.bool r6) (args:=[]) rfl (q0b rfl rfl fn12 hb12 rfl rfl) (q5m n  r6 h7 _) rfl rfl ?_
 refine sd ?_
 refine WPU.ret ?_
 refine st ?_
 have hr:=Option.some.inj hF
 subst hr
 exact ⟨.inr rfl,[.bool r6],q1g rfl (q1b),.bool r6,⟨[],0⟩,Nat.le_refl _,Gh.toR (.bool r6) rfl,rfl,BU.h⟩
 replace hF:=q09 h5 hF
 refine st ?_
 refine WPU.skip ?_
 refine st ?_
 obtain ⟨r8,h9,hF⟩:=q00 hF
 refine sr ?_
 repeat refine RS.mv rfl rfl rfl rfl ?_
 refine RS.call (u:=.agg (cGChart r8)) (args:=[.int .u8 p1,.isl false (List.map cGEdge p2)]) rfl (q0b rfl rfl fn27 hb27 rfl rfl) (law32_built_ok n p1 p2 r8 h9 _) rfl rfl (RS.q (u:=.ptr 0 0 0) (σ':=⟨[(0,.row [.int .i64 0,.nils] 24)],1⟩) rfl (q1i inf24 rfl rfl) (RS.opn (u:=.junk) (σ':=⟨[(0,.row (cGChart r8) 24)],1⟩) rfl (q0h (q01 inf24) rfl rfl rfl rfl rfl rfl rfl rfl) rfl ?_))
 refine sd ?_
 obtain ⟨r10,h11,hF⟩:=q00 hF
 refine WPU.drawE Try.tb_ok [(5,3)] (by kernel_rfl) ?_
 refine RD.q (u:=.agg (cGChart r8)) rfl (q0o und24 rfl (q01 inf24) rfl rfl rfl) (RD.q (u:=.agg (cGChart r8)) rfl (q0o und24 rfl (q01 inf24) rfl rfl rfl) (RD.free (u:=.agg (cGChart r10)) (args:=[.agg (cGChart r8)]) rfl (q0b rfl rfl fn25 hb25 rfl rfl) (fun s=>q8g n r8 r10 h11 s) rfl rfl (RD.act (u:=.sl 1 0 2 2) (σ':=⟨[(1,.row [.int .i64 r8.Words,.isl false (List.map cGEdge r8.Edges),.int .i64 r10.Words,.isl false (List.map cGEdge r10.Edges)] 24),(0,.row (cGChart r8) 24)],2⟩) rfl (q71 und55 inf24 rfl rfl rfl rfl rfl rfl rfl) rfl rfl ?_)))
 refine RD.q (u:=.int .i64 2) rfl (q0l rfl rfl rfl (by simp only [lenU,live,gt,Nat.beq,cond_true,cond_false,B.st,und55]<;>rfl)) ?_
 refine RD.mv rfl rfl rfl rfl ?_
 refine RD.done ⟨by kernel_rfl,⟨q06 rfl,trivial⟩,?_⟩
 refine st ?_
 refine WPU.ghost (tm':=fr 83 [(23,.isl false (List.map cGChart ([r8,r10]))),(24,.int .i64 2),(25,.int .i64 0)]) (σ':=⟨[(0,.row (cGChart r8) 24)],2⟩) (Gh.trans (Gh.sub (l':=[(23,.sl 1 0 2 2),(24,.int .i64 2),(25,.int .i64 0)]) ⟨rfl,rfl,rfl,trivial⟩) (Gh.fzS (l':=[(23,.isl false (List.map cGChart ([r8,r10]))),(24,.int .i64 2),(25,.int .i64 0)]) (h':=[(0,.row (cGChart r8) 24)]) 1 (.row [.int .i64 r8.Words,.isl false (List.map cGEdge r8.Edges),.int .i64 r10.Words,.isl false (List.map cGEdge r10.Edges)] 24) 2 rfl (by simp) (by simp only [fzS,oneU,q0x,q0m,q1x,q12,q20,q16,q15,q14,q13,q0y,q1y,q1z,q1w,q21,q39,junkT,q69,q6h,q0k,Nat.reduceLeDiff,Nat.reduceMul,List.length_cons,List.length_nil,Nat.reduceAdd]<;>simp only [chunks,List.take,List.drop,List.map,cGChart]) (by simp only [fzH,fzB,ug,Nat.beq,cond_true,cond_false,oneU,q0x,q0m,q1x,q12,q20,q16,q15,q14,q13,q0y,q1y,q1z,q1w,q21,q39,junkT,q69,q6h,q0k,Nat.reduceLeDiff,Nat.reduceMul,List.length_cons,List.length_nil,Nat.reduceAdd]<;>simp only [chunks,List.take,List.drop,List.map,cGChart]))) (Nat.zero_le _) ?_
 refine WPU.ghost (tm':=fr 83 [(23,.isl false (List.map cGChart ([r8,r10]))),(24,.int .i64 2),(25,.int .i64 0)]) (Gh.sub ⟨rfl,rfl,rfl,trivial⟩) (Nat.zero_le _) ?_
 refine WPU.loopK (fun m tm σ=>∃ z17:Int,q0r n r8 r10 m z17=some r∧tm=fr 83 [(23,.isl false (List.map cGChart ([r8,r10]))),(24,.int .i64 2),(25,.int .i64 z17)]∧σ=⟨[(0,.row (cGChart r8) 24)],2⟩) (fun tm σ=>q3i n=some r∧tm=fr 83 []∧σ=⟨[(0,.row (cGChart r8) 24)],2⟩) n ⟨0,hF,rfl,rfl⟩ ?_ ?_
 rintro _ _ ⟨hF,rfl,rfl⟩
 unfold q3i at hF
 refine st ?_
 obtain ⟨r18,h19,hF⟩:=q00 hF
 refine sr ?_
 refine RS.call (u:=.bool r18) (args:=[]) rfl (q0b rfl rfl fn12 hb12 rfl rfl) (q5m n  r18 h19 _) rfl rfl ?_
 refine sd ?_
 refine WPU.ret ?_
 refine st ?_
 have hr:=Option.some.inj hF
 subst hr
 exact ⟨.inr rfl,[.bool r18],q1g rfl (q1b),.bool r18,⟨[],0⟩,Nat.le_refl _,Gh.toR (.bool r18) rfl,rfl,BU.h⟩
 rintro m1 _ _ ⟨z17,hF,rfl,rfl⟩
 rcases m1 with _ | m1
 cases hF
 unfold q0r at hF
 refine sr ?_
 refine RS.q rfl (q02 rfl rfl (q1q _ _ _) rfl) ?_
 refine sd ?_
 refine WPU.condS (t:=(decide (z17<2))) rfl (fun h20=>?_) (fun h20=>?_)
 replace hF:=q0a h20 hF
 refine st ?_
 refine WPU.skip ?_
 refine st ?_
 refine WPU.block ?_
 refine st ?_
 obtain ⟨x21,h22,hF⟩:=q00 hF
 refine sr ?_
 refine RS.q (u:=.iptr (cGChart x21)) rfl (q1e rfl rfl (q0p cGChart und55 (q01 inf24) len_cGChart h22 rfl)) (RS.q (u:=.agg (cGChart x21)) rfl (q3a und24 rfl (q01 inf24) rfl rfl) (RS.q (u:=.ptr 2 0 0) (σ':=⟨[(2,.row [.int .i64 0,.nils] 24),(0,.row (cGChart r8) 24)],3⟩) rfl (q1i inf24 rfl rfl) (RS.opn (u:=.junk) (σ':=⟨[(2,.row (cGChart x21) 24),(0,.row (cGChart r8) 24)],3⟩) rfl (q0h (q01 inf24) rfl rfl rfl rfl rfl rfl rfl rfl) rfl ?_)))
 refine se ?_
 refine RS.q (u:=.ptr 2 0 1) rfl (q07 und24 rfl (q01 inf22) rfl rfl rfl) (RS.q (u:=.isl false (List.map cGEdge x21.Edges)) rfl (q05 und22 rfl rfl rfl rfl) (RS.q rfl (q0l rfl rfl rfl (q0e cGEdge und22)) (RS.mv rfl rfl rfl rfl ?_)))
 refine sd ?_
 refine WPU.ghost (tm':=fr 83 [(7,.ptr 2 0 0),(23,.isl false (List.map cGChart ([r8,r10]))),(24,.int .i64 2),(25,.int .i64 z17),(30,.isl false (List.map cGEdge x21.Edges)),(31,.int .i64 (x21.Edges.length:Int)),(32,.int .i64 0)]) (Gh.sub ⟨rfl,rfl,rfl,rfl,rfl,rfl,rfl,trivial⟩) (Nat.zero_le _) ?_
 refine WPU.loopK (fun m tm σ=>∃ z33:Int,q18 n z17 (q0r n r8 r10 m1) x21 m z33=some r∧tm=fr 83 [(7,.ptr 2 0 0),(23,.isl false (List.map cGChart ([r8,r10]))),(24,.int .i64 2),(25,.int .i64 z17),(30,.isl false (List.map cGEdge x21.Edges)),(31,.int .i64 (x21.Edges.length:Int)),(32,.int .i64 z33)]∧σ=⟨[(2,.row (cGChart x21) 24),(0,.row (cGChart r8) 24)],3⟩) (fun tm σ=>q3j z17 (q0r n r8 r10 m1)=some r∧tm=fr 83 [(23,.isl false (List.map cGChart ([r8,r10]))),(24,.int .i64 2),(25,.int .i64 z17)]∧σ=⟨[(2,.row (cGChart x21) 24),(0,.row (cGChart r8) 24)],3⟩) n ⟨0,hF,rfl,rfl⟩ ?_ ?_
 rintro _ _ ⟨hF,rfl,rfl⟩
 unfold q3j at hF
 refine sr ?_
 refine RS.q rfl (q02 rfl rfl (q35 _ _ _) rfl) (RS.mv rfl rfl rfl rfl ?_)
 refine sd ?_
 exact ⟨m1,_,_,Nat.lt_succ_self _,⟨(IntKind.i64.wrap (z17+1)),hF,rfl,rfl⟩,(Nat.zero_le _),Gh.toC (n1:=2) ⟨rfl,rfl,rfl,trivial⟩ rfl (Nat.zero_le _) (by simp)⟩
 rintro m2 _ _ ⟨z33,hF,rfl,rfl⟩
 rcases m2 with _ | m2
 cases hF
 unfold q18 at hF
 refine sr ?_
 refine RS.q rfl (q02 rfl rfl (q1q _ _ _) rfl) ?_
 refine sd ?_
 refine WPU.condS (t:=(decide (z33<(x21.Edges.length:Int)))) rfl (fun h34=>?_) (fun h34=>?_)
 replace hF:=q0a h34 hF
 refine st ?_
 refine WPU.skip ?_
 refine st ?_
 refine WPU.block ?_
 refine st ?_
 obtain ⟨x35,h36,hF⟩:=q00 hF
 refine sr ?_
 refine RS.q (u:=.iptr (cGEdge x35)) rfl (q1e rfl rfl (q0p cGEdge und22 (q01 inf42) q0f h36 rfl)) (RS.q (u:=.agg (cGEdge x35)) rfl (q3a und42 rfl (q01 inf42) rfl rfl) (RS.q (u:=.ptr 3 0 0) (σ':=⟨[(3,.row [.int .i64 0,.int .i64 0,.int .i64 0,.int .i64 0,.str [],.nils,.int .i64 0,.str [],.int .i64 0,.int .i64 0,.nils,.nils] 42),(2,.row (cGChart x21) 24),(0,.row (cGChart r8) 24)],4⟩) rfl (q1i inf42 rfl rfl) (RS.as rfl rfl rfl rfl (RS.opn (u:=.junk) (σ':=⟨[(3,.row (cGEdge x35) 42),(2,.row (cGChart x21) 24),(0,.row (cGChart r8) 24)],4⟩) rfl (q0h (q01 inf42) rfl rfl rfl rfl rfl rfl rfl rfl) rfl ?_))))
 refine se ?_
 refine RS.q (u:=.ptr 3 0 0) rfl (q07 und42 rfl (q01 inf3) rfl rfl rfl) (RS.q (u:=.int .i64 x35.From) rfl (q05 und3 rfl rfl rfl rfl) ?_)
 refine se ?_
 refine RS.q (u:=.ptr 3 0 5) rfl (q07 und42 rfl (q01 inf34) rfl rfl rfl) (RS.q (u:=.isl false (List.map (cI .i64) x35.Kids)) rfl (q05 und34 rfl rfl rfl rfl) (RS.q rfl (q0l rfl rfl rfl (q0e (cI .i64) und34)) (RS.mv rfl rfl rfl rfl ?_)))
 refine sd ?_
 refine WPU.ghost (tm':=fr 83 [(7,.ptr 2 0 0),(8,.int .i64 z33),(9,.ptr 3 0 0),(10,.int .i64 x35.From),(23,.isl false (List.map cGChart ([r8,r10]))),(24,.int .i64 2),(25,.int .i64 z17),(30,.isl false (List.map cGEdge x21.Edges)),(31,.int .i64 (x21.Edges.length:Int)),(32,.int .i64 z33),(40,.isl false (List.map (cI .i64) x35.Kids)),(41,.int .i64 (x35.Kids.length:Int)),(42,.int .i64 0)]) (Gh.sub ⟨rfl,rfl,rfl,rfl,rfl,rfl,rfl,rfl,rfl,rfl,rfl,rfl,rfl,trivial⟩) (Nat.zero_le _) ?_
 refine WPU.loopK (fun m tm σ=>∃ z64:Int,∃ z65:Int,q2e x21 z33 (q18 n z17 (q0r n r8 r10 m1) x21 m2) x35 m z64 z65=some r∧tm=fr 83 [(7,.ptr 2 0 0),(8,.int .i64 z33),(9,.ptr 3 0 0),(10,.int .i64 z64),(23,.isl false (List.map cGChart ([r8,r10]))),(24,.int .i64 2),(25,.int .i64 z17),(30,.isl false (List.map cGEdge x21.Edges)),(31,.int .i64 (x21.Edges.length:Int)),(32,.int .i64 z33),(40,.isl false (List.map (cI .i64) x35.Kids)),(41,.int .i64 (x35.Kids.length:Int)),(42,.int .i64 z65)]∧σ=⟨[(3,.row (cGEdge x35) 42),(2,.row (cGChart x21) 24),(0,.row (cGChart r8) 24)],4⟩) (fun tm σ=>∃ z66:Int,q3k z33 (q18 n z17 (q0r n r8 r10 m1) x21 m2) x35 z66=some r∧tm=fr 83 [(7,.ptr 2 0 0),(9,.ptr 3 0 0),(10,.int .i64 z66),(23,.isl false (List.map cGChart ([r8,r10]))),(24,.int .i64 2),(25,.int .i64 z17),(30,.isl false (List.map cGEdge x21.Edges)),(31,.int .i64 (x21.Edges.length:Int)),(32,.int .i64 z33)]∧σ=⟨[(3,.row (cGEdge x35) 42),(2,.row (cGChart x21) 24),(0,.row (cGChart r8) 24)],4⟩) n ⟨x35.From,0,hF,rfl,rfl⟩ ?_ ?_
 rintro _ _ ⟨z66,hF,rfl,rfl⟩
 unfold q3k at hF
 refine st ?_
 obtain ⟨b68,h69,hF⟩:=q00 hF
 refine WPU.joinK (fun tm σ=>tm=fr 83 [(7,.ptr 2 0 0),(23,.isl false (List.map cGChart ([r8,r10]))),(24,.int .i64 2),(25,.int .i64 z17),(30,.isl false (List.map cGEdge x21.Edges)),(31,.int .i64 (x21.Edges.length:Int)),(32,.int .i64 z33),(79,.bool b68)]∧σ=⟨[(3,.row (cGEdge x35) 42),(2,.row (cGChart x21) 24),(0,.row (cGChart r8) 24)],4⟩) ?_ ?_
 rintro _ _ ⟨rfl,rfl⟩
 refine st ?_
 refine WPU.condS (t:=b68) rfl (fun h70=>?_) (fun h70=>?_)
 replace hF:=q0a h70 hF
 refine sr ?_
 refine sd ?_
 refine WPU.ret ?_
 refine st ?_
 have hr:=Option.some.inj hF
 subst hr
 exact ⟨.inr rfl,[.bool false],q1g rfl (q1b),.bool false,⟨[],0⟩,Nat.le_refl _,Gh.toR (.bool false) rfl,rfl,BU.h⟩
 replace hF:=q09 h70 hF
 refine st ?_
 refine WPU.skip ?_
 refine sr ?_
 refine RS.q rfl (q02 rfl rfl (q35 _ _ _) rfl) (RS.mv rfl rfl rfl rfl ?_)
 refine sd ?_
 exact ⟨m2,_,_,Nat.lt_succ_self _,⟨(IntKind.i64.wrap (z33+1)),hF,rfl,rfl⟩,(Nat.zero_le _),Gh.toC (n1:=3) ⟨rfl,rfl,rfl,rfl,rfl,rfl,rfl,trivial⟩ rfl (Nat.zero_le _) (by simp)⟩
 rcases q0j (decide ((x35.Kids.length:Int) > 0)) with h67 | h67
 replace h69:=q0a h67 h69
 replace h69:=Option.some.inj h69
 subst h69
 refine sr ?_
 refine RS.q (u:=.ptr 3 0 5) rfl (q07 und42 rfl (q01 inf34) rfl rfl rfl) (RS.q (u:=.isl false (List.map (cI .i64) x35.Kids)) rfl (q05 und34 rfl rfl rfl rfl) (RS.q rfl (q0l rfl rfl rfl (q0e (cI .i64) und34)) (RS.q rfl (q02 rfl rfl (q6a _ _ _) rfl) (RS.mv rfl rfl rfl rfl (RS.op (want1 rfl rfl rfl h67) (q06 rfl) rfl rfl (RS.op (u:=.ptr 3 0 1) (want1 rfl rfl rfl h67) (q07 und42 rfl (q01 inf3) rfl rfl rfl) rfl rfl (RS.op (u:=.int .i64 x35.To) (want1 rfl rfl rfl h67) (q05 und3 rfl rfl rfl rfl) rfl rfl ?_)))))))
 refine RS.op (want1 rfl rfl rfl h67) (q02 rfl rfl (q0c _ _ _) rfl) rfl rfl (RS.q (u:=.bool (z66 != x35.To)) rfl (q04 rfl h67 rfl) ?_)
 refine sd ?_
 exact ⟨_,_,⟨rfl,rfl⟩,(Nat.zero_le _),Gh.toC (n1:=4) ⟨rfl,rfl,rfl,rfl,rfl,rfl,rfl,rfl,trivial⟩ rfl (Nat.zero_le _) (by simp)⟩
 replace h69:=q09 h67 h69
 replace h69:=Option.some.inj h69
 subst h69
 refine sr ?_
 refine RS.q (u:=.ptr 3 0 5) rfl (q07 und42 rfl (q01 inf34) rfl rfl rfl) (RS.q (u:=.isl false (List.map (cI .i64) x35.Kids)) rfl (q05 und34 rfl rfl rfl rfl) (RS.q rfl (q0l rfl rfl rfl (q0e (cI .i64) und34)) (RS.q rfl (q02 rfl rfl (q6a _ _ _) rfl) (RS.mv rfl rfl rfl rfl ?_))))
 repeat refine RS.no (want0 rfl rfl rfl h67) rfl rfl ?_
 refine RS.q (u:=.bool false) rfl (q03 rfl h67 rfl) ?_
 refine sd ?_
 exact ⟨_,_,⟨rfl,rfl⟩,(Nat.zero_le _),Gh.toC (n1:=4) ⟨rfl,rfl,rfl,rfl,rfl,rfl,rfl,rfl,trivial⟩ rfl (Nat.zero_le _) (by simp)⟩
 rintro m3 _ _ ⟨z64,z65,hF,rfl,rfl⟩
 rcases m3 with _ | m3
 cases hF
 unfold q2e at hF
 refine sr ?_
 refine RS.q rfl (q02 rfl rfl (q1q _ _ _) rfl) ?_
 refine sd ?_
 refine WPU.condS (t:=(decide (z65<(x35.Kids.length:Int)))) rfl (fun h71=>?_) (fun h71=>?_)
 replace hF:=q0a h71 hF
 refine st ?_
 refine WPU.skip ?_
 refine st ?_
 refine WPU.block ?_
 refine st ?_
 obtain ⟨x72,h73,hF⟩:=q00 hF
 refine sr ?_
 refine RS.q (u:=.iptr [.int .i64 x72]) rfl (q1e rfl rfl (q0p (cI .i64) und34 (q01 inf3) (q2j .i64) h73 rfl)) (RS.q (u:=.int .i64 x72) rfl (q19 und3 rfl rfl rfl) ?_)
 refine sd ?_
 obtain ⟨b78,h79,hF⟩:=q00 hF
 refine WPU.joinK (fun tm σ=>tm=fr 83 [(7,.ptr 2 0 0),(8,.int .i64 z33),(9,.ptr 3 0 0),(12,.int .i64 x72),(23,.isl false (List.map cGChart ([r8,r10]))),(24,.int .i64 2),(25,.int .i64 z17),(30,.isl false (List.map cGEdge x21.Edges)),(31,.int .i64 (x21.Edges.length:Int)),(32,.int .i64 z33),(40,.isl false (List.map (cI .i64) x35.Kids)),(41,.int .i64 (x35.Kids.length:Int)),(42,.int .i64 z65),(62,.bool b78)]∧σ=⟨[(3,.row (cGEdge x35) 42),(2,.row (cGChart x21) 24),(0,.row (cGChart r8) 24)],4⟩) ?_ ?_
 rintro _ _ ⟨rfl,rfl⟩
 refine st ?_
 refine WPU.condS (t:=b78) rfl (fun h80=>?_) (fun h80=>?_)
 replace hF:=q0a h80 hF
 refine sr ?_
 refine sd ?_
 refine WPU.ret ?_
 refine st ?_
 have hr:=Option.some.inj hF
 subst hr
 exact ⟨.inr rfl,[.bool false],q1g rfl (q1b),.bool false,⟨[],0⟩,Nat.le_refl _,Gh.toR (.bool false) rfl,rfl,BU.h⟩
 replace hF:=q09 h80 hF
 refine st ?_
 refine WPU.skip ?_
 refine st ?_
 obtain ⟨x81,h82,hF⟩:=q00 hF
 refine sr ?_
 refine RS.q (u:=.ptr 2 0 1) rfl (q07 und24 rfl (q01 inf22) rfl rfl rfl) (RS.q (u:=.isl false (List.map cGEdge x21.Edges)) rfl (q05 und22 rfl rfl rfl rfl) (RS.mv rfl rfl rfl rfl (RS.q (u:=.iptr (cGEdge x81)) rfl (q1e rfl rfl (q0p cGEdge und22 (q01 inf42) q0f h82 rfl)) (RS.q (u:=.iptr [.int .i64 x81.To,.int .i64 x81.Unary,.int .i64 x81.Kind,.str x81.Name,.isl false (List.map (cI .i64) x81.Kids),.int .i64 x81.Lex.Kind,.str x81.Lex.Name,.int .i64 x81.Lex.From,.int .i64 x81.Lex.To,.isl false (List.map cGDeriv x81.Lex.Kids),.isl false (List.map cGNode x81.FS.Nodes)]) rfl (q4f und42 rfl (q01 inf3) rfl rfl) (RS.q (u:=.int .i64 x81.To) rfl (q19 und3 rfl rfl rfl) ?_)))))
 refine se ?_
 refine RS.q rfl (q02 rfl rfl (q35 _ _ _) rfl) (RS.mv rfl rfl rfl rfl ?_)
 refine sd ?_
 exact ⟨m3,_,_,Nat.lt_succ_self _,⟨x81.To,(IntKind.i64.wrap (z65+1)),hF,rfl,rfl⟩,(Nat.zero_le _),Gh.toC (n1:=4) ⟨rfl,rfl,rfl,rfl,rfl,rfl,rfl,rfl,rfl,rfl,rfl,rfl,rfl,trivial⟩ rfl (Nat.zero_le _) (by simp)⟩
 rcases q0j (decide (x72<0)) with h74 | h74
 replace h79:=q0a h74 h79
 replace h79:=Option.some.inj h79
 subst h79
 refine sr ?_
 refine RS.q rfl (q02 rfl rfl (q1q _ _ _) rfl) (RS.mv rfl rfl rfl rfl ?_)
 repeat refine RS.no (want0 rfl rfl rfl h74) rfl rfl ?_
 refine RS.q (u:=.bool true) rfl (q04 rfl h74 rfl) (RS.mv rfl rfl rfl rfl ?_)
 repeat refine RS.no (want0 rfl rfl rfl rfl) rfl rfl ?_
 refine RS.q (u:=.bool true) rfl (q04 rfl rfl rfl) ?_
 refine sd ?_
 exact ⟨_,_,⟨rfl,rfl⟩,(Nat.zero_le _),Gh.toC (n1:=4) ⟨rfl,rfl,rfl,rfl,rfl,rfl,rfl,rfl,rfl,rfl,rfl,rfl,rfl,rfl,trivial⟩ rfl (Nat.zero_le _) (by simp)⟩
 replace h79:=q09 h74 h79
 rcases q0j (decide (x72 ≥ z33)) with h75 | h75
 replace h79:=q0a h75 h79
 replace h79:=Option.some.inj h79
 subst h79
 refine sr ?_
 refine RS.q rfl (q02 rfl rfl (q1q _ _ _) rfl) (RS.mv rfl rfl rfl rfl (RS.op (want1 rfl rfl rfl h74) (q06 rfl) rfl rfl (RS.op (want1 rfl rfl rfl h74) (q06 rfl) rfl rfl (RS.op (want1 rfl rfl rfl h74) (q02 rfl rfl (qah _ _ _) rfl) rfl rfl (RS.q (u:=.bool (decide (x72 ≥ z33))) rfl (q03 rfl h74 rfl) (RS.mv rfl rfl rfl rfl ?_))))))
 repeat refine RS.no (want0 rfl rfl rfl h75) rfl rfl ?_
 refine RS.q (u:=.bool true) rfl (q04 rfl h75 rfl) ?_
 refine sd ?_
 exact ⟨_,_,⟨rfl,rfl⟩,(Nat.zero_le _),Gh.toC (n1:=4) ⟨rfl,rfl,rfl,rfl,rfl,rfl,rfl,rfl,rfl,rfl,rfl,rfl,rfl,rfl,trivial⟩ rfl (Nat.zero_le _) (by simp)⟩
 replace h79:=q09 h75 h79
 obtain ⟨x76,h77,h79⟩:=q00 h79
 replace h79:=Option.some.inj h79
 subst h79
 refine sr ?_
 refine RS.q rfl (q02 rfl rfl (q1q _ _ _) rfl) (RS.mv rfl rfl rfl rfl (RS.op (want1 rfl rfl rfl h74) (q06 rfl) rfl rfl (RS.op (want1 rfl rfl rfl h74) (q06 rfl) rfl rfl (RS.op (want1 rfl rfl rfl h74) (q02 rfl rfl (qah _ _ _) rfl) rfl rfl (RS.q (u:=.bool (decide (x72 ≥ z33))) rfl (q03 rfl h74 rfl) (RS.mv rfl rfl rfl rfl (RS.op (u:=.ptr 2 0 1) (want1 rfl rfl rfl h75) (q07 und24 rfl (q01 inf22) rfl rfl rfl) rfl rfl ?_)))))))
 refine RS.op (u:=.isl false (List.map cGEdge x21.Edges)) (want1 rfl rfl rfl h75) (q05 und22 rfl rfl rfl rfl) rfl rfl (RS.op (want1 rfl rfl rfl h75) (q06 rfl) rfl rfl (RS.op (u:=.iptr (cGEdge x76)) (want1 rfl rfl rfl h75) (q1e rfl rfl (q0p cGEdge und22 (q01 inf42) q0f h77 rfl)) rfl rfl (RS.op (u:=.iptr (cGEdge x76)) (want1 rfl rfl rfl h75) (q4f und42 rfl (q01 inf3) rfl rfl) rfl rfl (RS.op (u:=.int .i64 x76.From) (want1 rfl rfl rfl h75) (q19 und3 rfl rfl rfl) rfl rfl (RS.op (want1 rfl rfl rfl h75) (q06 rfl) rfl rfl (RS.op (want1 rfl rfl rfl h75) (q02 rfl rfl (q0c _ _ _) rfl) rfl rfl (RS.q (u:=.bool (x76.From != z64)) rfl (q03 rfl h75 rfl) ?_)))))))
 refine sd ?_
 exact ⟨_,_,⟨rfl,rfl⟩,(Nat.zero_le _),Gh.toC (n1:=4) ⟨rfl,rfl,rfl,rfl,rfl,rfl,rfl,rfl,rfl,rfl,rfl,rfl,rfl,rfl,trivial⟩ rfl (Nat.zero_le _) (by simp)⟩
 replace hF:=q09 h71 hF
 refine st ?_
 refine WPU.exit ?_
 refine st ?_
 exact ⟨_,_,⟨z64,hF,rfl,rfl⟩,(Nat.zero_le _),Gh.toC (n1:=4) ⟨rfl,rfl,rfl,rfl,rfl,rfl,rfl,rfl,rfl,trivial⟩ rfl (Nat.zero_le _) (by simp)⟩
 replace hF:=q09 h34 hF
 refine st ?_
 refine WPU.exit ?_
 refine st ?_
 exact ⟨_,_,⟨hF,rfl,rfl⟩,(Nat.zero_le _),Gh.toC (n1:=3) ⟨rfl,rfl,rfl,trivial⟩ rfl (Nat.zero_le _) (by simp)⟩
 replace hF:=q09 h20 hF
 refine st ?_
 refine WPU.exit ?_
 refine st ?_
 exact ⟨_,_,⟨hF,rfl,rfl⟩,(Nat.zero_le _),Gh.toC (n1:=2) trivial rfl (Nat.zero_le _) (by simp)⟩
end Go.Proofs
end
