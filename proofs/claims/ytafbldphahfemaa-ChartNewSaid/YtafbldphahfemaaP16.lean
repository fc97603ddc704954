/-
  Texts of the walk: SrtI C0 C2 C3 C4 PlA C5.
-/
import Derived.Shelf.SlSortCmp.Whole1
import Derived.Test.YtafbldphahfemaaP15
section
namespace Go.Proofs
open Go
set_option maxRecDepth 100000
def Try.sortI_ren:Shelf.Ren where
 f:=fun x=>match x with
  | 6=>44
  | 15=>57
  | 14=>56
  | 28=>68
  | 29=>69
  | 20=>60
  | 21=>61
  | 22=>62
  | 23=>63
  | 24=>64
  | 25=>65
  | 26=>66
  | 27=>67
  | 46=>70
  | 47=>71
  | 48=>72
  | 49=>73
  | 50=>74
  | 57=>75
  | n=>n
 t:=fun x=>match x with
  | 22=>34
  | 24=>3
  | 25=>67
  | 3=>3
  | 39=>79
  | 0=>0
  | 53=>92
  | 55=>80
  | 4=>4
  | 46=>85
  | 45=>84
  | 50=>89
  | 5=>5
  | 9=>9
  | 66=>94
  | 70=>98
  | 76=>100
  | 77=>101
  | n=>n
 g:=fun x=>x
theorem Try.sortI:SlLaysF.n6 Try.prog Try.sortI_ren where
 mixed:=rfl
 f6:=⟨Try.f44.name,by decide,Try.func44.trans rfl⟩
 f14:=⟨Try.f56.name,by decide,Try.func56.trans rfl⟩
 f15:=Try.func57.trans rfl
 f20:=⟨Try.f60.name,by decide,Try.func60.trans rfl⟩
 f21:=⟨Try.f61.name,by decide,Try.func61.trans rfl⟩
 f22:=⟨Try.f62.name,by decide,Try.func62.trans rfl⟩
 f23:=⟨Try.f63.name,by decide,Try.func63.trans rfl⟩
 f24:=⟨Try.f64.name,by decide,Try.func64.trans rfl⟩
 f25:=⟨Try.f65.name,by decide,Try.func65.trans rfl⟩
 f26:=⟨Try.f66.name,by decide,Try.func66.trans rfl⟩
 f27:=⟨Try.f67.name,by decide,Try.func67.trans rfl⟩
 f28:=Try.func68.trans rfl
 f29:=Try.func69.trans rfl
 f46:=⟨Try.f70.name,by decide,Try.func70.trans rfl⟩
 f47:=Try.func71.trans rfl
 f48:=Try.func72.trans rfl
 f49:=⟨Try.f73.name,by decide,Try.func73.trans rfl⟩
 f50:=⟨Try.f74.name,by decide,Try.func74.trans rfl⟩
 f57:=⟨Try.f75.name,by decide,Try.func75.trans rfl⟩
 t0:=Try.underlying0
 a0:=Try.isAgg0
 z0:=Try.sizeOf0
 v0:=Try.zeroValue0
 t3:=Try.underlying3
 a3:=Try.isAgg3
 z3:=Try.sizeOf3
 v3:=Try.zeroValue3
 t4:=Try.underlying4
 a4:=Try.isAgg4
 z4:=Try.sizeOf4
 v4:=Try.zeroValue4
 t5:=Try.underlying5
 a5:=Try.isAgg5
 z5:=Try.sizeOf5
 v5:=Try.zeroValue5
 t9:=Try.underlying9
 a9:=Try.isAgg9
 z9:=Try.sizeOf9
 v9:=Try.zeroValue9
 t22:=Try.underlying34
 a22:=Try.isAgg34
 z22:=Try.sizeOf34
 v22:=Try.zeroValue34
 a24:=Try.isAgg3
 z24:=Try.sizeOf3
 t25:=Try.underlying67
 a25:=Try.isAgg67
 z25:=Try.sizeOf67
 v25:=Try.zeroValue67
 t39:=Try.underlying79
 a39:=Try.isAgg79
 z39:=Try.sizeOf79
 v39:=Try.zeroValue79
 t45:=Try.underlying84
 a45:=Try.isAgg84
 z45:=Try.sizeOf84
 v45:=Try.zeroValue84
 t46:=Try.underlying85
 a46:=Try.isAgg85
 z46:=Try.sizeOf85
 v46:=Try.zeroValue85
 t50:=Try.underlying89
 a50:=Try.isAgg89
 z50:=Try.sizeOf89
 v50:=Try.zeroValue89
 t53:=Try.underlying92
 a53:=Try.isAgg92
 z53:=Try.sizeOf92
 v53:=Try.zeroValue92
 t55:=Try.underlying80
 a55:=Try.isAgg80
 z55:=Try.sizeOf80
 v55:=Try.zeroValue80
 t66:=Try.underlying94
 a66:=Try.isAgg94
 z66:=Try.sizeOf94
 v66:=Try.zeroValue94
 t70:=Try.underlying98
 a70:=Try.isAgg98
 z70:=Try.sizeOf98
 v70:=Try.zeroValue98
 t76:=Try.underlying100
 a76:=Try.isAgg100
 z76:=Try.sizeOf100
 v76:=Try.zeroValue100
 t77:=Try.underlying101
 a77:=Try.isAgg101
 z77:=Try.sizeOf101
 v77:=Try.zeroValue101
end Go.Proofs
end
section
namespace Go.Proofs
open Go Go.Rx Go.Vx Go.Shelf
def math_bits_Len (n:Nat) (x:Int):Option Int:=cond (x == 0) (some 0) none
theorem math_bits_Len_ok (n:Nat) (p1:Int) (r:Int) (hF:math_bits_Len n p1=some r) (σ:Sg):EvU Try.prog 57 [.int .u64 p1] σ (fun u σ'=>u = .int .i64 r∧σ'=σ):=by
 unfold math_bits_Len at hF
 cases hp:(p1 == 0) with
 | false=>rw [hp] at hF; cases hF
 | true =>
  rw [hp] at hF
  simp at hF hp
  subst hF; subst hp
  refine EvU.of_same (vs:=[.int .u64 0]) (cv:=.int .i64 0) rfl (fun m=>by simp [renL,ren]) rfl (fun m=>by simp [ren]) (fun w=>?_) σ
  have h:=Any.bits_Len (SlLaysF0.n15.bits (P:=Try.prog) (ρ:=Try.sortI_ren) { Try.sortI with }) 0 w (by omega) (by omega)
  exact h
end Go.Proofs
end
section
namespace Go.Proofs
open Go Go.Rx Go.Vx Try
set_option maxRecDepth 10000
set_option linter.unusedSimpArgs false
set_option linter.unusedVariables false
def slices_insertionSortCmpFunc_int_Canon_1_K1   : Option (Unit) :=
 some ()
def slices_insertionSortCmpFunc_int_Canon_1_L1  : Nat→Option (Unit)
 | 0=>none
 | m1+1 =>
  slices_insertionSortCmpFunc_int_Canon_1_K1
def slices_insertionSortCmpFunc_int_Canon_1 (f3:Int→Int→GChart→(List GDeriv)→Option (Int)) (n:Nat) (c1:GChart) (c2:List GDeriv):Option (Unit) :=
 slices_insertionSortCmpFunc_int_Canon_1_L1 n
theorem slices_insertionSortCmpFunc_int_Canon_1_0 (f3:Int→Int→GChart→(List GDeriv)→Option (Int)) (hf3:∀ (a0:Int) (a1:Int) (a2:GChart) (a3:List GDeriv) (r:Int),f3 a0 a1 a2 a3=some r→EvU Try.prog 45 [.int .i64 a0,.int .i64 a1,.iptr (cGChart a2),.iptr [.isl false (List.map cGDeriv a3)]] ⟨[],0⟩ (fun u _=>u = .int .i64 r∧Bel 0 u)) (n:Nat) (c1:GChart) (c2:List GDeriv) (r:Unit) (hF:slices_insertionSortCmpFunc_int_Canon_1 f3 n c1 c2=some r):EvU Try.prog 60 [.isl false (List.map (cI .i64) ([]:List Int)),.int .i64 0,.int .i64 0,.fn (.func 45) [] [.iptr (cGChart c1),.iptr [.isl false (List.map cGDeriv c2)]]] ⟨[],0⟩ (fun u _=>u = .tup []∧Bel 0 u):=by
 unfold slices_insertionSortCmpFunc_int_Canon_1 at hF
 have hf3S:∀ (a0:Int) (a1:Int) (a2:GChart) (a3:List GDeriv) (r:Int),f3 a0 a1 a2 a3=some r→∀ σ,EvU Try.prog 45 [.int .i64 a0,.int .i64 a1,.iptr (cGChart a2),.iptr [.isl false (List.map cGDeriv a3)]] σ (fun u σ'=>u = .int .i64 r∧σ'=σ):=fun a0 a1 a2 a3 r h σ=>EvU.pure1C (hf3 a0 a1 a2 a3 r h) σ
 refine EvU.of_body Try.tb_ok fn60 rfl ?_
 refine WPU.ghost (tm':=fr 53 [(0,.isl false (List.map (cI .i64) ([]:List Int))),(1,.int .i64 0),(2,.int .i64 0),(3,.fn (.func 45) [] [.iptr (cGChart c1),.iptr [.isl false (List.map cGDeriv c2)]])]) (Gh.start (Nat.le_of_ble_eq_true rfl)) (Nat.zero_le _) ?_
 refine sr ?_
 refine RS.q rfl (op_int rfl rfl (ix_add _ _ _) rfl) ?_
 refine sd ?_
 refine WPU.ghost (tm':=fr 53 [(0,.isl false (List.map (cI .i64) ([]:List Int))),(1,.int .i64 0),(2,.int .i64 0),(3,.fn (.func 45) [] [.iptr (cGChart c1),.iptr [.isl false (List.map cGDeriv c2)]]),(8,.int .i64 1)]) (Gh.sub ⟨rfl,rfl,rfl,rfl,rfl,trivial⟩) (Nat.zero_le _) ?_
 refine WPU.loopK (fun m tm σ=>slices_insertionSortCmpFunc_int_Canon_1_L1 m=some r∧tm=fr 53 [(0,.isl false (List.map (cI .i64) ([]:List Int))),(1,.int .i64 0),(2,.int .i64 0),(3,.fn (.func 45) [] [.iptr (cGChart c1),.iptr [.isl false (List.map cGDeriv c2)]]),(8,.int .i64 1)]∧σ=⟨[],0⟩) (fun tm σ=>slices_insertionSortCmpFunc_int_Canon_1_K1=some r∧tm=fr 53 []∧σ=⟨[],0⟩) n ⟨hF,rfl,rfl⟩ ?_ ?_
 rintro _ _ ⟨hF,rfl,rfl⟩
 unfold slices_insertionSortCmpFunc_int_Canon_1_K1 at hF
 refine st ?_
 have hr:=Option.some.inj hF
 subst hr
 exact ⟨.inl rfl,[],res_n,.tup [],⟨[],0⟩,Nat.le_refl _,Gh.toR (.tup []) rfl,rfl,BU.h⟩
 rintro m1 _ _ ⟨hF,rfl,rfl⟩
 rcases m1 with _ | m1
 cases hF
 unfold slices_insertionSortCmpFunc_int_Canon_1_L1 at hF
 refine sr ?_
 repeat refine RS.mv rfl rfl rfl rfl ?_
 refine RS.q rfl (op_int rfl rfl (ix_lss _ _ _) rfl) ?_
 refine sd ?_
 refine WPU.condS (t:=false) rfl (fun hc=>by cases hc) (fun _=>?_)
 refine st ?_
 refine WPU.exit ?_
 refine st ?_
 exact ⟨_,_,⟨hF,rfl,rfl⟩,(Nat.zero_le _),Gh.toC (n1:=0) trivial rfl (Nat.zero_le _) (by simp)⟩
theorem slices_insertionSortCmpFunc_int_Canon_1_ok (f3:Int→Int→GChart→(List GDeriv)→Option (Int)) (hf3:∀ (a0:Int) (a1:Int) (a2:GChart) (a3:List GDeriv) (r:Int),f3 a0 a1 a2 a3=some r→EvU Try.prog 45 [.int .i64 a0,.int .i64 a1,.iptr (cGChart a2),.iptr [.isl false (List.map cGDeriv a3)]] ⟨[],0⟩ (fun u _=>u = .int .i64 r∧Bel 0 u)) (n:Nat) (c1:GChart) (c2:List GDeriv) (r:Unit) (hF:slices_insertionSortCmpFunc_int_Canon_1 f3 n c1 c2=some r) (σ:Sg):EvU Try.prog 60 [.isl false (List.map (cI .i64) ([]:List Int)),.int .i64 0,.int .i64 0,.fn (.func 45) [] [.iptr (cGChart c1),.iptr [.isl false (List.map cGDeriv c2)]]] σ (fun u σ'=>u = .tup []∧σ'=σ) :=
 EvU.pure1C (slices_insertionSortCmpFunc_int_Canon_1_0 f3 hf3 n c1 c2 r hF) σ
def slices_pdqsortCmpFunc_int_Canon_1_L1 (c2:GChart) (c3:List GDeriv) (f4:Int→Int→GChart→(List GDeriv)→Option (Int)) (n:Nat):Nat→Option (Unit)
 | 0=>none
 | m1+1 =>
  bindO (slices_insertionSortCmpFunc_int_Canon_1 f4 n c2 c3) fun r4 =>
  some ()
def slices_pdqsortCmpFunc_int_Canon_1 (f4:Int→Int→GChart→(List GDeriv)→Option (Int)) (n:Nat) (p1:Int) (c2:GChart) (c3:List GDeriv):Option (Unit) :=
 slices_pdqsortCmpFunc_int_Canon_1_L1 c2 c3 f4 n n
theorem slices_pdqsortCmpFunc_int_Canon_1_0 (f4:Int→Int→GChart→(List GDeriv)→Option (Int)) (hf4:∀ (a0:Int) (a1:Int) (a2:GChart) (a3:List GDeriv) (r:Int),f4 a0 a1 a2 a3=some r→EvU Try.prog 45 [.int .i64 a0,.int .i64 a1,.iptr (cGChart a2),.iptr [.isl false (List.map cGDeriv a3)]] ⟨[],0⟩ (fun u _=>u = .int .i64 r∧Bel 0 u)) (n:Nat) (p1:Int) (c2:GChart) (c3:List GDeriv) (r:Unit) (hF:slices_pdqsortCmpFunc_int_Canon_1 f4 n p1 c2 c3=some r):EvU Try.prog 56 [.isl false (List.map (cI .i64) ([]:List Int)),.int .i64 0,.int .i64 0,.int .i64 p1,.fn (.func 45) [] [.iptr (cGChart c2),.iptr [.isl false (List.map cGDeriv c3)]]] ⟨[],0⟩ (fun u _=>u = .tup []∧Bel 0 u):=by
 unfold slices_pdqsortCmpFunc_int_Canon_1 at hF
 have hf4S:∀ (a0:Int) (a1:Int) (a2:GChart) (a3:List GDeriv) (r:Int),f4 a0 a1 a2 a3=some r→∀ σ,EvU Try.prog 45 [.int .i64 a0,.int .i64 a1,.iptr (cGChart a2),.iptr [.isl false (List.map cGDeriv a3)]] σ (fun u σ'=>u = .int .i64 r∧σ'=σ):=fun a0 a1 a2 a3 r h σ=>EvU.pure1C (hf4 a0 a1 a2 a3 r h) σ
 refine EvU.of_body Try.tb_ok fn56 rfl ?_
 refine WPU.ghost (tm':=fr 148 [(0,.isl false (List.map (cI .i64) ([]:List Int))),(1,.int .i64 0),(2,.int .i64 0),(3,.int .i64 p1),(4,.fn (.func 45) [] [.iptr (cGChart c2),.iptr [.isl false (List.map cGDeriv c3)]])]) (Gh.start (Nat.le_of_ble_eq_true rfl)) (Nat.zero_le _) ?_
 refine sr ?_
 refine se ?_
 refine sd ?_
 refine WPU.ghost (tm':=fr 148 [(0,.isl false (List.map (cI .i64) ([]:List Int))),(1,.int .i64 0),(2,.int .i64 0),(3,.int .i64 p1),(4,.fn (.func 45) [] [.iptr (cGChart c2),.iptr [.isl false (List.map cGDeriv c3)]]),(10,.bool true),(11,.bool true)]) (Gh.sub ⟨rfl,rfl,rfl,rfl,rfl,rfl,rfl,trivial⟩) (Nat.zero_le _) ?_
 refine WPU.loopK (fun m tm σ=>slices_pdqsortCmpFunc_int_Canon_1_L1 c2 c3 f4 n m=some r∧tm=fr 148 [(0,.isl false (List.map (cI .i64) ([]:List Int))),(1,.int .i64 0),(2,.int .i64 0),(3,.int .i64 p1),(4,.fn (.func 45) [] [.iptr (cGChart c2),.iptr [.isl false (List.map cGDeriv c3)]]),(10,.bool true),(11,.bool true)]∧σ=⟨[],0⟩) (fun _ _=>False) n ⟨hF,rfl,rfl⟩ ?_ ?_
 rintro _ _ h; exact h.elim
 rintro m1 _ _ ⟨hF,rfl,rfl⟩
 rcases m1 with _ | m1
 cases hF
 unfold slices_pdqsortCmpFunc_int_Canon_1_L1 at hF
 refine st ?_
 refine WPU.block ?_
 refine sr ?_
 repeat refine RS.mv rfl rfl rfl rfl ?_
 refine RS.q rfl (op_int rfl rfl (ix_sub _ _ _) rfl) ?_
 refine se ?_
 refine RS.q rfl (op_int rfl rfl (ix_leq _ _ _) rfl) ?_
 refine sd ?_
 refine WPU.condS (t:=true) rfl (fun _=>?_) (fun hc=>by cases hc)
 refine st ?_
 obtain ⟨r4,h5,hF⟩:=bindO_some hF
 refine sr ?_
 repeat refine RS.mv rfl rfl rfl rfl ?_
 refine RS.call (u:=.tup []) (args:=[.isl false (List.map (cI .i64) ([]:List Int)),.int .i64 0,.int .i64 0,.fn (.func 45) [] [.iptr (cGChart c2),.iptr [.isl false (List.map cGDeriv c3)]]]) rfl (op_call rfl rfl fn60 hb60 rfl rfl) (slices_insertionSortCmpFunc_int_Canon_1_ok f4 hf4 n c2 c3 r4 h5 _) rfl rfl ?_
 refine sd ?_
 refine WPU.ret ?_
 refine st ?_
 have hr:=Option.some.inj hF
 subst hr
 exact ⟨.inr rfl,[],res_n,.tup [],⟨[],0⟩,Nat.le_refl _,Gh.toR (.tup []) rfl,rfl,BU.h⟩
theorem slices_pdqsortCmpFunc_int_Canon_1_ok (f4:Int→Int→GChart→(List GDeriv)→Option (Int)) (hf4:∀ (a0:Int) (a1:Int) (a2:GChart) (a3:List GDeriv) (r:Int),f4 a0 a1 a2 a3=some r→EvU Try.prog 45 [.int .i64 a0,.int .i64 a1,.iptr (cGChart a2),.iptr [.isl false (List.map cGDeriv a3)]] ⟨[],0⟩ (fun u _=>u = .int .i64 r∧Bel 0 u)) (n:Nat) (p1:Int) (c2:GChart) (c3:List GDeriv) (r:Unit) (hF:slices_pdqsortCmpFunc_int_Canon_1 f4 n p1 c2 c3=some r) (σ:Sg):EvU Try.prog 56 [.isl false (List.map (cI .i64) ([]:List Int)),.int .i64 0,.int .i64 0,.int .i64 p1,.fn (.func 45) [] [.iptr (cGChart c2),.iptr [.isl false (List.map cGDeriv c3)]]] σ (fun u σ'=>u = .tup []∧σ'=σ) :=
 EvU.pure1C (slices_pdqsortCmpFunc_int_Canon_1_0 f4 hf4 n p1 c2 c3 r hF) σ
def slices_SortFunc_int_Canon_1 (f1:Int→Int→GChart→(List GDeriv)→Option (Int)) (n:Nat) (c1:GChart) (c2:List GDeriv):Option (Unit) :=
 bindO (math_bits_Len n 0) fun r3 =>
 bindO (slices_pdqsortCmpFunc_int_Canon_1 f1 n r3 c1 c2) fun r5 =>
 some ()
theorem slices_SortFunc_int_Canon_1_0 (f1:Int→Int→GChart→(List GDeriv)→Option (Int)) (hf1:∀ (a0:Int) (a1:Int) (a2:GChart) (a3:List GDeriv) (r:Int),f1 a0 a1 a2 a3=some r→EvU Try.prog 45 [.int .i64 a0,.int .i64 a1,.iptr (cGChart a2),.iptr [.isl false (List.map cGDeriv a3)]] ⟨[],0⟩ (fun u _=>u = .int .i64 r∧Bel 0 u)) (n:Nat) (c1:GChart) (c2:List GDeriv) (r:Unit) (hF:slices_SortFunc_int_Canon_1 f1 n c1 c2=some r):EvU Try.prog 44 [.isl false (List.map (cI .i64) ([]:List Int)),.fn (.func 45) [] [.iptr (cGChart c1),.iptr [.isl false (List.map cGDeriv c2)]]] ⟨[],0⟩ (fun u _=>u = .tup []∧Bel 0 u):=by
 unfold slices_SortFunc_int_Canon_1 at hF
 have hf1S:∀ (a0:Int) (a1:Int) (a2:GChart) (a3:List GDeriv) (r:Int),f1 a0 a1 a2 a3=some r→∀ σ,EvU Try.prog 45 [.int .i64 a0,.int .i64 a1,.iptr (cGChart a2),.iptr [.isl false (List.map cGDeriv a3)]] σ (fun u σ'=>u = .int .i64 r∧σ'=σ):=fun a0 a1 a2 a3 r h σ=>EvU.pure1C (hf1 a0 a1 a2 a3 r h) σ
 refine EvU.of_body Try.tb_ok fn44 rfl ?_
 refine WPU.ghost (tm':=fr 14 [(0,.isl false (List.map (cI .i64) ([]:List Int))),(1,.fn (.func 45) [] [.iptr (cGChart c1),.iptr [.isl false (List.map cGDeriv c2)]])]) (Gh.start (Nat.le_of_ble_eq_true rfl)) (Nat.zero_le _) ?_
 refine sr ?_
 refine RS.q rfl (op_len rfl rfl rfl (len_isl (cI .i64) und34)) ?_
 refine sd ?_
 obtain ⟨r3,h4,hF⟩:=bindO_some hF
 obtain ⟨r5,h6,hF⟩:=bindO_some hF
 refine sr ?_
 repeat refine RS.mv rfl rfl rfl rfl ?_
 refine RS.q (u:=.int .u64 0) rfl (op_conv rfl rfl (by simp only [convX,und3,und79]<;>rfl) rfl) ?_
 refine RS.call (u:=.int .i64 r3) (args:=[.int .u64 0]) rfl (op_call rfl rfl fn57 hb57 rfl rfl) (math_bits_Len_ok n 0 r3 h4 _) rfl rfl (RS.mv rfl rfl rfl rfl (RS.call (u:=.tup []) (args:=[.isl false (List.map (cI .i64) ([]:List Int)),.int .i64 0,.int .i64 0,.int .i64 r3,.fn (.func 45) [] [.iptr (cGChart c1),.iptr [.isl false (List.map cGDeriv c2)]]]) rfl (op_call rfl rfl fn56 hb56 rfl rfl) (slices_pdqsortCmpFunc_int_Canon_1_ok f1 hf1 n r3 c1 c2 r5 h6 _) rfl rfl ?_))
 refine sd ?_
 have hr:=Option.some.inj hF
 subst hr
 exact ⟨.inl rfl,[],res_n,.tup [],⟨[],0⟩,Nat.le_refl _,Gh.toR (.tup []) rfl,rfl,BU.h⟩
end Go.Proofs
end
section
namespace Go.Proofs
open Go Go.Rx Go.Vx Go.Shelf Go.Sort
set_option linter.unusedVariables false
set_option linter.unusedSimpArgs false
set_option maxRecDepth 10000
theorem sortOneI:SortOne Try.prog 44 45:=fun α _ enc cf h1 hO cb blk off cap d w hc hH hb hs =>
 Any.slices_SortFunc Try.sortI enc h1 cf hO 45 cb blk off cap d w (enters_of Try.func45 (by kernel_rfl) rfl) hc hH hb hs
theorem srtI_nil (c2:GChart) (c3:List GDeriv):EvU Try.prog 44 [.isl false [],.fn (.func 45) [] [.iptr (cGChart c2),.iptr [.isl false (List.map cGDeriv c3)]]] ⟨[],0⟩ (fun u _=>u = .tup []∧Bel 0 u) :=
 slices_SortFunc_int_Canon_1_0 (fun _ _ _ _=>none) (fun a0 a1 a2 a3 r h=>by cases h) 1 c2 c3 () rfl
theorem srtI_caps (c2:GChart) (c3:List GDeriv):BelL 0 [.iptr (cGChart c2),.iptr [.isl false (List.map cGDeriv c3)]]:=BUL.h
theorem srtI_okR (c2:GChart) (c3:List GDeriv) {f1:Int→Int→Option Int} (hcmp:∀ a b r,f1 a b=some r→EvU Try.prog 45 [.int .i64 a,.int .i64 b,.iptr (cGChart c2),.iptr [.isl false (List.map cGDeriv c3)]] ⟨[],0⟩ (fun u _=>u = .int .i64 r∧Bel 0 u))
  (xs ys:List Int) (h:sortO (fun x y=>x == y) f1 xs=some ys) (σ:Sg) {K n:Nat} {e:TypeId} (hn:n=xs.length) (hK:Nat.blt K σ.nx=true) (hg:gt σ.h K=some (.row (xs.map (cI .i64)).flatten e)) :
  EvU Try.prog 44 [.sl K 0 n n,.fn (.func 45) [] [.iptr (cGChart c2),.iptr [.isl false (List.map cGDeriv c3)]]] σ (fun u σ'=>u = .tup []∧σ'=⟨ug σ.h K (.row (ys.map (cI .i64)).flatten e),σ.nx⟩) :=
 sortO_okR1 (encU1:=fun z:Int=>.int .i64 z) (fun _=>rfl) (fun _=>trivial) (srtI_caps c2 c3) sortOneI (fun x y h=>by simpa using h) (srtI_nil c2 c3) hcmp xs ys h σ hn hK hg
end Go.Proofs
end
section
namespace Go.Proofs
open Go Go.Rx Go.Vx Try
set_option maxRecDepth 10000
set_option linter.unusedSimpArgs false
set_option linter.unusedVariables false
def chart_Canon_K4 (z37:Int) (l38:List GEdge) (rc3:Int→(List GEdge)→Option (GChart)) (x45:GEdge) (l74:List Int):Option (GChart) :=
 needO ((x45.Kids.length:Int).toNat=l74.length) (
 needO ((l38.length+1)*160≤140737488355328∧l38.length+1≤140737488355328) (
 rc3 (IntKind.i64.wrap (z37+1)) (l38++[(GEdge.mk x45.From x45.To x45.Unary x45.Kind x45.Name l74 x45.Lex x45.FS)])))
def chart_Canon_L4 (p1:GChart) (l28:List Int) (z37:Int) (l38:List GEdge) (rc3:Int→(List GEdge)→Option (GChart)) (x45:GEdge):Nat→Int→(List Int)→Option (GChart)
 | 0,_,_=>none
 | m4+1,z72,l73 =>
  cond (decide (z72<(x45.Kids.length:Int)))
   (bindO (idxO x45.Kids z72) fun x78 =>
   bindO (idxV l28 0 ((((p1.Edges.length:Int).toNat:Nat):Int).toNat) x78) fun x80 =>
   bindO (idxV l73 0 ((x45.Kids.length:Int).toNat) z72) fun x82 =>
   (chart_Canon_L4 p1 l28 z37 l38 rc3 x45 m4) (IntKind.i64.wrap (z72+1)) (l73.set z72.toNat x80))
   (chart_Canon_K4 z37 l38 rc3 x45 l73)
def chart_Canon_K3 (p1:GChart) (l40:List GEdge):Option (GChart) :=
 some (GChart.mk p1.Words l40)
def chart_Canon_L3 (p1:GChart) (n:Nat) (r18:List Int) (l28:List Int):Nat→Int→(List GEdge)→Option (GChart)
 | 0,_,_=>none
 | m3+1,z37,l38 =>
  cond (decide (z37<(((p1.Edges.length:Int).toNat:Nat):Int)))
   (bindO (idxV r18 0 ((p1.Edges.length:Int).toNat) z37) fun x43 =>
   bindO (idxO p1.Edges x43) fun x45 =>
   needO (0≤(x45.Kids.length:Int)∧8*(x45.Kids.length:Int).toNat≤281474976710656∧(x45.Kids.length:Int)≤281474976710656) (
   chart_Canon_L4 p1 l28 z37 l38 (chart_Canon_L3 p1 n r18 l28 m3) x45 n 0 (List.replicate (x45.Kids.length:Int).toNat 0)))
   (chart_Canon_K3 p1 l38)
def chart_Canon_K2 (p1:GChart) (n:Nat) (r18:List Int) (l28:List Int):Option (GChart) :=
 chart_Canon_L3 p1 n r18 l28 n 0 ([]:List GEdge)
def chart_Canon_L2 (p1:GChart) (n:Nat) (r18:List Int):Nat→Int→(List Int)→Option (GChart)
 | 0,_,_=>none
 | m2+1,z26,l27 =>
  cond (decide (z26<(((p1.Edges.length:Int).toNat:Nat):Int)))
   (bindO (idxV r18 0 ((p1.Edges.length:Int).toNat) z26) fun x85 =>
   bindO (idxV l27 0 ((((p1.Edges.length:Int).toNat:Nat):Int).toNat) x85) fun x87 =>
   (chart_Canon_L2 p1 n r18 m2) (IntKind.i64.wrap (z26+1)) (l27.set x85.toNat z26))
   (chart_Canon_K2 p1 n r18 l27)
def chart_Canon_K1 (p1:GChart) (n:Nat) (l14:List GDeriv) (l15:List Int):Option (GChart) :=
 needO ((p1.Edges.length:Int).toNat=l14.length) (
 needO ((p1.Edges.length:Int).toNat=l15.length) (
 bindO (sortO (fun x y=>x == y) (fun a b=>chart_Canon_1 n a b p1 l14) l15) fun r18 =>
 needO (0≤(((p1.Edges.length:Int).toNat:Nat):Int)∧8*(((p1.Edges.length:Int).toNat:Nat):Int).toNat≤281474976710656∧(((p1.Edges.length:Int).toNat:Nat):Int)≤281474976710656) (
 chart_Canon_L2 p1 n r18 n 0 (List.replicate (((p1.Edges.length:Int).toNat:Nat):Int).toNat 0))))
def chart_Canon_L1 (p1:GChart) (n:Nat):Nat→Int→(List GDeriv)→(List Int)→Option (GChart)
 | 0,_,_,_=>none
 | m1+1,z11,l12,l13 =>
  cond (decide (z11<(((p1.Edges.length:Int).toNat:Nat):Int)))
   (bindO (chart_Deriv n p1 z11) fun r90 =>
   bindO (idxV l13 0 ((p1.Edges.length:Int).toNat) z11) fun x92 =>
   bindO (idxV l12 0 ((p1.Edges.length:Int).toNat) z11) fun x94 =>
   (chart_Canon_L1 p1 n m1) (IntKind.i64.wrap (z11+1)) (l12.set z11.toNat r90) (l13.set z11.toNat z11))
   (chart_Canon_K1 p1 n l12 l13)
def chart_Canon (n:Nat) (p1:GChart):Option (GChart) :=
 needO (0≤(p1.Edges.length:Int)∧8*(p1.Edges.length:Int).toNat≤281474976710656∧(p1.Edges.length:Int)≤281474976710656) (
 needO (0≤(p1.Edges.length:Int)∧64*(p1.Edges.length:Int).toNat≤281474976710656∧(p1.Edges.length:Int)≤281474976710656) (
 chart_Canon_L1 p1 n n 0 (List.replicate (p1.Edges.length:Int).toNat (GDeriv.mk 0 [] 0 0 [])) (List.replicate (p1.Edges.length:Int).toNat 0)))
theorem chart_Canon_0 (n:Nat) (p1:GChart) (r:GChart) (hF:chart_Canon n p1=some r):EvU Try.prog 25 [.agg (cGChart p1)] ⟨[],0⟩ (fun u _=>u = .agg (cGChart r)∧Bel 0 u):=by
 unfold chart_Canon at hF
 refine EvU.of_body Try.tb_ok fn25 rfl ?_
 refine WPU.ghost (tm':=fr 102 [(0,.agg (cGChart p1))]) (Gh.start (Nat.le_of_ble_eq_true rfl)) (Nat.zero_le _) ?_
 refine sr ?_
 refine RS.q (u:=.ptr 0 0 0) (σ':=⟨[(0,.row (cGChart p1) 24)],1⟩) rfl (op_box rfl rfl rfl) (RS.q (u:=.ptr 1 0 0) (σ':=⟨[(1,.row [.int .i64 0,.nils] 24),(0,.row (cGChart p1) 24)],2⟩) rfl (op_alloc inf24 rfl rfl) ?_)
 refine sd ?_
 obtain ⟨h2,hF⟩:=needO_some hF
 refine sr ?_
 refine RS.q (u:=.ptr 0 0 1) rfl (op_fa und24 rfl (sz_of inf22) rfl rfl rfl) (RS.q (u:=.isl false (List.map cGEdge p1.Edges)) rfl (ld_one und22 rfl rfl rfl rfl) (RS.q rfl (op_len rfl rfl rfl (len_isl cGEdge und22)) (RS.q (u:=.sl 2 0 ((p1.Edges.length:Int).toNat) ((p1.Edges.length:Int).toNat)) (σ':=⟨[(2,.row (List.map (cI .i64) (List.replicate (p1.Edges.length:Int).toNat 0)).flatten 3),(1,.row [.int .i64 0,.nils] 24),(0,.row (cGChart p1) 24)],3⟩) rfl (op_mks (cI .i64) 0 rfl rfl und34 inf3 rfl rfl rfl rfl h2) ?_)))
 refine sd ?_
 obtain ⟨h3,hF⟩:=needO_some hF
 refine sr ?_
 refine RS.q (u:=.ptr 0 0 1) rfl (op_fa und24 rfl (sz_of inf22) rfl rfl rfl) (RS.q (u:=.isl false (List.map cGEdge p1.Edges)) rfl (ld_one und22 rfl rfl rfl rfl) (RS.q rfl (op_len rfl rfl rfl (len_isl cGEdge und22)) (RS.q (u:=.sl 3 0 ((p1.Edges.length:Int).toNat) ((p1.Edges.length:Int).toNat)) (σ':=⟨[(3,.row (List.map cGDeriv (List.replicate (p1.Edges.length:Int).toNat (GDeriv.mk 0 [] 0 0 []))).flatten 37),(2,.row (List.map (cI .i64) (List.replicate (p1.Edges.length:Int).toNat 0)).flatten 3),(1,.row [.int .i64 0,.nils] 24),(0,.row (cGChart p1) 24)],4⟩) rfl (op_mks cGDeriv (GDeriv.mk 0 [] 0 0 []) rfl rfl und35 inf37 rfl rfl rfl rfl h3) (RS.q (u:=.ptr 4 0 0) (σ':=⟨[(4,.row [.nils] 35),(3,.row (List.map cGDeriv (List.replicate (p1.Edges.length:Int).toNat (GDeriv.mk 0 [] 0 0 []))).flatten 37),(2,.row (List.map (cI .i64) (List.replicate (p1.Edges.length:Int).toNat 0)).flatten 3),(1,.row [.int .i64 0,.nils] 24),(0,.row (cGChart p1) 24)],5⟩) rfl (op_alloc inf35 rfl rfl) (RS.opn (u:=.junk) (σ':=⟨[(4,.row [.sl 3 0 ((p1.Edges.length:Int).toNat) ((p1.Edges.length:Int).toNat)] 35),(3,.row (List.map cGDeriv (List.replicate (p1.Edges.length:Int).toNat (GDeriv.mk 0 [] 0 0 []))).flatten 37),(2,.row (List.map (cI .i64) (List.replicate (p1.Edges.length:Int).toNat 0)).flatten 3),(1,.row [.int .i64 0,.nils] 24),(0,.row (cGChart p1) 24)],5⟩) rfl (op_store (sz_of inf35) rfl rfl rfl rfl rfl rfl rfl rfl) rfl ?_)))))
 refine se ?_
 refine RS.q rfl (op_len rfl rfl rfl (len_sl und34 rfl)) (RS.mv rfl rfl rfl rfl ?_)
 refine sd ?_
 refine WPU.ghost (tm':=fr 102 [(1,.ptr 0 0 0),(2,.ptr 1 0 0),(3,.sl 2 0 ((p1.Edges.length:Int).toNat) ((p1.Edges.length:Int).toNat)),(4,.ptr 4 0 0),(25,.int .i64 (((p1.Edges.length:Int).toNat:Nat):Int)),(26,.int .i64 0)]) (Gh.sub ⟨rfl,rfl,rfl,rfl,rfl,rfl,trivial⟩) (Nat.zero_le _) ?_
 refine WPU.loopK (fun m tm σ=>∃ z11:Int,∃ l12:List GDeriv,∃ l13:List Int,chart_Canon_L1 p1 n m z11 l12 l13=some r∧tm=fr 102 [(1,.ptr 0 0 0),(2,.ptr 1 0 0),(3,.sl 2 0 ((p1.Edges.length:Int).toNat) ((p1.Edges.length:Int).toNat)),(4,.ptr 4 0 0),(25,.int .i64 (((p1.Edges.length:Int).toNat:Nat):Int)),(26,.int .i64 z11)]∧σ=⟨[(4,.row [.sl 3 0 ((p1.Edges.length:Int).toNat) ((p1.Edges.length:Int).toNat)] 35),(3,.row (List.map cGDeriv l12).flatten 37),(2,.row (List.map (cI .i64) l13).flatten 3),(1,.row [.int .i64 0,.nils] 24),(0,.row (cGChart p1) 24)],5⟩) (fun tm σ=>∃ l14:List GDeriv,∃ l15:List Int,chart_Canon_K1 p1 n l14 l15=some r∧tm=fr 102 [(1,.ptr 0 0 0),(2,.ptr 1 0 0),(3,.sl 2 0 ((p1.Edges.length:Int).toNat) ((p1.Edges.length:Int).toNat)),(4,.ptr 4 0 0)]∧σ=⟨[(4,.row [.sl 3 0 ((p1.Edges.length:Int).toNat) ((p1.Edges.length:Int).toNat)] 35),(3,.row (List.map cGDeriv l14).flatten 37),(2,.row (List.map (cI .i64) l15).flatten 3),(1,.row [.int .i64 0,.nils] 24),(0,.row (cGChart p1) 24)],5⟩) n ⟨0,(List.replicate (p1.Edges.length:Int).toNat (GDeriv.mk 0 [] 0 0 [])),(List.replicate (p1.Edges.length:Int).toNat 0),hF,rfl,rfl⟩ ?_ ?_
 rintro _ _ ⟨l14,l15,hF,rfl,rfl⟩
 unfold chart_Canon_K1 at hF
 refine st ?_
 refine WPU.ghost (tm':=fr 102 [(1,.iptr (cGChart p1)),(2,.ptr 1 0 0),(3,.sl 2 0 ((p1.Edges.length:Int).toNat) ((p1.Edges.length:Int).toNat)),(4,.ptr 4 0 0)]) (σ':=⟨[(4,.row [.sl 3 0 ((p1.Edges.length:Int).toNat) ((p1.Edges.length:Int).toNat)] 35),(3,.row (List.map cGDeriv l14).flatten 37),(2,.row (List.map (cI .i64) l15).flatten 3),(1,.row [.int .i64 0,.nils] 24)],5⟩) (Gh.trans (Gh.sub (l':=[(1,.ptr 0 0 0),(2,.ptr 1 0 0),(3,.sl 2 0 ((p1.Edges.length:Int).toNat) ((p1.Edges.length:Int).toNat)),(4,.ptr 4 0 0)]) ⟨rfl,rfl,rfl,rfl,trivial⟩) (Gh.fzS (l':=[(1,.iptr (cGChart p1)),(2,.ptr 1 0 0),(3,.sl 2 0 ((p1.Edges.length:Int).toNat) ((p1.Edges.length:Int).toNat)),(4,.ptr 4 0 0)]) (h':=[(4,.row [.sl 3 0 ((p1.Edges.length:Int).toNat) ((p1.Edges.length:Int).toNat)] 35),(3,.row (List.map cGDeriv l14).flatten 37),(2,.row (List.map (cI .i64) l15).flatten 3),(1,.row [.int .i64 0,.nils] 24)]) 0 (.row [.int .i64 p1.Words,.isl false (List.map cGEdge p1.Edges)] 24) 2 rfl (by simp) (by simp only [fzS,oneU,fzL_nil,fzL_cons,fz_int,fz_bool,fz_str,fz_nils,fz_nilp,fz_nilm,fz_nilf,fz_junk,fz_isl,fz_map,fz_agg,fz_tup,fz_fn,junkT,fz_sl,fz_p0,fz_iptr,fz_cGChart,fz_vn (show Nat.beq 1 0=false from rfl),fz_sn (show Nat.beq 1 0=false from rfl),fz_pn (show Nat.beq 1 0=false from rfl),fz_vn (show Nat.beq 2 0=false from rfl),fz_sn (show Nat.beq 2 0=false from rfl),fz_pn (show Nat.beq 2 0=false from rfl),fz_vn (show Nat.beq 3 0=false from rfl),fz_sn (show Nat.beq 3 0=false from rfl),fz_pn (show Nat.beq 3 0=false from rfl),fz_vn (show Nat.beq 4 0=false from rfl),fz_sn (show Nat.beq 4 0=false from rfl),fz_pn (show Nat.beq 4 0=false from rfl),fzL_bel _ _ _ (bel_flat 0 (fun q=>bel_cGDeriv _ q) l14),fzL_bel _ _ _ (bel_flat 0 (fun q=>bel_cI _ .i64 q) l15),Nat.reduceLeDiff,Nat.reduceMul,List.length_cons,List.length_nil,Nat.reduceAdd]<;>simp only [chunks,List.take,List.drop,List.map,cGChart]) (by simp only [fzH,fzB,ug,Nat.beq,cond_true,cond_false,oneU,fzL_nil,fzL_cons,fz_int,fz_bool,fz_str,fz_nils,fz_nilp,fz_nilm,fz_nilf,fz_junk,fz_isl,fz_map,fz_agg,fz_tup,fz_fn,junkT,fz_sl,fz_p0,fz_iptr,fz_cGChart,fz_vn (show Nat.beq 1 0=false from rfl),fz_sn (show Nat.beq 1 0=false from rfl),fz_pn (show Nat.beq 1 0=false from rfl),fz_vn (show Nat.beq 2 0=false from rfl),fz_sn (show Nat.beq 2 0=false from rfl),fz_pn (show Nat.beq 2 0=false from rfl),fz_vn (show Nat.beq 3 0=false from rfl),fz_sn (show Nat.beq 3 0=false from rfl),fz_pn (show Nat.beq 3 0=false from rfl),fz_vn (show Nat.beq 4 0=false from rfl),fz_sn (show Nat.beq 4 0=false from rfl),fz_pn (show Nat.beq 4 0=false from rfl),fzL_bel _ _ _ (bel_flat 0 (fun q=>bel_cGDeriv _ q) l14),fzL_bel _ _ _ (bel_flat 0 (fun q=>bel_cI _ .i64 q) l15),Nat.reduceLeDiff,Nat.reduceMul,List.length_cons,List.length_nil,Nat.reduceAdd]<;>simp only [chunks,List.take,List.drop,List.map,cGChart]))) (Nat.zero_le _) ?_
 obtain ⟨h16,hF⟩:=needO_some hF
 refine WPU.ghost (tm':=fr 102 [(1,.iptr (cGChart p1)),(2,.ptr 1 0 0),(3,.sl 2 0 ((p1.Edges.length:Int).toNat) ((p1.Edges.length:Int).toNat)),(4,.ptr 4 0 0)]) (σ':=⟨[(4,.row [.isl false (List.map cGDeriv l14)] 35),(2,.row (List.map (cI .i64) l15).flatten 3),(1,.row [.int .i64 0,.nils] 24)],5⟩) (Gh.trans (Gh.sub (l':=[(1,.iptr (cGChart p1)),(2,.ptr 1 0 0),(3,.sl 2 0 ((p1.Edges.length:Int).toNat) ((p1.Edges.length:Int).toNat)),(4,.ptr 4 0 0)]) ⟨rfl,rfl,rfl,rfl,trivial⟩) (Gh.fzS (l':=[(1,.iptr (cGChart p1)),(2,.ptr 1 0 0),(3,.sl 2 0 ((p1.Edges.length:Int).toNat) ((p1.Edges.length:Int).toNat)),(4,.ptr 4 0 0)]) (h':=[(4,.row [.isl false (List.map cGDeriv l14)] 35),(2,.row (List.map (cI .i64) l15).flatten 3),(1,.row [.int .i64 0,.nils] 24)]) 3 (.row (List.map cGDeriv l14).flatten 37) 5 rfl (by simp) (by simp only [fzS,oneU,fzL_nil,fzL_cons,fz_int,fz_bool,fz_str,fz_nils,fz_nilp,fz_nilm,fz_nilf,fz_junk,fz_isl,fz_map,fz_agg,fz_tup,fz_fn,junkT,fz_rl len_cGDeriv h16,fz_iptr,fz_cGChart,fz_vn (show Nat.beq 1 3=false from rfl),fz_sn (show Nat.beq 1 3=false from rfl),fz_pn (show Nat.beq 1 3=false from rfl),fz_vn (show Nat.beq 2 3=false from rfl),fz_sn (show Nat.beq 2 3=false from rfl),fz_pn (show Nat.beq 2 3=false from rfl),fz_vn (show Nat.beq 4 3=false from rfl),fz_sn (show Nat.beq 4 3=false from rfl),fz_pn (show Nat.beq 4 3=false from rfl),fzL_bel _ _ _ (bel_flat 3 (fun q=>bel_cI _ .i64 q) l15)]) (by simp only [fzH,fzB,ug,Nat.beq,cond_true,cond_false,oneU,fzL_nil,fzL_cons,fz_int,fz_bool,fz_str,fz_nils,fz_nilp,fz_nilm,fz_nilf,fz_junk,fz_isl,fz_map,fz_agg,fz_tup,fz_fn,junkT,fz_rl len_cGDeriv h16,fz_iptr,fz_cGChart,fz_vn (show Nat.beq 1 3=false from rfl),fz_sn (show Nat.beq 1 3=false from rfl),fz_pn (show Nat.beq 1 3=false from rfl),fz_vn (show Nat.beq 2 3=false from rfl),fz_sn (show Nat.beq 2 3=false from rfl),fz_pn (show Nat.beq 2 3=false from rfl),fz_vn (show Nat.beq 4 3=false from rfl),fz_sn (show Nat.beq 4 3=false from rfl),fz_pn (show Nat.beq 4 3=false from rfl),fzL_bel _ _ _ (bel_flat 3 (fun q=>bel_cI _ .i64 q) l15)]))) (Nat.zero_le _) ?_
 refine WPU.ghost (tm':=fr 102 [(1,.iptr (cGChart p1)),(2,.ptr 1 0 0),(3,.sl 2 0 ((p1.Edges.length:Int).toNat) ((p1.Edges.length:Int).toNat)),(4,.iptr [.isl false (List.map cGDeriv l14)])]) (σ':=⟨[(2,.row (List.map (cI .i64) l15).flatten 3),(1,.row [.int .i64 0,.nils] 24)],5⟩) (Gh.trans (Gh.sub (l':=[(1,.iptr (cGChart p1)),(2,.ptr 1 0 0),(3,.sl 2 0 ((p1.Edges.length:Int).toNat) ((p1.Edges.length:Int).toNat)),(4,.ptr 4 0 0)]) ⟨rfl,rfl,rfl,rfl,trivial⟩) (Gh.fzS (l':=[(1,.iptr (cGChart p1)),(2,.ptr 1 0 0),(3,.sl 2 0 ((p1.Edges.length:Int).toNat) ((p1.Edges.length:Int).toNat)),(4,.iptr [.isl false (List.map cGDeriv l14)])]) (h':=[(2,.row (List.map (cI .i64) l15).flatten 3),(1,.row [.int .i64 0,.nils] 24)]) 4 (.row [.isl false (List.map cGDeriv l14)] 35) 1 rfl (by simp) (by simp only [fzS,oneU,fzL_nil,fzL_cons,fz_int,fz_bool,fz_str,fz_nils,fz_nilp,fz_nilm,fz_nilf,fz_junk,fz_isl,fz_map,fz_agg,fz_tup,fz_fn,junkT,fz_sl,fz_p0,fz_iptr,fz_cGChart,fz_vn (show Nat.beq 1 4=false from rfl),fz_sn (show Nat.beq 1 4=false from rfl),fz_pn (show Nat.beq 1 4=false from rfl),fz_vn (show Nat.beq 2 4=false from rfl),fz_sn (show Nat.beq 2 4=false from rfl),fz_pn (show Nat.beq 2 4=false from rfl),fzL_bel _ _ _ (bel_flat 4 (fun q=>bel_cI _ .i64 q) l15),Nat.reduceLeDiff,Nat.reduceMul,List.length_cons,List.length_nil,Nat.reduceAdd]<;>simp only [chunks,List.take,List.drop,List.map,cI,cB,cS,cL]) (by simp only [fzH,fzB,ug,Nat.beq,cond_true,cond_false,oneU,fzL_nil,fzL_cons,fz_int,fz_bool,fz_str,fz_nils,fz_nilp,fz_nilm,fz_nilf,fz_junk,fz_isl,fz_map,fz_agg,fz_tup,fz_fn,junkT,fz_sl,fz_p0,fz_iptr,fz_cGChart,fz_vn (show Nat.beq 1 4=false from rfl),fz_sn (show Nat.beq 1 4=false from rfl),fz_pn (show Nat.beq 1 4=false from rfl),fz_vn (show Nat.beq 2 4=false from rfl),fz_sn (show Nat.beq 2 4=false from rfl),fz_pn (show Nat.beq 2 4=false from rfl),fzL_bel _ _ _ (bel_flat 4 (fun q=>bel_cI _ .i64 q) l15),Nat.reduceLeDiff,Nat.reduceMul,List.length_cons,List.length_nil,Nat.reduceAdd]<;>simp only [chunks,List.take,List.drop,List.map,cI,cB,cS,cL]))) (Nat.zero_le _) ?_
 refine st ?_
 obtain ⟨h19,hF⟩:=needO_some hF
 obtain ⟨r18,h17,hF⟩:=bindO_some hF
 refine sr ?_
 refine RS.q rfl (op_fun rfl rfl) (RS.callx (args:=[.sl 2 0 ((p1.Edges.length:Int).toNat) ((p1.Edges.length:Int).toNat),.fn (.func 45) [] [.iptr (cGChart p1),.iptr [.isl false (List.map cGDeriv l14)]]]) rfl (op_call rfl rfl fn44 hb44 rfl rfl) (srtI_okR p1 l14 (fun a b r h=>chart_Canon_1_0 n a b p1 l14 r h) l15 r18 h17 _ h19 rfl rfl) rfl rfl ?_)
 rintro _ _ ⟨rfl,rfl⟩
 refine sd ?_
 obtain ⟨h20,hF⟩:=needO_some hF
 refine sr ?_
 refine RS.q rfl (op_len rfl rfl rfl (len_sl und34 rfl)) (RS.q (u:=.sl 5 0 ((((p1.Edges.length:Int).toNat:Nat):Int).toNat) ((((p1.Edges.length:Int).toNat:Nat):Int).toNat)) (σ':=⟨[(5,.row (List.map (cI .i64) (List.replicate (((p1.Edges.length:Int).toNat:Nat):Int).toNat 0)).flatten 3),(2,.row (List.map (cI .i64) r18).flatten 3),(1,.row [.int .i64 0,.nils] 24)],6⟩) rfl (op_mks (cI .i64) 0 rfl rfl und34 inf3 rfl rfl rfl rfl h20) ?_)
 refine se ?_
 refine RS.q rfl (op_len rfl rfl rfl (len_sl und34 rfl)) (RS.mv rfl rfl rfl rfl ?_)
 refine sd ?_
 refine WPU.ghost (tm':=fr 102 [(1,.iptr (cGChart p1)),(2,.ptr 1 0 0),(3,.sl 2 0 ((p1.Edges.length:Int).toNat) ((p1.Edges.length:Int).toNat)),(6,.sl 5 0 ((((p1.Edges.length:Int).toNat:Nat):Int).toNat) ((((p1.Edges.length:Int).toNat:Nat):Int).toNat)),(46,.sl 2 0 ((p1.Edges.length:Int).toNat) ((p1.Edges.length:Int).toNat)),(47,.int .i64 (((p1.Edges.length:Int).toNat:Nat):Int)),(48,.int .i64 0)]) (Gh.sub ⟨rfl,rfl,rfl,rfl,rfl,rfl,rfl,trivial⟩) (Nat.zero_le _) ?_
 refine WPU.loopK (fun m tm σ=>∃ z26:Int,∃ l27:List Int,chart_Canon_L2 p1 n r18 m z26 l27=some r∧tm=fr 102 [(1,.iptr (cGChart p1)),(2,.ptr 1 0 0),(3,.sl 2 0 ((p1.Edges.length:Int).toNat) ((p1.Edges.length:Int).toNat)),(6,.sl 5 0 ((((p1.Edges.length:Int).toNat:Nat):Int).toNat) ((((p1.Edges.length:Int).toNat:Nat):Int).toNat)),(46,.sl 2 0 ((p1.Edges.length:Int).toNat) ((p1.Edges.length:Int).toNat)),(47,.int .i64 (((p1.Edges.length:Int).toNat:Nat):Int)),(48,.int .i64 z26)]∧σ=⟨[(5,.row (List.map (cI .i64) l27).flatten 3),(2,.row (List.map (cI .i64) r18).flatten 3),(1,.row [.int .i64 0,.nils] 24)],6⟩) (fun tm σ=>∃ l28:List Int,chart_Canon_K2 p1 n r18 l28=some r∧tm=fr 102 [(1,.iptr (cGChart p1)),(2,.ptr 1 0 0),(3,.sl 2 0 ((p1.Edges.length:Int).toNat) ((p1.Edges.length:Int).toNat)),(6,.sl 5 0 ((((p1.Edges.length:Int).toNat:Nat):Int).toNat) ((((p1.Edges.length:Int).toNat:Nat):Int).toNat))]∧σ=⟨[(5,.row (List.map (cI .i64) l28).flatten 3),(2,.row (List.map (cI .i64) r18).flatten 3),(1,.row [.int .i64 0,.nils] 24)],6⟩) n ⟨0,(List.replicate (((p1.Edges.length:Int).toNat:Nat):Int).toNat 0),hF,rfl,rfl⟩ ?_ ?_
 rintro _ _ ⟨l28,hF,rfl,rfl⟩
 unfold chart_Canon_K2 at hF
 refine sr ?_
 refine RS.q (u:=.iptr (cGChart p1)) rfl (op_fi und24 rfl (sz_of inf3) rfl rfl) (RS.q (u:=.int .i64 p1.Words) rfl (li_one und3 rfl rfl rfl) (RS.q (u:=.agg [.int .i64 p1.Words,.nils]) rfl (op_bld bd24 rfl rfl rfl) (RS.q (u:=.ptr 6 0 0) (σ':=⟨[(6,.row [.int .i64 0,.nils] 24),(5,.row (List.map (cI .i64) l28).flatten 3),(2,.row (List.map (cI .i64) r18).flatten 3),(1,.row [.int .i64 0,.nils] 24)],7⟩) rfl (op_alloc inf24 rfl rfl) (RS.opn (u:=.junk) (σ':=⟨[(6,.row [.int .i64 p1.Words,.nils] 24),(5,.row (List.map (cI .i64) l28).flatten 3),(2,.row (List.map (cI .i64) r18).flatten 3),(1,.row [.int .i64 0,.nils] 24)],7⟩) rfl (op_store (sz_of inf24) rfl rfl rfl rfl rfl rfl rfl rfl) rfl ?_))))
 refine se ?_
 refine RS.q rfl (op_len rfl rfl rfl (len_sl und34 rfl)) (RS.mv rfl rfl rfl rfl ?_)
 refine sd ?_
 refine WPU.ghost (tm':=fr 102 [(1,.iptr (cGChart p1)),(2,.ptr 1 0 0),(6,.sl 5 0 ((((p1.Edges.length:Int).toNat:Nat):Int).toNat) ((((p1.Edges.length:Int).toNat:Nat):Int).toNat)),(9,.ptr 6 0 0),(61,.sl 2 0 ((p1.Edges.length:Int).toNat) ((p1.Edges.length:Int).toNat)),(62,.int .i64 (((p1.Edges.length:Int).toNat:Nat):Int)),(63,.int .i64 0)]) (σ':=⟨[(7,.vec (List.map cGEdge ([]:List GEdge)).flatten 42 12 0),(6,.row [.int .i64 p1.Words,.vl 7 0 0 (([]:List GEdge).length)] 24),(5,.row (List.map (cI .i64) l28).flatten 3),(2,.row (List.map (cI .i64) r18).flatten 3),(1,.row [.int .i64 0,.nils] 24)],8⟩) (Gh.trans (Gh.nilC 6 1 42 12 (by decide) (Nat.zero_le _) rfl rfl) (Gh.eqS ⟨rfl,rfl,rfl,rfl,rfl,rfl,rfl,trivial⟩ rfl)) (Nat.zero_le _) ?_
 refine WPU.ghost (tm':=fr 102 [(1,.iptr (cGChart p1)),(2,.ptr 1 0 0),(6,.sl 5 0 ((((p1.Edges.length:Int).toNat:Nat):Int).toNat) ((((p1.Edges.length:Int).toNat:Nat):Int).toNat)),(9,.ptr 6 0 0),(61,.sl 2 0 ((p1.Edges.length:Int).toNat) ((p1.Edges.length:Int).toNat)),(62,.int .i64 (((p1.Edges.length:Int).toNat:Nat):Int)),(63,.int .i64 0)]) (Gh.sub ⟨rfl,rfl,rfl,rfl,rfl,rfl,rfl,trivial⟩) (Nat.zero_le _) ?_
 refine WPU.loopK (fun m tm σ=>∃ z37:Int,∃ l38:List GEdge,∃ t39:Nat,chart_Canon_L3 p1 n r18 l28 m z37 l38=some r∧tm=fr 102 [(1,.iptr (cGChart p1)),(2,.ptr 1 0 0),(6,.sl 5 0 ((((p1.Edges.length:Int).toNat:Nat):Int).toNat) ((((p1.Edges.length:Int).toNat:Nat):Int).toNat)),(9,.ptr 6 0 0),(61,.sl 2 0 ((p1.Edges.length:Int).toNat) ((p1.Edges.length:Int).toNat)),(62,.int .i64 (((p1.Edges.length:Int).toNat:Nat):Int)),(63,.int .i64 z37)]∧σ=⟨[(7,.vec (List.map cGEdge l38).flatten 42 12 t39),(6,.row [.int .i64 p1.Words,.vl 7 t39 0 l38.length] 24),(5,.row (List.map (cI .i64) l28).flatten 3),(2,.row (List.map (cI .i64) r18).flatten 3),(1,.row [.int .i64 0,.nils] 24)],8⟩) (fun tm σ=>∃ l40:List GEdge,∃ t41:Nat,chart_Canon_K3 p1 l40=some r∧tm=fr 102 [(2,.ptr 1 0 0),(9,.ptr 6 0 0)]∧σ=⟨[(7,.vec (List.map cGEdge l40).flatten 42 12 t41),(6,.row [.int .i64 p1.Words,.vl 7 t41 0 l40.length] 24),(5,.row (List.map (cI .i64) l28).flatten 3),(2,.row (List.map (cI .i64) r18).flatten 3),(1,.row [.int .i64 0,.nils] 24)],8⟩) n ⟨0,([]:List GEdge),0,hF,rfl,rfl⟩ ?_ ?_
 rintro _ _ ⟨l40,t41,hF,rfl,rfl⟩
 unfold chart_Canon_K3 at hF
 refine sr ?_
 refine RS.q (u:=.agg [.int .i64 p1.Words,.vl 7 t41 0 l40.length]) rfl (ld_agg und24 rfl (sz_of inf24) rfl rfl rfl) (RS.opn (u:=.junk) (σ':=⟨[(7,.vec (List.map cGEdge l40).flatten 42 12 t41),(6,.row [.int .i64 p1.Words,.vl 7 t41 0 l40.length] 24),(5,.row (List.map (cI .i64) l28).flatten 3),(2,.row (List.map (cI .i64) r18).flatten 3),(1,.row [.int .i64 p1.Words,.vl 7 t41 0 l40.length] 24)],8⟩) rfl (op_store (sz_of inf24) rfl rfl rfl rfl rfl rfl rfl rfl) rfl ?_)
 refine sd ?_
 refine WPU.ret ?_
 refine st ?_
 have hr:=Option.some.inj hF
 subst hr
 exact ⟨.inr rfl,[.agg [.int .i64 p1.Words,.vl 7 t41 0 l40.length]],res_c (ld_agg und24 rfl (sz_of inf24) rfl rfl rfl) (res_n),.agg [.int .i64 p1.Words,.isl false (List.map cGEdge l40)],⟨[],0⟩,Nat.le_refl _,Gh.trans (Gh.fz (tm':=[.agg [.int .i64 p1.Words,.isl false (List.map cGEdge l40)]]) (h':=[(6,.row [.int .i64 p1.Words,.isl false (List.map cGEdge l40)] 24),(5,.row (List.map (cI .i64) l28).flatten 3),(2,.row (List.map (cI .i64) r18).flatten 3),(1,.row [.int .i64 p1.Words,.isl false (List.map cGEdge l40)] 24)]) 7 (.vec (List.map cGEdge l40).flatten 42 12 t41) 12 rfl (by simp) (by simp only [oneU,fzL_nil,fzL_cons,fz_int,fz_bool,fz_str,fz_nils,fz_nilp,fz_nilm,fz_nilf,fz_junk,fz_isl,fz_map,fz_agg,fz_tup,fz_fn,junkT,fz_vl len_cGEdge,fzL_bel _ _ _ (bel_flat 7 (fun q=>bel_cI _ .i64 q) l28),fzL_bel _ _ _ (bel_flat 7 (fun q=>bel_cI _ .i64 q) r18)]) (by simp only [fzH,fzB,ug,Nat.beq,cond_true,cond_false,oneU,fzL_nil,fzL_cons,fz_int,fz_bool,fz_str,fz_nils,fz_nilp,fz_nilm,fz_nilf,fz_junk,fz_isl,fz_map,fz_agg,fz_tup,fz_fn,junkT,fz_vl len_cGEdge,fzL_bel _ _ _ (bel_flat 7 (fun q=>bel_cI _ .i64 q) l28),fzL_bel _ _ _ (bel_flat 7 (fun q=>bel_cI _ .i64 q) r18)])) (Gh.toR (.agg [.int .i64 p1.Words,.isl false (List.map cGEdge l40)]) rfl),rfl,BU.h⟩
 rintro m3 _ _ ⟨z37,l38,t39,hF,rfl,rfl⟩
 rcases m3 with _ | m3
 cases hF
 unfold chart_Canon_L3 at hF
 refine sr ?_
 refine RS.q rfl (op_int rfl rfl (ix_lss _ _ _) rfl) ?_
 refine sd ?_
 refine WPU.condS (t:=(decide (z37<(((p1.Edges.length:Int).toNat:Nat):Int)))) rfl (fun h42=>?_) (fun h42=>?_)
 replace hF:=cond_t h42 hF
 refine st ?_
 refine WPU.skip ?_
 refine st ?_
 refine WPU.block ?_
 refine st ?_
 obtain ⟨x43,h44,hF⟩:=bindO_some hF
 refine sr ?_
 refine RS.q (u:=.ptr 2 0 (0*1+z37.toNat*1)) rfl (op_ia rfl rfl (ia_rl und34 (sz_of inf3) rfl h44)) (RS.q (u:=.int .i64 x43) rfl (ld_rl1 (cI .i64) (fun x=>.int .i64 x) und3 rfl (fun _=>rfl) rfl rfl h44) ?_)
 refine sd ?_
 obtain ⟨x45,h46,hF⟩:=bindO_some hF
 refine sr ?_
 refine RS.q (u:=.iptr [.isl false (List.map cGEdge p1.Edges)]) rfl (op_fi und24 rfl (sz_of inf22) rfl rfl) (RS.q (u:=.isl false (List.map cGEdge p1.Edges)) rfl (li_one und22 rfl rfl rfl) (RS.mv rfl rfl rfl rfl (RS.q (u:=.iptr (cGEdge x45)) rfl (op_ia rfl rfl (ia_isl cGEdge und22 (sz_of inf42) len_cGEdge h46 rfl)) (RS.q (u:=.agg (cGEdge x45)) rfl (li_agg und42 rfl (sz_of inf42) rfl rfl) (RS.q (u:=.ptr 8 0 0) (σ':=⟨[(8,.row [.int .i64 0,.int .i64 0,.int .i64 0,.int .i64 0,.str [],.nils,.int .i64 0,.str [],.int .i64 0,.int .i64 0,.nils,.nils] 42),(7,.vec (List.map cGEdge l38).flatten 42 12 t39),(6,.row [.int .i64 p1.Words,.vl 7 t39 0 l38.length] 24),(5,.row (List.map (cI .i64) l28).flatten 3),(2,.row (List.map (cI .i64) r18).flatten 3),(1,.row [.int .i64 0,.nils] 24)],9⟩) rfl (op_alloc inf42 rfl rfl) (RS.opn (u:=.junk) (σ':=⟨[(8,.row (cGEdge x45) 42),(7,.vec (List.map cGEdge l38).flatten 42 12 t39),(6,.row [.int .i64 p1.Words,.vl 7 t39 0 l38.length] 24),(5,.row (List.map (cI .i64) l28).flatten 3),(2,.row (List.map (cI .i64) r18).flatten 3),(1,.row [.int .i64 0,.nils] 24)],9⟩) rfl (op_store (sz_of inf42) rfl rfl rfl rfl rfl rfl rfl rfl) rfl ?_))))))
 refine sd ?_
 obtain ⟨h47,hF⟩:=needO_some hF
 refine sr ?_
 refine RS.q (u:=.ptr 8 0 5) rfl (op_fa und42 rfl (sz_of inf34) rfl rfl rfl) (RS.q (u:=.isl false (List.map (cI .i64) x45.Kids)) rfl (ld_one und34 rfl rfl rfl rfl) (RS.q rfl (op_len rfl rfl rfl (len_isl (cI .i64) und34)) (RS.q (u:=.sl 9 0 ((x45.Kids.length:Int).toNat) ((x45.Kids.length:Int).toNat)) (σ':=⟨[(9,.row (List.map (cI .i64) (List.replicate (x45.Kids.length:Int).toNat 0)).flatten 3),(8,.row (cGEdge x45) 42),(7,.vec (List.map cGEdge l38).flatten 42 12 t39),(6,.row [.int .i64 p1.Words,.vl 7 t39 0 l38.length] 24),(5,.row (List.map (cI .i64) l28).flatten 3),(2,.row (List.map (cI .i64) r18).flatten 3),(1,.row [.int .i64 0,.nils] 24)],10⟩) rfl (op_mks (cI .i64) 0 rfl rfl und34 inf3 rfl rfl rfl rfl h47) ?_)))
 refine se ?_
 refine RS.q (u:=.ptr 8 0 5) rfl (op_fa und42 rfl (sz_of inf34) rfl rfl rfl) (RS.q (u:=.isl false (List.map (cI .i64) x45.Kids)) rfl (ld_one und34 rfl rfl rfl rfl) (RS.q rfl (op_len rfl rfl rfl (len_isl (cI .i64) und34)) (RS.mv rfl rfl rfl rfl ?_)))
 refine sd ?_
 refine WPU.ghost (tm':=fr 102 [(1,.iptr (cGChart p1)),(2,.ptr 1 0 0),(6,.sl 5 0 ((((p1.Edges.length:Int).toNat:Nat):Int).toNat) ((((p1.Edges.length:Int).toNat:Nat):Int).toNat)),(9,.ptr 6 0 0),(12,.ptr 8 0 0),(13,.sl 9 0 ((x45.Kids.length:Int).toNat) ((x45.Kids.length:Int).toNat)),(61,.sl 2 0 ((p1.Edges.length:Int).toNat) ((p1.Edges.length:Int).toNat)),(62,.int .i64 (((p1.Edges.length:Int).toNat:Nat):Int)),(63,.int .i64 z37),(77,.isl false (List.map (cI .i64) x45.Kids)),(78,.int .i64 (x45.Kids.length:Int)),(79,.int .i64 0)]) (Gh.sub ⟨rfl,rfl,rfl,rfl,rfl,rfl,rfl,rfl,rfl,rfl,rfl,rfl,trivial⟩) (Nat.zero_le _) ?_
 refine WPU.loopK (fun m tm σ=>∃ z72:Int,∃ l73:List Int,chart_Canon_L4 p1 l28 z37 l38 (chart_Canon_L3 p1 n r18 l28 m3) x45 m z72 l73=some r∧tm=fr 102 [(1,.iptr (cGChart p1)),(2,.ptr 1 0 0),(6,.sl 5 0 ((((p1.Edges.length:Int).toNat:Nat):Int).toNat) ((((p1.Edges.length:Int).toNat:Nat):Int).toNat)),(9,.ptr 6 0 0),(12,.ptr 8 0 0),(13,.sl 9 0 ((x45.Kids.length:Int).toNat) ((x45.Kids.length:Int).toNat)),(61,.sl 2 0 ((p1.Edges.length:Int).toNat) ((p1.Edges.length:Int).toNat)),(62,.int .i64 (((p1.Edges.length:Int).toNat:Nat):Int)),(63,.int .i64 z37),(77,.isl false (List.map (cI .i64) x45.Kids)),(78,.int .i64 (x45.Kids.length:Int)),(79,.int .i64 z72)]∧σ=⟨[(9,.row (List.map (cI .i64) l73).flatten 3),(8,.row (cGEdge x45) 42),(7,.vec (List.map cGEdge l38).flatten 42 12 t39),(6,.row [.int .i64 p1.Words,.vl 7 t39 0 l38.length] 24),(5,.row (List.map (cI .i64) l28).flatten 3),(2,.row (List.map (cI .i64) r18).flatten 3),(1,.row [.int .i64 0,.nils] 24)],10⟩) (fun tm σ=>∃ l74:List Int,chart_Canon_K4 z37 l38 (chart_Canon_L3 p1 n r18 l28 m3) x45 l74=some r∧tm=fr 102 [(1,.iptr (cGChart p1)),(2,.ptr 1 0 0),(6,.sl 5 0 ((((p1.Edges.length:Int).toNat:Nat):Int).toNat) ((((p1.Edges.length:Int).toNat:Nat):Int).toNat)),(9,.ptr 6 0 0),(12,.ptr 8 0 0),(13,.sl 9 0 ((x45.Kids.length:Int).toNat) ((x45.Kids.length:Int).toNat)),(61,.sl 2 0 ((p1.Edges.length:Int).toNat) ((p1.Edges.length:Int).toNat)),(62,.int .i64 (((p1.Edges.length:Int).toNat:Nat):Int)),(63,.int .i64 z37)]∧σ=⟨[(9,.row (List.map (cI .i64) l74).flatten 3),(8,.row (cGEdge x45) 42),(7,.vec (List.map cGEdge l38).flatten 42 12 t39),(6,.row [.int .i64 p1.Words,.vl 7 t39 0 l38.length] 24),(5,.row (List.map (cI .i64) l28).flatten 3),(2,.row (List.map (cI .i64) r18).flatten 3),(1,.row [.int .i64 0,.nils] 24)],10⟩) n ⟨0,(List.replicate (x45.Kids.length:Int).toNat 0),hF,rfl,rfl⟩ ?_ ?_
 rintro _ _ ⟨l74,hF,rfl,rfl⟩
 unfold chart_Canon_K4 at hF
 refine sr ?_
 refine RS.q (u:=.ptr 8 0 5) rfl (op_fa und42 rfl (sz_of inf34) rfl rfl rfl) (RS.opn (u:=.junk) (σ':=⟨[(9,.row (List.map (cI .i64) l74).flatten 3),(8,.row [.int .i64 x45.From,.int .i64 x45.To,.int .i64 x45.Unary,.int .i64 x45.Kind,.str x45.Name,.sl 9 0 ((x45.Kids.length:Int).toNat) ((x45.Kids.length:Int).toNat),.int .i64 x45.Lex.Kind,.str x45.Lex.Name,.int .i64 x45.Lex.From,.int .i64 x45.Lex.To,.isl false (List.map cGDeriv x45.Lex.Kids),.isl false (List.map cGNode x45.FS.Nodes)] 42),(7,.vec (List.map cGEdge l38).flatten 42 12 t39),(6,.row [.int .i64 p1.Words,.vl 7 t39 0 l38.length] 24),(5,.row (List.map (cI .i64) l28).flatten 3),(2,.row (List.map (cI .i64) r18).flatten 3),(1,.row [.int .i64 0,.nils] 24)],10⟩) rfl (op_store (sz_of inf34) rfl rfl rfl rfl rfl rfl rfl rfl) rfl ?_)
 refine sd ?_
 obtain ⟨h75,hF⟩:=needO_some hF
 refine WPU.ghost (tm':=fr 102 [(1,.iptr (cGChart p1)),(2,.ptr 1 0 0),(6,.sl 5 0 ((((p1.Edges.length:Int).toNat:Nat):Int).toNat) ((((p1.Edges.length:Int).toNat:Nat):Int).toNat)),(9,.ptr 6 0 0),(12,.ptr 8 0 0),(61,.sl 2 0 ((p1.Edges.length:Int).toNat) ((p1.Edges.length:Int).toNat)),(62,.int .i64 (((p1.Edges.length:Int).toNat:Nat):Int)),(63,.int .i64 z37)]) (σ':=⟨[(8,.row [.int .i64 x45.From,.int .i64 x45.To,.int .i64 x45.Unary,.int .i64 x45.Kind,.str x45.Name,.isl false (List.map (cI .i64) l74),.int .i64 x45.Lex.Kind,.str x45.Lex.Name,.int .i64 x45.Lex.From,.int .i64 x45.Lex.To,.isl false (List.map cGDeriv x45.Lex.Kids),.isl false (List.map cGNode x45.FS.Nodes)] 42),(7,.vec (List.map cGEdge l38).flatten 42 12 t39),(6,.row [.int .i64 p1.Words,.vl 7 t39 0 l38.length] 24),(5,.row (List.map (cI .i64) l28).flatten 3),(2,.row (List.map (cI .i64) r18).flatten 3),(1,.row [.int .i64 0,.nils] 24)],10⟩) (Gh.trans (Gh.sub (l':=[(1,.iptr (cGChart p1)),(2,.ptr 1 0 0),(6,.sl 5 0 ((((p1.Edges.length:Int).toNat:Nat):Int).toNat) ((((p1.Edges.length:Int).toNat:Nat):Int).toNat)),(9,.ptr 6 0 0),(12,.ptr 8 0 0),(61,.sl 2 0 ((p1.Edges.length:Int).toNat) ((p1.Edges.length:Int).toNat)),(62,.int .i64 (((p1.Edges.length:Int).toNat:Nat):Int)),(63,.int .i64 z37)]) ⟨rfl,rfl,rfl,rfl,rfl,rfl,rfl,rfl,trivial⟩) (Gh.fzS (l':=[(1,.iptr (cGChart p1)),(2,.ptr 1 0 0),(6,.sl 5 0 ((((p1.Edges.length:Int).toNat:Nat):Int).toNat) ((((p1.Edges.length:Int).toNat:Nat):Int).toNat)),(9,.ptr 6 0 0),(12,.ptr 8 0 0),(61,.sl 2 0 ((p1.Edges.length:Int).toNat) ((p1.Edges.length:Int).toNat)),(62,.int .i64 (((p1.Edges.length:Int).toNat:Nat):Int)),(63,.int .i64 z37)]) (h':=[(8,.row [.int .i64 x45.From,.int .i64 x45.To,.int .i64 x45.Unary,.int .i64 x45.Kind,.str x45.Name,.isl false (List.map (cI .i64) l74),.int .i64 x45.Lex.Kind,.str x45.Lex.Name,.int .i64 x45.Lex.From,.int .i64 x45.Lex.To,.isl false (List.map cGDeriv x45.Lex.Kids),.isl false (List.map cGNode x45.FS.Nodes)] 42),(7,.vec (List.map cGEdge l38).flatten 42 12 t39),(6,.row [.int .i64 p1.Words,.vl 7 t39 0 l38.length] 24),(5,.row (List.map (cI .i64) l28).flatten 3),(2,.row (List.map (cI .i64) r18).flatten 3),(1,.row [.int .i64 0,.nils] 24)]) 9 (.row (List.map (cI .i64) l74).flatten 3) 1 rfl (by simp) (by simp only [fzS,oneU,fzL_nil,fzL_cons,fz_int,fz_bool,fz_str,fz_nils,fz_nilp,fz_nilm,fz_nilf,fz_junk,fz_isl,fz_map,fz_agg,fz_tup,fz_fn,junkT,fz_rl (len_cI .i64) h75,fz_iptr,fz_cGChart,fz_vn (show Nat.beq 1 9=false from rfl),fz_sn (show Nat.beq 1 9=false from rfl),fz_pn (show Nat.beq 1 9=false from rfl),fz_vn (show Nat.beq 2 9=false from rfl),fz_sn (show Nat.beq 2 9=false from rfl),fz_pn (show Nat.beq 2 9=false from rfl),fz_vn (show Nat.beq 5 9=false from rfl),fz_sn (show Nat.beq 5 9=false from rfl),fz_pn (show Nat.beq 5 9=false from rfl),fz_vn (show Nat.beq 6 9=false from rfl),fz_sn (show Nat.beq 6 9=false from rfl),fz_pn (show Nat.beq 6 9=false from rfl),fz_vn (show Nat.beq 7 9=false from rfl),fz_sn (show Nat.beq 7 9=false from rfl),fz_pn (show Nat.beq 7 9=false from rfl),fz_vn (show Nat.beq 8 9=false from rfl),fz_sn (show Nat.beq 8 9=false from rfl),fz_pn (show Nat.beq 8 9=false from rfl),fzL_bel _ _ _ (bel_flat 9 (fun q=>bel_cGEdge _ q) l38),fzL_bel _ _ _ (bel_flat 9 (fun q=>bel_cI _ .i64 q) l28),fzL_bel _ _ _ (bel_flat 9 (fun q=>bel_cI _ .i64 q) r18)]) (by simp only [fzH,fzB,ug,Nat.beq,cond_true,cond_false,oneU,fzL_nil,fzL_cons,fz_int,fz_bool,fz_str,fz_nils,fz_nilp,fz_nilm,fz_nilf,fz_junk,fz_isl,fz_map,fz_agg,fz_tup,fz_fn,junkT,fz_rl (len_cI .i64) h75,fz_iptr,fz_cGChart,fz_vn (show Nat.beq 1 9=false from rfl),fz_sn (show Nat.beq 1 9=false from rfl),fz_pn (show Nat.beq 1 9=false from rfl),fz_vn (show Nat.beq 2 9=false from rfl),fz_sn (show Nat.beq 2 9=false from rfl),fz_pn (show Nat.beq 2 9=false from rfl),fz_vn (show Nat.beq 5 9=false from rfl),fz_sn (show Nat.beq 5 9=false from rfl),fz_pn (show Nat.beq 5 9=false from rfl),fz_vn (show Nat.beq 6 9=false from rfl),fz_sn (show Nat.beq 6 9=false from rfl),fz_pn (show Nat.beq 6 9=false from rfl),fz_vn (show Nat.beq 7 9=false from rfl),fz_sn (show Nat.beq 7 9=false from rfl),fz_pn (show Nat.beq 7 9=false from rfl),fz_vn (show Nat.beq 8 9=false from rfl),fz_sn (show Nat.beq 8 9=false from rfl),fz_pn (show Nat.beq 8 9=false from rfl),fzL_bel _ _ _ (bel_flat 9 (fun q=>bel_cGEdge _ q) l38),fzL_bel _ _ _ (bel_flat 9 (fun q=>bel_cI _ .i64 q) l28),fzL_bel _ _ _ (bel_flat 9 (fun q=>bel_cI _ .i64 q) r18)]))) (Nat.zero_le _) ?_
 refine st ?_
 obtain ⟨h76,hF⟩:=needO_some hF
 refine sr ?_
 refine RS.q (u:=.ptr 6 0 1) rfl (op_fa und24 rfl (sz_of inf22) rfl rfl rfl) (RS.q (u:=.vl 7 t39 0 l38.length) rfl (ld_one und22 rfl rfl rfl rfl) (RS.q (u:=.agg [.int .i64 x45.From,.int .i64 x45.To,.int .i64 x45.Unary,.int .i64 x45.Kind,.str x45.Name,.isl false (List.map (cI .i64) l74),.int .i64 x45.Lex.Kind,.str x45.Lex.Name,.int .i64 x45.Lex.From,.int .i64 x45.Lex.To,.isl false (List.map cGDeriv x45.Lex.Kids),.isl false (List.map cGNode x45.FS.Nodes)]) rfl (ld_agg und42 rfl (sz_of inf42) rfl rfl rfl) (RS.q (u:=.sl 10 0 1 1) (σ':=⟨[(10,.row [.int .i64 x45.From,.int .i64 x45.To,.int .i64 x45.Unary,.int .i64 x45.Kind,.str x45.Name,.isl false (List.map (cI .i64) l74),.int .i64 x45.Lex.Kind,.str x45.Lex.Name,.int .i64 x45.Lex.From,.int .i64 x45.Lex.To,.isl false (List.map cGDeriv x45.Lex.Kids),.isl false (List.map cGNode x45.FS.Nodes)] 42),(8,.row [.int .i64 x45.From,.int .i64 x45.To,.int .i64 x45.Unary,.int .i64 x45.Kind,.str x45.Name,.isl false (List.map (cI .i64) l74),.int .i64 x45.Lex.Kind,.str x45.Lex.Name,.int .i64 x45.Lex.From,.int .i64 x45.Lex.To,.isl false (List.map cGDeriv x45.Lex.Kids),.isl false (List.map cGNode x45.FS.Nodes)] 42),(7,.vec (List.map cGEdge l38).flatten 42 12 t39),(6,.row [.int .i64 p1.Words,.vl 7 t39 0 l38.length] 24),(5,.row (List.map (cI .i64) l28).flatten 3),(2,.row (List.map (cI .i64) r18).flatten 3),(1,.row [.int .i64 0,.nils] 24)],11⟩) rfl (op_bsl und22 inf42 rfl rfl rfl rfl rfl rfl rfl) (RS.q (u:=.vl 7 (t39+1) 0 ((l38++[(GEdge.mk x45.From x45.To x45.Unary x45.Kind x45.Name l74 x45.Lex x45.FS)]).length)) (σ':=⟨[(10,.row [.int .i64 x45.From,.int .i64 x45.To,.int .i64 x45.Unary,.int .i64 x45.Kind,.str x45.Name,.isl false (List.map (cI .i64) l74),.int .i64 x45.Lex.Kind,.str x45.Lex.Name,.int .i64 x45.Lex.From,.int .i64 x45.Lex.To,.isl false (List.map cGDeriv x45.Lex.Kids),.isl false (List.map cGNode x45.FS.Nodes)] 42),(8,.row [.int .i64 x45.From,.int .i64 x45.To,.int .i64 x45.Unary,.int .i64 x45.Kind,.str x45.Name,.isl false (List.map (cI .i64) l74),.int .i64 x45.Lex.Kind,.str x45.Lex.Name,.int .i64 x45.Lex.From,.int .i64 x45.Lex.To,.isl false (List.map cGDeriv x45.Lex.Kids),.isl false (List.map cGNode x45.FS.Nodes)] 42),(7,.vec (List.map cGEdge (l38++[(GEdge.mk x45.From x45.To x45.Unary x45.Kind x45.Name l74 x45.Lex x45.FS)])).flatten 42 12 (t39+1)),(6,.row [.int .i64 p1.Words,.vl 7 t39 0 l38.length] 24),(5,.row (List.map (cI .i64) l28).flatten 3),(2,.row (List.map (cI .i64) r18).flatten 3),(1,.row [.int .i64 0,.nils] 24)],11⟩) rfl (op_app rfl rfl rfl rfl (app_vl cGEdge ([(GEdge.mk x45.From x45.To x45.Unary x45.Kind x45.Name l74 x45.Lex x45.FS)]) und22 und22 inf42 rfl len_cGEdge rfl (src_row cGEdge [(GEdge.mk x45.From x45.To x45.Unary x45.Kind x45.Name l74 x45.Lex x45.FS)] rfl rfl rfl rfl) h76)) (RS.q (u:=.ptr 6 0 1) rfl (op_fa und24 rfl (sz_of inf22) rfl rfl rfl) (RS.opn (u:=.junk) (σ':=⟨[(10,.row [.int .i64 x45.From,.int .i64 x45.To,.int .i64 x45.Unary,.int .i64 x45.Kind,.str x45.Name,.isl false (List.map (cI .i64) l74),.int .i64 x45.Lex.Kind,.str x45.Lex.Name,.int .i64 x45.Lex.From,.int .i64 x45.Lex.To,.isl false (List.map cGDeriv x45.Lex.Kids),.isl false (List.map cGNode x45.FS.Nodes)] 42),(8,.row [.int .i64 x45.From,.int .i64 x45.To,.int .i64 x45.Unary,.int .i64 x45.Kind,.str x45.Name,.isl false (List.map (cI .i64) l74),.int .i64 x45.Lex.Kind,.str x45.Lex.Name,.int .i64 x45.Lex.From,.int .i64 x45.Lex.To,.isl false (List.map cGDeriv x45.Lex.Kids),.isl false (List.map cGNode x45.FS.Nodes)] 42),(7,.vec (List.map cGEdge (l38++[(GEdge.mk x45.From x45.To x45.Unary x45.Kind x45.Name l74 x45.Lex x45.FS)])).flatten 42 12 (t39+1)),(6,.row [.int .i64 p1.Words,.vl 7 (t39+1) 0 ((l38++[(GEdge.mk x45.From x45.To x45.Unary x45.Kind x45.Name l74 x45.Lex x45.FS)]).length)] 24),(5,.row (List.map (cI .i64) l28).flatten 3),(2,.row (List.map (cI .i64) r18).flatten 3),(1,.row [.int .i64 0,.nils] 24)],11⟩) rfl (op_store (sz_of inf22) rfl rfl rfl rfl rfl rfl rfl rfl) rfl ?_))))))
 refine se ?_
 refine RS.q rfl (op_int rfl rfl (ix_add _ _ _) rfl) (RS.mv rfl rfl rfl rfl ?_)
 refine sd ?_
 exact ⟨m3,_,_,Nat.lt_succ_self _,⟨(IntKind.i64.wrap (z37+1)),(l38++[(GEdge.mk x45.From x45.To x45.Unary x45.Kind x45.Name l74 x45.Lex x45.FS)]),(t39+1),hF,rfl,rfl⟩,(Nat.zero_le _),Gh.toC (n1:=8) ⟨rfl,rfl,rfl,rfl,rfl,rfl,rfl,trivial⟩ rfl (Nat.zero_le _) (by simp)⟩
 rintro m4 _ _ ⟨z72,l73,hF,rfl,rfl⟩
 rcases m4 with _ | m4
 cases hF
 unfold chart_Canon_L4 at hF
 refine sr ?_
 refine RS.q rfl (op_int rfl rfl (ix_lss _ _ _) rfl) ?_
 refine sd ?_
 refine WPU.condS (t:=(decide (z72<(x45.Kids.length:Int)))) rfl (fun h77=>?_) (fun h77=>?_)
 replace hF:=cond_t h77 hF
 refine st ?_
 refine WPU.skip ?_
 refine st ?_
 refine WPU.block ?_
 refine st ?_
 obtain ⟨x78,h79,hF⟩:=bindO_some hF
 refine sr ?_
 refine RS.q (u:=.iptr [.int .i64 x78]) rfl (op_ia rfl rfl (ia_isl (cI .i64) und34 (sz_of inf3) (len_cI .i64) h79 rfl)) (RS.q (u:=.int .i64 x78) rfl (li_one und3 rfl rfl rfl) ?_)
 repeat refine RS.as rfl rfl rfl rfl ?_
 refine sd ?_
 obtain ⟨x80,h81,hF⟩:=bindO_some hF
 obtain ⟨x82,h83,hF⟩:=bindO_some hF
 refine sr ?_
 repeat refine RS.mv rfl rfl rfl rfl ?_
 refine RS.q (u:=.ptr 5 0 (0*1+x78.toNat*1)) rfl (op_ia rfl rfl (ia_rl und34 (sz_of inf3) rfl h81)) (RS.q (u:=.int .i64 x80) rfl (ld_rl1 (cI .i64) (fun x=>.int .i64 x) und3 rfl (fun _=>rfl) rfl rfl h81) (RS.q (u:=.ptr 9 0 (0*1+z72.toNat*1)) rfl (op_ia rfl rfl (ia_rl und34 (sz_of inf3) rfl h83)) (RS.opn (u:=.junk) (σ':=⟨[(9,.row (List.map (cI .i64) (l73.set z72.toNat x80)).flatten 3),(8,.row (cGEdge x45) 42),(7,.vec (List.map cGEdge l38).flatten 42 12 t39),(6,.row [.int .i64 p1.Words,.vl 7 t39 0 l38.length] 24),(5,.row (List.map (cI .i64) l28).flatten 3),(2,.row (List.map (cI .i64) r18).flatten 3),(1,.row [.int .i64 0,.nils] 24)],10⟩) rfl (st_rl (cI .i64) (sz_of inf3) (len_cI .i64) rfl rfl rfl rfl rfl rfl h83 rfl) rfl ?_)))
 refine se ?_
 refine RS.q rfl (op_int rfl rfl (ix_add _ _ _) rfl) (RS.mv rfl rfl rfl rfl ?_)
 refine sd ?_
 exact ⟨m4,_,_,Nat.lt_succ_self _,⟨(IntKind.i64.wrap (z72+1)),(l73.set z72.toNat x80),hF,rfl,rfl⟩,(Nat.zero_le _),Gh.toC (n1:=10) ⟨rfl,rfl,rfl,rfl,rfl,rfl,rfl,rfl,rfl,rfl,rfl,rfl,trivial⟩ rfl (Nat.zero_le _) (by simp)⟩
 replace hF:=cond_f h77 hF
 refine st ?_
 refine WPU.exit ?_
 refine st ?_
 exact ⟨_,_,⟨l73,hF,rfl,rfl⟩,(Nat.zero_le _),Gh.toC (n1:=10) ⟨rfl,rfl,rfl,rfl,rfl,rfl,rfl,rfl,rfl,trivial⟩ rfl (Nat.zero_le _) (by simp)⟩
 replace hF:=cond_f h42 hF
 refine st ?_
 refine WPU.exit ?_
 refine st ?_
 exact ⟨_,_,⟨l38,t39,hF,rfl,rfl⟩,(Nat.zero_le _),Gh.toC (n1:=8) ⟨rfl,rfl,trivial⟩ rfl (Nat.zero_le _) (by simp)⟩
 rintro m2 _ _ ⟨z26,l27,hF,rfl,rfl⟩
 rcases m2 with _ | m2
 cases hF
 unfold chart_Canon_L2 at hF
 refine sr ?_
 refine RS.q rfl (op_int rfl rfl (ix_lss _ _ _) rfl) ?_
 refine sd ?_
 refine WPU.condS (t:=(decide (z26<(((p1.Edges.length:Int).toNat:Nat):Int)))) rfl (fun h84=>?_) (fun h84=>?_)
 replace hF:=cond_t h84 hF
 refine st ?_
 refine WPU.skip ?_
 refine st ?_
 refine WPU.block ?_
 refine st ?_
 obtain ⟨x85,h86,hF⟩:=bindO_some hF
 refine sr ?_
 refine RS.q (u:=.ptr 2 0 (0*1+z26.toNat*1)) rfl (op_ia rfl rfl (ia_rl und34 (sz_of inf3) rfl h86)) (RS.q (u:=.int .i64 x85) rfl (ld_rl1 (cI .i64) (fun x=>.int .i64 x) und3 rfl (fun _=>rfl) rfl rfl h86) ?_)
 repeat refine RS.as rfl rfl rfl rfl ?_
 refine sd ?_
 obtain ⟨x87,h88,hF⟩:=bindO_some hF
 refine sr ?_
 repeat refine RS.mv rfl rfl rfl rfl ?_
 refine RS.q (u:=.ptr 5 0 (0*1+x85.toNat*1)) rfl (op_ia rfl rfl (ia_rl und34 (sz_of inf3) rfl h88)) (RS.opn (u:=.junk) (σ':=⟨[(5,.row (List.map (cI .i64) (l27.set x85.toNat z26)).flatten 3),(2,.row (List.map (cI .i64) r18).flatten 3),(1,.row [.int .i64 0,.nils] 24)],6⟩) rfl (st_rl (cI .i64) (sz_of inf3) (len_cI .i64) rfl rfl rfl rfl rfl rfl h88 rfl) rfl ?_)
 refine se ?_
 refine RS.q rfl (op_int rfl rfl (ix_add _ _ _) rfl) (RS.mv rfl rfl rfl rfl ?_)
 refine sd ?_
 exact ⟨m2,_,_,Nat.lt_succ_self _,⟨(IntKind.i64.wrap (z26+1)),(l27.set x85.toNat z26),hF,rfl,rfl⟩,(Nat.zero_le _),Gh.toC (n1:=6) ⟨rfl,rfl,rfl,rfl,rfl,rfl,rfl,trivial⟩ rfl (Nat.zero_le _) (by simp)⟩
 replace hF:=cond_f h84 hF
 refine st ?_
 refine WPU.exit ?_
 refine st ?_
 exact ⟨_,_,⟨l27,hF,rfl,rfl⟩,(Nat.zero_le _),Gh.toC (n1:=6) ⟨rfl,rfl,rfl,rfl,trivial⟩ rfl (Nat.zero_le _) (by simp)⟩
 rintro m1 _ _ ⟨z11,l12,l13,hF,rfl,rfl⟩
 rcases m1 with _ | m1
 cases hF
 unfold chart_Canon_L1 at hF
 refine sr ?_
 refine RS.q rfl (op_int rfl rfl (ix_lss _ _ _) rfl) ?_
 refine sd ?_
 refine WPU.condS (t:=(decide (z11<(((p1.Edges.length:Int).toNat:Nat):Int)))) rfl (fun h89=>?_) (fun h89=>?_)
 replace hF:=cond_t h89 hF
 refine st ?_
 refine WPU.skip ?_
 refine st ?_
 refine WPU.block ?_
 refine sr ?_
 refine sd ?_
 obtain ⟨r90,h91,hF⟩:=bindO_some hF
 obtain ⟨x92,h93,hF⟩:=bindO_some hF
 obtain ⟨x94,h95,hF⟩:=bindO_some hF
 refine WPU.drawE Try.tb_ok [(2,9),(3,9)] (by kernel_rfl) ?_
 repeat refine RD.mv rfl rfl rfl rfl ?_
 refine RD.q (u:=.sl 3 0 ((p1.Edges.length:Int).toNat) ((p1.Edges.length:Int).toNat)) rfl (ld_one und35 rfl rfl rfl rfl) ?_
 repeat refine RD.mv rfl rfl rfl rfl ?_
 refine RD.q (u:=.agg (cGChart p1)) rfl (ld_agg und24 rfl (sz_of inf24) rfl rfl rfl) (RD.mv rfl rfl rfl rfl (RD.free (u:=.agg (xGDeriv r90)) (args:=[.agg (cGChart p1),.int .i64 z11]) rfl (op_call rfl rfl fn22 hb22 rfl rfl) (fun s=>chart_Deriv_ok n p1 z11 r90 h91 s) rfl rfl (RD.q (u:=.ptr 2 0 (0*1+z11.toNat*1)) rfl (op_ia rfl rfl (ia_rl und34 (sz_of inf3) rfl h93)) (RD.actn (u:=.junk) (σ':=⟨[(4,.row [.sl 3 0 ((p1.Edges.length:Int).toNat) ((p1.Edges.length:Int).toNat)] 35),(3,.row (List.map cGDeriv l12).flatten 37),(2,.row (List.map (cI .i64) (l13.set z11.toNat z11)).flatten 3),(1,.row [.int .i64 0,.nils] 24),(0,.row (cGChart p1) 24)],5⟩) rfl (st_rl (cI .i64) (sz_of inf3) (len_cI .i64) rfl rfl rfl rfl rfl rfl h93 rfl) rfl (RD.q (u:=.ptr 3 0 (0*5+z11.toNat*5)) rfl (op_ia rfl rfl (ia_rl und35 (sz_of inf37) rfl h95)) ?_)))))
 refine RD.actn (u:=.junk) (σ':=⟨[(4,.row [.sl 3 0 ((p1.Edges.length:Int).toNat) ((p1.Edges.length:Int).toNat)] 35),(3,.row (List.map cGDeriv (l12.set z11.toNat r90)).flatten 37),(2,.row (List.map (cI .i64) (l13.set z11.toNat z11)).flatten 3),(1,.row [.int .i64 0,.nils] 24),(0,.row (cGChart p1) 24)],5⟩) rfl (st_rl cGDeriv (sz_of inf37) len_cGDeriv rfl rfl rfl rfl (by simp only [cGDeriv_eq,xGDeriv,GDeriv.Kind,GDeriv.Name,GDeriv.From,GDeriv.To,GDeriv.Kids]<;>rfl) rfl h95 rfl) rfl ?_
 refine RD.done ⟨by kernel_rfl,⟨ld_one und35 rfl rfl rfl rfl,⟨op_move rfl,trivial⟩⟩,?_⟩
 refine sr ?_
 refine RS.q rfl (op_int rfl rfl (ix_add _ _ _) rfl) (RS.mv rfl rfl rfl rfl ?_)
 refine sd ?_
 exact ⟨m1,_,_,Nat.lt_succ_self _,⟨(IntKind.i64.wrap (z11+1)),(l12.set z11.toNat r90),(l13.set z11.toNat z11),hF,rfl,rfl⟩,(Nat.zero_le _),Gh.toC (n1:=5) ⟨rfl,rfl,rfl,rfl,rfl,rfl,trivial⟩ rfl (Nat.zero_le _) (by simp)⟩
 replace hF:=cond_f h89 hF
 refine st ?_
 refine WPU.exit ?_
 refine st ?_
 exact ⟨_,_,⟨l12,l13,hF,rfl,rfl⟩,(Nat.zero_le _),Gh.toC (n1:=5) ⟨rfl,rfl,rfl,rfl,trivial⟩ rfl (Nat.zero_le _) (by simp)⟩
theorem chart_Canon_ok (n:Nat) (p1:GChart) (r:GChart) (hF:chart_Canon n p1=some r) (σ:Sg):EvU Try.prog 25 [.agg (cGChart p1)] σ (fun u σ'=>u = .agg (cGChart r)∧σ'=σ) :=
 EvU.pure1C (chart_Canon_0 n p1 r hF) σ
def law32_exampleHolds (n:Nat)  : Option (Bool) :=
 bindO (chart_New n 0) fun r1 =>
 bindO (chart_New n 33) fun r3 =>
 bindO (chart_New n 2) fun r5 =>
 bindO (law32_item n ([97]) 0 1) fun r7 =>
 bindO (chart_Add n (GChart.mk r5.1.Words r5.1.Edges) r7) fun r9 =>
 bindO (law32_item n ([98]) 1 2) fun r11 =>
 bindO (chart_Add n (GChart.mk r9.1.Words r9.1.Edges) r11) fun r13 =>
 bindO (law32_item n ([98]) 1 2) fun r15 =>
 bindO (chart_Add n (GChart.mk r13.1.Words r13.1.Edges) r15) fun r17 =>
 bindO (chart_Add n (GChart.mk r13.1.Words r13.1.Edges) (GEdge.mk 0 2 0 2 ([115]) ([0,1]) (GDeriv.mk 0 [] 0 0 []) (GFS.mk []))) fun r19 =>
 bindO (chart_Add n (GChart.mk r19.1.Words r19.1.Edges) (GEdge.mk 0 1 1 2 ([110]) ([0]) (GDeriv.mk 0 [] 0 0 []) (GFS.mk []))) fun r21 =>
 bindO (chart_Add n (GChart.mk r21.1.Words r21.1.Edges) (GEdge.mk 0 1 2 2 ([110]) ([3]) (GDeriv.mk 0 [] 0 0 []) (GFS.mk []))) fun r23 =>
 bindO (chart_Add n (GChart.mk r23.1.Words r23.1.Edges) (GEdge.mk 0 1 3 2 ([110]) ([4]) (GDeriv.mk 0 [] 0 0 []) (GFS.mk []))) fun r25 =>
 bindO (cond (r1.2 != 2)
  (some true)
  (cond (r3.2 != 2)
   (some true)
   (cond (r5.2 != 0)
    (some true)
    (cond (r9.2.2 != 0)
     (some true)
     (cond (r13.2.2 != 0)
      (some true)
      (cond (r17.2.2 != 4)
       (some true)
       (cond (r17.2.1 != 1)
        (some true)
        (cond (r19.2.2 != 0)
         (some true)
         (cond (r19.2.1 != 2)
          (some true)
          (cond (r21.2.2 != 0)
           (some true)
           (cond (r23.2.2 != 0)
            (some true)
            (some (r25.2.2 != 13))))))))))))) fun b38 =>
 cond b38
  (some false)
  (bindO (chart_Starting n (GChart.mk r23.1.Words r23.1.Edges) 0) fun r41 =>
  bindO (chart_Ending n (GChart.mk r23.1.Words r23.1.Edges) 2) fun r43 =>
  bindO (cond ((r41.length:Int) == 4)
   (bindO (idxO r41 1) fun x46 =>
   cond (x46 == 2)
    (cond ((r43.length:Int) == 2)
     (bindO (idxO r43 0) fun x50 =>
     cond (x50 == 1)
      (bindO (idxO r43 1) fun x53 =>
      cond (x53 == 2)
       (bindO (chart_Deriv n (GChart.mk r23.1.Words r23.1.Edges) 2) fun r56 =>
       bindO (ref28_Print n r56) fun r58 =>
       cond (bytesEq r58 ([40,115,32,48,32,50,32,40,97,32,48,32,49,41,32,40,98,32,49,32,50,41,41]))
        (bindO (chart_Canon n (GChart.mk r23.1.Words r23.1.Edges)) fun r61 =>
        bindO (idxO r61.Edges 4) fun x63 =>
        some (bytesEq x63.Name ([115])))
        (some false))
       (some false))
      (some false))
     (some false))
    (some false))
   (some false)) fun b65 =>
  some b65)
theorem law32_exampleHolds_0 (n:Nat)  (r:Bool) (hF:law32_exampleHolds n  = some r):EvU Try.prog 12 [] ⟨[],0⟩ (fun u _=>u = .bool r∧Bel 0 u):=by
 unfold law32_exampleHolds at hF
 refine EvU.of_body Try.tb_ok fn12 rfl ?_
 refine WPU.ghost (tm':=fr 181 []) (Gh.start (Nat.le_of_ble_eq_true rfl)) (Nat.zero_le _) ?_
 refine sr ?_
 refine sd ?_
 obtain ⟨r1,h2,hF⟩:=bindO_some hF
 refine sr ?_
 refine RS.call (u:=.tup [.agg (cGChart r1.1),.int .i64 r1.2]) (args:=[.int .i64 0]) rfl (op_call rfl rfl fn9 hb9 rfl rfl) (chart_New_ok n 0 r1 h2 _) rfl rfl (RS.mv rfl rfl rfl rfl (RS.q rfl (op_ext rfl rfl) (RS.q rfl (op_ext rfl rfl) (RS.q (u:=.ptr 0 0 0) (σ':=⟨[(0,.row [.int .i64 0,.nils] 24)],1⟩) rfl (op_alloc inf24 rfl rfl) (RS.opn (u:=.junk) (σ':=⟨[(0,.row (cGChart r1.1) 24)],1⟩) rfl (op_store (sz_of inf24) rfl rfl rfl rfl rfl rfl rfl rfl) rfl ?_)))))
 refine sd ?_
 obtain ⟨r3,h4,hF⟩:=bindO_some hF
 refine sr ?_
 refine RS.call (u:=.tup [.agg (cGChart r3.1),.int .i64 r3.2]) (args:=[.int .i64 33]) rfl (op_call rfl rfl fn9 hb9 rfl rfl) (chart_New_ok n 33 r3 h4 _) rfl rfl (RS.mv rfl rfl rfl rfl (RS.q rfl (op_ext rfl rfl) (RS.q rfl (op_ext rfl rfl) (RS.q (u:=.ptr 1 0 0) (σ':=⟨[(1,.row [.int .i64 0,.nils] 24),(0,.row (cGChart r1.1) 24)],2⟩) rfl (op_alloc inf24 rfl rfl) (RS.opn (u:=.junk) (σ':=⟨[(1,.row (cGChart r3.1) 24),(0,.row (cGChart r1.1) 24)],2⟩) rfl (op_store (sz_of inf24) rfl rfl rfl rfl rfl rfl rfl rfl) rfl ?_)))))
 refine sd ?_
 obtain ⟨r5,h6,hF⟩:=bindO_some hF
 refine sr ?_
 refine RS.call (u:=.tup [.agg (cGChart r5.1),.int .i64 r5.2]) (args:=[.int .i64 2]) rfl (op_call rfl rfl fn9 hb9 rfl rfl) (chart_New_ok n 2 r5 h6 _) rfl rfl (RS.mv rfl rfl rfl rfl (RS.q rfl (op_ext rfl rfl) (RS.q rfl (op_ext rfl rfl) (RS.q (u:=.ptr 2 0 0) (σ':=⟨[(2,.row [.int .i64 0,.nils] 24),(1,.row (cGChart r3.1) 24),(0,.row (cGChart r1.1) 24)],3⟩) rfl (op_alloc inf24 rfl rfl) (RS.opn (u:=.junk) (σ':=⟨[(2,.row (cGChart r5.1) 24),(1,.row (cGChart r3.1) 24),(0,.row (cGChart r1.1) 24)],3⟩) rfl (op_store (sz_of inf24) rfl rfl rfl rfl rfl rfl rfl rfl) rfl ?_)))))
 refine sd ?_
 obtain ⟨r7,h8,hF⟩:=bindO_some hF
 obtain ⟨r9,h10,hF⟩:=bindO_some hF
 refine WPU.drawE Try.tb_ok [(5,7),(6,7)] (by kernel_rfl) ?_
 refine RD.q (u:=.agg (cGChart r5.1)) rfl (ld_agg und24 rfl (sz_of inf24) rfl rfl rfl) (RD.free (u:=.agg (cGEdge r7)) (args:=[.str ([97]),.int .i64 0,.int .i64 1]) rfl (op_call rfl rfl fn31 hb31 rfl rfl) (fun s=>law32_item_ok n ([97]) 0 1 r7 h8 s) rfl rfl (RD.free (u:=.tup [.agg (cGChart r9.1),.int .i64 r9.2.1,.int .i64 r9.2.2]) (args:=[.agg (cGChart r5.1),.agg (cGEdge r7)]) rfl (op_call rfl rfl fn14 hb14 rfl rfl) (fun s=>chart_Add_ok n (GChart.mk r5.1.Words r5.1.Edges) r7 r9 h10 s) rfl rfl (RD.mv rfl rfl rfl rfl (RD.q rfl (op_ext rfl rfl) (RD.q rfl (op_ext rfl rfl) (RD.q rfl (op_ext rfl rfl) (RD.actn (u:=.junk) (σ':=⟨[(2,.row (cGChart r9.1) 24),(1,.row (cGChart r3.1) 24),(0,.row (cGChart r1.1) 24)],3⟩) rfl (op_store (sz_of inf24) rfl rfl rfl rfl rfl rfl rfl rfl) rfl ?_)))))))
 repeat refine RD.as rfl rfl rfl rfl ?_
 refine RD.done ⟨by kernel_rfl,⟨op_ext rfl rfl,⟨op_ext rfl rfl,trivial⟩⟩,?_⟩
 refine st ?_
 obtain ⟨r11,h12,hF⟩:=bindO_some hF
 obtain ⟨r13,h14,hF⟩:=bindO_some hF
 refine WPU.drawE Try.tb_ok [(5,7),(6,7)] (by kernel_rfl) ?_
 refine RD.q (u:=.agg (cGChart r9.1)) rfl (ld_agg und24 rfl (sz_of inf24) rfl rfl rfl) (RD.free (u:=.agg (cGEdge r11)) (args:=[.str ([98]),.int .i64 1,.int .i64 2]) rfl (op_call rfl rfl fn31 hb31 rfl rfl) (fun s=>law32_item_ok n ([98]) 1 2 r11 h12 s) rfl rfl (RD.free (u:=.tup [.agg (cGChart r13.1),.int .i64 r13.2.1,.int .i64 r13.2.2]) (args:=[.agg (cGChart r9.1),.agg (cGEdge r11)]) rfl (op_call rfl rfl fn14 hb14 rfl rfl) (fun s=>chart_Add_ok n (GChart.mk r9.1.Words r9.1.Edges) r11 r13 h14 s) rfl rfl (RD.mv rfl rfl rfl rfl (RD.q rfl (op_ext rfl rfl) (RD.q rfl (op_ext rfl rfl) (RD.q rfl (op_ext rfl rfl) (RD.actn (u:=.junk) (σ':=⟨[(2,.row (cGChart r13.1) 24),(1,.row (cGChart r3.1) 24),(0,.row (cGChart r1.1) 24)],3⟩) rfl (op_store (sz_of inf24) rfl rfl rfl rfl rfl rfl rfl rfl) rfl ?_)))))))
 repeat refine RD.as rfl rfl rfl rfl ?_
 refine RD.done ⟨by kernel_rfl,⟨op_ext rfl rfl,⟨op_ext rfl rfl,trivial⟩⟩,?_⟩
 refine st ?_
 obtain ⟨r15,h16,hF⟩:=bindO_some hF
 obtain ⟨r17,h18,hF⟩:=bindO_some hF
 refine WPU.drawE Try.tb_ok [(0,7),(3,7),(4,7),(5,7),(5,8),(6,7),(6,8)] (by kernel_rfl) ?_
 refine RD.q (u:=.agg (cGChart r13.1)) rfl (ld_agg und24 rfl (sz_of inf24) rfl rfl rfl) (RD.free (u:=.agg (cGEdge r15)) (args:=[.str ([98]),.int .i64 1,.int .i64 2]) rfl (op_call rfl rfl fn31 hb31 rfl rfl) (fun s=>law32_item_ok n ([98]) 1 2 r15 h16 s) rfl rfl (RD.free (u:=.tup [.agg (cGChart r17.1),.int .i64 r17.2.1,.int .i64 r17.2.2]) (args:=[.agg (cGChart r13.1),.agg (cGEdge r15)]) rfl (op_call rfl rfl fn14 hb14 rfl rfl) (fun s=>chart_Add_ok n (GChart.mk r13.1.Words r13.1.Edges) r15 r17 h18 s) rfl rfl (RD.mv rfl rfl rfl rfl (RD.q rfl (op_ext rfl rfl) (RD.q rfl (op_ext rfl rfl) (RD.q rfl (op_ext rfl rfl) (RD.act (u:=.ptr 3 0 0) (σ':=⟨[(3,.row [.int .i64 0,.nils] 24),(2,.row (cGChart r13.1) 24),(1,.row (cGChart r3.1) 24),(0,.row (cGChart r1.1) 24)],4⟩) rfl (op_alloc inf24 rfl rfl) rfl rfl ?_)))))))
 refine RD.actn (u:=.junk) (σ':=⟨[(3,.row (cGChart r17.1) 24),(2,.row (cGChart r13.1) 24),(1,.row (cGChart r3.1) 24),(0,.row (cGChart r1.1) 24)],4⟩) rfl (op_store (sz_of inf24) rfl rfl rfl rfl rfl rfl rfl rfl) rfl ?_
 repeat refine RD.as rfl rfl rfl rfl ?_
 refine RD.done ⟨by kernel_rfl,⟨ld_agg und24 rfl (sz_of inf24) rfl rfl rfl,⟨op_move rfl,⟨op_ext rfl rfl,⟨op_ext rfl rfl,⟨op_ext rfl rfl,⟨op_ext rfl rfl,⟨op_ext rfl rfl,trivial⟩⟩⟩⟩⟩⟩⟩,?_⟩
 refine st ?_
 obtain ⟨r19,h20,hF⟩:=bindO_some hF
 refine sr ?_
 refine RS.q (u:=.agg (cGChart r13.1)) rfl (ld_agg und24 rfl (sz_of inf24) rfl rfl rfl) (RS.q (u:=.sl 4 0 2 2) (σ':=⟨[(4,.row [.int .i64 0,.int .i64 1] 3),(3,.row (cGChart r17.1) 24),(2,.row (cGChart r13.1) 24),(1,.row (cGChart r3.1) 24),(0,.row (cGChart r1.1) 24)],5⟩) rfl (op_bsl und34 inf3 rfl rfl rfl rfl rfl rfl rfl) (RS.q (u:=.agg [.int .i64 0,.int .i64 2,.int .i64 0,.int .i64 2,.str ([115]),.sl 4 0 2 2,.int .i64 0,.str [],.int .i64 0,.int .i64 0,.nils,.nils]) rfl (op_bld bd42 rfl rfl rfl) ?_))
 refine RS.fcall (u:=.tup [.agg (cGChart r19.1),.int .i64 r19.2.1,.int .i64 r19.2.2]) (args:=[.agg (cGChart r13.1),.agg [.int .i64 0,.int .i64 2,.int .i64 0,.int .i64 2,.str ([115]),.sl 4 0 2 2,.int .i64 0,.str [],.int .i64 0,.int .i64 0,.nils,.nils]]) (σ1:=⟨[(3,.row (cGChart r17.1) 24),(2,.row (cGChart r13.1) 24),(1,.row (cGChart r3.1) 24),(0,.row (cGChart r1.1) 24)],5⟩) rfl (op_call rfl rfl fn14 hb14 rfl rfl) (Gh.trans (Gh.fz (tm':=[.agg (cGChart r13.1),.agg [.int .i64 0,.int .i64 2,.int .i64 0,.int .i64 2,.str ([115]),.isl false (List.map (cI .i64) ([0,1])),.int .i64 0,.str [],.int .i64 0,.int .i64 0,.nils,.nils]]) (h':=[(3,.row (cGChart r17.1) 24),(2,.row (cGChart r13.1) 24),(1,.row (cGChart r3.1) 24),(0,.row (cGChart r1.1) 24)]) 4 (.row [.int .i64 0,.int .i64 1] 3) 1 rfl (by simp) (by simp only [oneU,fzL_nil,fzL_cons,fz_int,fz_bool,fz_str,fz_nils,fz_nilp,fz_nilm,fz_nilf,fz_junk,fz_isl,fz_map,fz_agg,fz_tup,fz_fn,junkT,fz_sl,fz_p0,fz_cGChart,Nat.reduceLeDiff,Nat.reduceMul,List.length_cons,List.length_nil,Nat.reduceAdd]<;>simp only [chunks,List.take,List.drop,List.map,cI,cB,cS,cL]) (by simp only [fzH,fzB,ug,Nat.beq,cond_true,cond_false,oneU,fzL_nil,fzL_cons,fz_int,fz_bool,fz_str,fz_nils,fz_nilp,fz_nilm,fz_nilf,fz_junk,fz_isl,fz_map,fz_agg,fz_tup,fz_fn,junkT,fz_sl,fz_p0,fz_cGChart,Nat.reduceLeDiff,Nat.reduceMul,List.length_cons,List.length_nil,Nat.reduceAdd]<;>simp only [chunks,List.take,List.drop,List.map,cI,cB,cS,cL])) (Gh.wk (tm':=[.agg (cGChart r13.1),.agg [.int .i64 0,.int .i64 2,.int .i64 0,.int .i64 2,.str ([115]),.isl false (List.map (cI .i64) ([0,1])),.int .i64 0,.str [],.int .i64 0,.int .i64 0,.isl false [],.isl false []]]) (.cons (.refl _) (.cons (.agg (.cons (.refl _) (.cons (.refl _) (.cons (.refl _) (.cons (.refl _) (.cons (.refl _) (.cons (.refl _) (.cons (.refl _) (.cons (.refl _) (.cons (.refl _) (.cons (.refl _) (.cons (.nil false) (.cons (.nil false) .nil))))))))))))) .nil)))) (Nat.le_of_ble_eq_true rfl) (chart_Add_ok n (GChart.mk r13.1.Words r13.1.Edges) (GEdge.mk 0 2 0 2 ([115]) ([0,1]) (GDeriv.mk 0 [] 0 0 []) (GFS.mk [])) r19 h20 _) rfl rfl ?_
 refine RS.mv rfl rfl rfl rfl (RS.q rfl (op_ext rfl rfl) (RS.q rfl (op_ext rfl rfl) (RS.q rfl (op_ext rfl rfl) (RS.opn (u:=.junk) (σ':=⟨[(3,.row (cGChart r17.1) 24),(2,.row (cGChart r19.1) 24),(1,.row (cGChart r3.1) 24),(0,.row (cGChart r1.1) 24)],5⟩) rfl (op_store (sz_of inf24) rfl rfl rfl rfl rfl rfl rfl rfl) rfl ?_))))
 repeat refine RS.as rfl rfl rfl rfl ?_
 refine sd ?_
 obtain ⟨r21,h22,hF⟩:=bindO_some hF
 refine sr ?_
 refine RS.q (u:=.agg (cGChart r19.1)) rfl (ld_agg und24 rfl (sz_of inf24) rfl rfl rfl) (RS.q (u:=.sl 5 0 1 1) (σ':=⟨[(5,.row [.int .i64 0] 3),(3,.row (cGChart r17.1) 24),(2,.row (cGChart r19.1) 24),(1,.row (cGChart r3.1) 24),(0,.row (cGChart r1.1) 24)],6⟩) rfl (op_bsl und34 inf3 rfl rfl rfl rfl rfl rfl rfl) (RS.q (u:=.agg [.int .i64 0,.int .i64 1,.int .i64 1,.int .i64 2,.str ([110]),.sl 5 0 1 1,.int .i64 0,.str [],.int .i64 0,.int .i64 0,.nils,.nils]) rfl (op_bld bd42 rfl rfl rfl) ?_))
 refine RS.fcall (u:=.tup [.agg (cGChart r21.1),.int .i64 r21.2.1,.int .i64 r21.2.2]) (args:=[.agg (cGChart r19.1),.agg [.int .i64 0,.int .i64 1,.int .i64 1,.int .i64 2,.str ([110]),.sl 5 0 1 1,.int .i64 0,.str [],.int .i64 0,.int .i64 0,.nils,.nils]]) (σ1:=⟨[(3,.row (cGChart r17.1) 24),(2,.row (cGChart r19.1) 24),(1,.row (cGChart r3.1) 24),(0,.row (cGChart r1.1) 24)],6⟩) rfl (op_call rfl rfl fn14 hb14 rfl rfl) (Gh.trans (Gh.fz (tm':=[.agg (cGChart r19.1),.agg [.int .i64 0,.int .i64 1,.int .i64 1,.int .i64 2,.str ([110]),.isl false (List.map (cI .i64) ([0])),.int .i64 0,.str [],.int .i64 0,.int .i64 0,.nils,.nils]]) (h':=[(3,.row (cGChart r17.1) 24),(2,.row (cGChart r19.1) 24),(1,.row (cGChart r3.1) 24),(0,.row (cGChart r1.1) 24)]) 5 (.row [.int .i64 0] 3) 1 rfl (by simp) (by simp only [oneU,fzL_nil,fzL_cons,fz_int,fz_bool,fz_str,fz_nils,fz_nilp,fz_nilm,fz_nilf,fz_junk,fz_isl,fz_map,fz_agg,fz_tup,fz_fn,junkT,fz_sl,fz_p0,fz_cGChart,Nat.reduceLeDiff,Nat.reduceMul,List.length_cons,List.length_nil,Nat.reduceAdd]<;>simp only [chunks,List.take,List.drop,List.map,cI,cB,cS,cL]) (by simp only [fzH,fzB,ug,Nat.beq,cond_true,cond_false,oneU,fzL_nil,fzL_cons,fz_int,fz_bool,fz_str,fz_nils,fz_nilp,fz_nilm,fz_nilf,fz_junk,fz_isl,fz_map,fz_agg,fz_tup,fz_fn,junkT,fz_sl,fz_p0,fz_cGChart,Nat.reduceLeDiff,Nat.reduceMul,List.length_cons,List.length_nil,Nat.reduceAdd]<;>simp only [chunks,List.take,List.drop,List.map,cI,cB,cS,cL])) (Gh.wk (tm':=[.agg (cGChart r19.1),.agg [.int .i64 0,.int .i64 1,.int .i64 1,.int .i64 2,.str ([110]),.isl false (List.map (cI .i64) ([0])),.int .i64 0,.str [],.int .i64 0,.int .i64 0,.isl false [],.isl false []]]) (.cons (.refl _) (.cons (.agg (.cons (.refl _) (.cons (.refl _) (.cons (.refl _) (.cons (.refl _) (.cons (.refl _) (.cons (.refl _) (.cons (.refl _) (.cons (.refl _) (.cons (.refl _) (.cons (.refl _) (.cons (.nil false) (.cons (.nil false) .nil))))))))))))) .nil)))) (Nat.le_of_ble_eq_true rfl) (chart_Add_ok n (GChart.mk r19.1.Words r19.1.Edges) (GEdge.mk 0 1 1 2 ([110]) ([0]) (GDeriv.mk 0 [] 0 0 []) (GFS.mk [])) r21 h22 _) rfl rfl ?_
 refine RS.mv rfl rfl rfl rfl (RS.q rfl (op_ext rfl rfl) (RS.q rfl (op_ext rfl rfl) (RS.q rfl (op_ext rfl rfl) (RS.opn (u:=.junk) (σ':=⟨[(3,.row (cGChart r17.1) 24),(2,.row (cGChart r21.1) 24),(1,.row (cGChart r3.1) 24),(0,.row (cGChart r1.1) 24)],6⟩) rfl (op_store (sz_of inf24) rfl rfl rfl rfl rfl rfl rfl rfl) rfl ?_))))
 repeat refine RS.as rfl rfl rfl rfl ?_
 refine sd ?_
 obtain ⟨r23,h24,hF⟩:=bindO_some hF
 refine sr ?_
 refine RS.q (u:=.agg (cGChart r21.1)) rfl (ld_agg und24 rfl (sz_of inf24) rfl rfl rfl) (RS.q (u:=.sl 6 0 1 1) (σ':=⟨[(6,.row [.int .i64 3] 3),(3,.row (cGChart r17.1) 24),(2,.row (cGChart r21.1) 24),(1,.row (cGChart r3.1) 24),(0,.row (cGChart r1.1) 24)],7⟩) rfl (op_bsl und34 inf3 rfl rfl rfl rfl rfl rfl rfl) (RS.q (u:=.agg [.int .i64 0,.int .i64 1,.int .i64 2,.int .i64 2,.str ([110]),.sl 6 0 1 1,.int .i64 0,.str [],.int .i64 0,.int .i64 0,.nils,.nils]) rfl (op_bld bd42 rfl rfl rfl) ?_))
 refine RS.fcall (u:=.tup [.agg (cGChart r23.1),.int .i64 r23.2.1,.int .i64 r23.2.2]) (args:=[.agg (cGChart r21.1),.agg [.int .i64 0,.int .i64 1,.int .i64 2,.int .i64 2,.str ([110]),.sl 6 0 1 1,.int .i64 0,.str [],.int .i64 0,.int .i64 0,.nils,.nils]]) (σ1:=⟨[(3,.row (cGChart r17.1) 24),(2,.row (cGChart r21.1) 24),(1,.row (cGChart r3.1) 24),(0,.row (cGChart r1.1) 24)],7⟩) rfl (op_call rfl rfl fn14 hb14 rfl rfl) (Gh.trans (Gh.fz (tm':=[.agg (cGChart r21.1),.agg [.int .i64 0,.int .i64 1,.int .i64 2,.int .i64 2,.str ([110]),.isl false (List.map (cI .i64) ([3])),.int .i64 0,.str [],.int .i64 0,.int .i64 0,.nils,.nils]]) (h':=[(3,.row (cGChart r17.1) 24),(2,.row (cGChart r21.1) 24),(1,.row (cGChart r3.1) 24),(0,.row (cGChart r1.1) 24)]) 6 (.row [.int .i64 3] 3) 1 rfl (by simp) (by simp only [oneU,fzL_nil,fzL_cons,fz_int,fz_bool,fz_str,fz_nils,fz_nilp,fz_nilm,fz_nilf,fz_junk,fz_isl,fz_map,fz_agg,fz_tup,fz_fn,junkT,fz_sl,fz_p0,fz_cGChart,Nat.reduceLeDiff,Nat.reduceMul,List.length_cons,List.length_nil,Nat.reduceAdd]<;>simp only [chunks,List.take,List.drop,List.map,cI,cB,cS,cL]) (by simp only [fzH,fzB,ug,Nat.beq,cond_true,cond_false,oneU,fzL_nil,fzL_cons,fz_int,fz_bool,fz_str,fz_nils,fz_nilp,fz_nilm,fz_nilf,fz_junk,fz_isl,fz_map,fz_agg,fz_tup,fz_fn,junkT,fz_sl,fz_p0,fz_cGChart,Nat.reduceLeDiff,Nat.reduceMul,List.length_cons,List.length_nil,Nat.reduceAdd]<;>simp only [chunks,List.take,List.drop,List.map,cI,cB,cS,cL])) (Gh.wk (tm':=[.agg (cGChart r21.1),.agg [.int .i64 0,.int .i64 1,.int .i64 2,.int .i64 2,.str ([110]),.isl false (List.map (cI .i64) ([3])),.int .i64 0,.str [],.int .i64 0,.int .i64 0,.isl false [],.isl false []]]) (.cons (.refl _) (.cons (.agg (.cons (.refl _) (.cons (.refl _) (.cons (.refl _) (.cons (.refl _) (.cons (.refl _) (.cons (.refl _) (.cons (.refl _) (.cons (.refl _) (.cons (.refl _) (.cons (.refl _) (.cons (.nil false) (.cons (.nil false) .nil))))))))))))) .nil)))) (Nat.le_of_ble_eq_true rfl) (chart_Add_ok n (GChart.mk r21.1.Words r21.1.Edges) (GEdge.mk 0 1 2 2 ([110]) ([3]) (GDeriv.mk 0 [] 0 0 []) (GFS.mk [])) r23 h24 _) rfl rfl ?_
 refine RS.mv rfl rfl rfl rfl (RS.q rfl (op_ext rfl rfl) (RS.q rfl (op_ext rfl rfl) (RS.q rfl (op_ext rfl rfl) (RS.opn (u:=.junk) (σ':=⟨[(3,.row (cGChart r17.1) 24),(2,.row (cGChart r23.1) 24),(1,.row (cGChart r3.1) 24),(0,.row (cGChart r1.1) 24)],7⟩) rfl (op_store (sz_of inf24) rfl rfl rfl rfl rfl rfl rfl rfl) rfl ?_))))
 repeat refine RS.as rfl rfl rfl rfl ?_
 refine sd ?_
 obtain ⟨r25,h26,hF⟩:=bindO_some hF
 refine sr ?_
 refine RS.q (u:=.agg (cGChart r23.1)) rfl (ld_agg und24 rfl (sz_of inf24) rfl rfl rfl) (RS.q (u:=.sl 7 0 1 1) (σ':=⟨[(7,.row [.int .i64 4] 3),(3,.row (cGChart r17.1) 24),(2,.row (cGChart r23.1) 24),(1,.row (cGChart r3.1) 24),(0,.row (cGChart r1.1) 24)],8⟩) rfl (op_bsl und34 inf3 rfl rfl rfl rfl rfl rfl rfl) (RS.q (u:=.agg [.int .i64 0,.int .i64 1,.int .i64 3,.int .i64 2,.str ([110]),.sl 7 0 1 1,.int .i64 0,.str [],.int .i64 0,.int .i64 0,.nils,.nils]) rfl (op_bld bd42 rfl rfl rfl) ?_))
 refine RS.fcall (u:=.tup [.agg (cGChart r25.1),.int .i64 r25.2.1,.int .i64 r25.2.2]) (args:=[.agg (cGChart r23.1),.agg [.int .i64 0,.int .i64 1,.int .i64 3,.int .i64 2,.str ([110]),.sl 7 0 1 1,.int .i64 0,.str [],.int .i64 0,.int .i64 0,.nils,.nils]]) (σ1:=⟨[(3,.row (cGChart r17.1) 24),(2,.row (cGChart r23.1) 24),(1,.row (cGChart r3.1) 24),(0,.row (cGChart r1.1) 24)],8⟩) rfl (op_call rfl rfl fn14 hb14 rfl rfl) (Gh.trans (Gh.fz (tm':=[.agg (cGChart r23.1),.agg [.int .i64 0,.int .i64 1,.int .i64 3,.int .i64 2,.str ([110]),.isl false (List.map (cI .i64) ([4])),.int .i64 0,.str [],.int .i64 0,.int .i64 0,.nils,.nils]]) (h':=[(3,.row (cGChart r17.1) 24),(2,.row (cGChart r23.1) 24),(1,.row (cGChart r3.1) 24),(0,.row (cGChart r1.1) 24)]) 7 (.row [.int .i64 4] 3) 1 rfl (by simp) (by simp only [oneU,fzL_nil,fzL_cons,fz_int,fz_bool,fz_str,fz_nils,fz_nilp,fz_nilm,fz_nilf,fz_junk,fz_isl,fz_map,fz_agg,fz_tup,fz_fn,junkT,fz_sl,fz_p0,fz_cGChart,Nat.reduceLeDiff,Nat.reduceMul,List.length_cons,List.length_nil,Nat.reduceAdd]<;>simp only [chunks,List.take,List.drop,List.map,cI,cB,cS,cL]) (by simp only [fzH,fzB,ug,Nat.beq,cond_true,cond_false,oneU,fzL_nil,fzL_cons,fz_int,fz_bool,fz_str,fz_nils,fz_nilp,fz_nilm,fz_nilf,fz_junk,fz_isl,fz_map,fz_agg,fz_tup,fz_fn,junkT,fz_sl,fz_p0,fz_cGChart,Nat.reduceLeDiff,Nat.reduceMul,List.length_cons,List.length_nil,Nat.reduceAdd]<;>simp only [chunks,List.take,List.drop,List.map,cI,cB,cS,cL])) (Gh.wk (tm':=[.agg (cGChart r23.1),.agg [.int .i64 0,.int .i64 1,.int .i64 3,.int .i64 2,.str ([110]),.isl false (List.map (cI .i64) ([4])),.int .i64 0,.str [],.int .i64 0,.int .i64 0,.isl false [],.isl false []]]) (.cons (.refl _) (.cons (.agg (.cons (.refl _) (.cons (.refl _) (.cons (.refl _) (.cons (.refl _) (.cons (.refl _) (.cons (.refl _) (.cons (.refl _) (.cons (.refl _) (.cons (.refl _) (.cons (.refl _) (.cons (.nil false) (.cons (.nil false) .nil))))))))))))) .nil)))) (Nat.le_of_ble_eq_true rfl) (chart_Add_ok n (GChart.mk r23.1.Words r23.1.Edges) (GEdge.mk 0 1 3 2 ([110]) ([4]) (GDeriv.mk 0 [] 0 0 []) (GFS.mk [])) r25 h26 _) rfl rfl ?_
 refine RS.mv rfl rfl rfl rfl (RS.q rfl (op_ext rfl rfl) (RS.q rfl (op_ext rfl rfl) (RS.q rfl (op_ext rfl rfl) (RS.q (u:=.ptr 8 0 0) (σ':=⟨[(8,.row [.int .i64 0,.nils] 24),(3,.row (cGChart r17.1) 24),(2,.row (cGChart r23.1) 24),(1,.row (cGChart r3.1) 24),(0,.row (cGChart r1.1) 24)],9⟩) rfl (op_alloc inf24 rfl rfl) (RS.opn (u:=.junk) (σ':=⟨[(8,.row (cGChart r25.1) 24),(3,.row (cGChart r17.1) 24),(2,.row (cGChart r23.1) 24),(1,.row (cGChart r3.1) 24),(0,.row (cGChart r1.1) 24)],9⟩) rfl (op_store (sz_of inf24) rfl rfl rfl rfl rfl rfl rfl rfl) rfl ?_)))))
 repeat refine RS.as rfl rfl rfl rfl ?_
 refine sd ?_
 obtain ⟨b38,h39,hF⟩:=bindO_some hF
 refine WPU.joinK (fun tm σ=>tm=fr 181 [(5,.ptr 2 0 0),(135,.bool b38)]∧σ=⟨[(8,.row (cGChart r25.1) 24),(3,.row (cGChart r17.1) 24),(2,.row (cGChart r23.1) 24),(1,.row (cGChart r3.1) 24),(0,.row (cGChart r1.1) 24)],9⟩) ?_ ?_
 rintro _ _ ⟨rfl,rfl⟩
 refine st ?_
 refine WPU.condS (t:=b38) rfl (fun h40=>?_) (fun h40=>?_)
 replace hF:=cond_t h40 hF
 refine sr ?_
 refine sd ?_
 refine WPU.ret ?_
 refine st ?_
 have hr:=Option.some.inj hF
 subst hr
 exact ⟨.inr rfl,[.bool false],res_t rfl (res_n),.bool false,⟨[],0⟩,Nat.le_refl _,Gh.toR (.bool false) rfl,rfl,BU.h⟩
 replace hF:=cond_f h40 hF
 refine st ?_
 refine WPU.skip ?_
 refine st ?_
 obtain ⟨r41,h42,hF⟩:=bindO_some hF
 obtain ⟨r43,h44,hF⟩:=bindO_some hF
 refine WPU.drawE Try.tb_ok [] (by kernel_rfl) ?_
 refine RD.q (u:=.agg (cGChart r23.1)) rfl (ld_agg und24 rfl (sz_of inf24) rfl rfl rfl) (RD.free (u:=.isl false (List.map (cI .i64) r41)) (args:=[.agg (cGChart r23.1),.int .i64 0]) rfl (op_call rfl rfl fn16 hb16 rfl rfl) (fun s=>chart_Starting_ok n (GChart.mk r23.1.Words r23.1.Edges) 0 r41 h42 s) rfl rfl (RD.q (u:=.agg (cGChart r23.1)) rfl (ld_agg und24 rfl (sz_of inf24) rfl rfl rfl) (RD.free (u:=.isl false (List.map (cI .i64) r43)) (args:=[.agg (cGChart r23.1),.int .i64 2]) rfl (op_call rfl rfl fn18 hb18 rfl rfl) (fun s=>chart_Ending_ok n (GChart.mk r23.1.Words r23.1.Edges) 2 r43 h44 s) rfl rfl ?_)))
 repeat refine RD.as rfl rfl rfl rfl ?_
 refine RD.done ⟨by kernel_rfl,trivial,?_⟩
 refine st ?_
 obtain ⟨b65,h66,hF⟩:=bindO_some hF
 refine WPU.joinK (fun tm σ=>tm=fr 181 [(0,.bool b65)]∧σ=⟨[(8,.row (cGChart r25.1) 24),(3,.row (cGChart r17.1) 24),(2,.row (cGChart r23.1) 24),(1,.row (cGChart r3.1) 24),(0,.row (cGChart r1.1) 24)],9⟩) ?_ ?_
 rintro _ _ ⟨rfl,rfl⟩
 refine st ?_
 refine WPU.ret ?_
 refine st ?_
 have hr:=Option.some.inj hF
 subst hr
 exact ⟨.inr rfl,[.bool b65],res_t rfl (res_n),.bool b65,⟨[],0⟩,Nat.le_refl _,Gh.toR (.bool b65) rfl,rfl,BU.h⟩
 rcases bool_tf ((r41.length:Int) == 4) with h45 | h45
 replace h66:=cond_t h45 h66
 obtain ⟨x46,h47,h66⟩:=bindO_some h66
 rcases bool_tf (x46 == 2) with h48 | h48
 replace h66:=cond_t h48 h66
 rcases bool_tf ((r43.length:Int) == 2) with h49 | h49
 replace h66:=cond_t h49 h66
 obtain ⟨x50,h51,h66⟩:=bindO_some h66
 rcases bool_tf (x50 == 1) with h52 | h52
 replace h66:=cond_t h52 h66
 obtain ⟨x53,h54,h66⟩:=bindO_some h66
 rcases bool_tf (x53 == 2) with h55 | h55
 replace h66:=cond_t h55 h66
 obtain ⟨r56,h57,h66⟩:=bindO_some h66
 obtain ⟨r58,h59,h66⟩:=bindO_some h66
 rcases bool_tf (bytesEq r58 ([40,115,32,48,32,50,32,40,97,32,48,32,49,41,32,40,98,32,49,32,50,41,41])) with h60 | h60
 replace h66:=cond_t h60 h66
 obtain ⟨r61,h62,h66⟩:=bindO_some h66
 obtain ⟨x63,h64,h66⟩:=bindO_some h66
 replace h66:=Option.some.inj h66
 subst h66
 refine sr ?_
 refine RS.q rfl (op_len rfl rfl rfl (len_isl (cI .i64) und34)) (RS.q rfl (op_int rfl rfl (ix_eql _ _ _) rfl) (RS.mv rfl rfl rfl rfl (RS.op (want1 rfl rfl rfl h45) (op_move rfl) rfl rfl (RS.op (u:=.iptr [.int .i64 x46]) (want1 rfl rfl rfl h45) (op_ia rfl rfl (ia_isl (cI .i64) und34 (sz_of inf3) (len_cI .i64) h47 rfl)) rfl rfl (RS.op (u:=.int .i64 x46) (want1 rfl rfl rfl h45) (li_one und3 rfl rfl rfl) rfl rfl (RS.op (want1 rfl rfl rfl h45) (op_int rfl rfl (ix_eql _ _ _) rfl) rfl rfl (RS.q (u:=.bool (x46 == 2)) rfl (op_pick1 rfl h45 rfl) ?_)))))))
 refine RS.mv rfl rfl rfl rfl (RS.op (want1 rfl rfl rfl h48) (op_move rfl) rfl rfl (RS.op (want1 rfl rfl rfl h48) (op_len rfl rfl rfl (len_isl (cI .i64) und34)) rfl rfl (RS.op (want1 rfl rfl rfl h48) (op_int rfl rfl (ix_eql _ _ _) rfl) rfl rfl (RS.q (u:=.bool ((r43.length:Int) == 2)) rfl (op_pick1 rfl h48 rfl) (RS.mv rfl rfl rfl rfl (RS.op (want1 rfl rfl rfl h49) (op_move rfl) rfl rfl (RS.op (u:=.iptr [.int .i64 x50]) (want1 rfl rfl rfl h49) (op_ia rfl rfl (ia_isl (cI .i64) und34 (sz_of inf3) (len_cI .i64) h51 rfl)) rfl rfl ?_)))))))
 refine RS.op (u:=.int .i64 x50) (want1 rfl rfl rfl h49) (li_one und3 rfl rfl rfl) rfl rfl (RS.op (want1 rfl rfl rfl h49) (op_int rfl rfl (ix_eql _ _ _) rfl) rfl rfl (RS.q (u:=.bool (x50 == 1)) rfl (op_pick1 rfl h49 rfl) (RS.mv rfl rfl rfl rfl (RS.op (want1 rfl rfl rfl h52) (op_move rfl) rfl rfl (RS.op (u:=.iptr [.int .i64 x53]) (want1 rfl rfl rfl h52) (op_ia rfl rfl (ia_isl (cI .i64) und34 (sz_of inf3) (len_cI .i64) h54 rfl)) rfl rfl (RS.op (u:=.int .i64 x53) (want1 rfl rfl rfl h52) (li_one und3 rfl rfl rfl) rfl rfl (RS.op (want1 rfl rfl rfl h52) (op_int rfl rfl (ix_eql _ _ _) rfl) rfl rfl ?_)))))))
 refine RS.q (u:=.bool (x53 == 2)) rfl (op_pick1 rfl h52 rfl) (RS.mv rfl rfl rfl rfl (RS.op (u:=.agg (cGChart r23.1)) (want1 rfl rfl rfl h55) (ld_agg und24 rfl (sz_of inf24) rfl rfl rfl) rfl rfl (RS.call (u:=.agg (xGDeriv r56)) (args:=[.agg (cGChart r23.1),.int .i64 2]) (want1 rfl rfl rfl h55) (op_call rfl rfl fn22 hb22 rfl rfl) (chart_Deriv_ok n (GChart.mk r23.1.Words r23.1.Edges) 2 r56 h57 _) rfl rfl (RS.call (u:=.str r58) (args:=[.agg (xGDeriv r56)]) (want1 rfl rfl rfl h55) (op_call rfl rfl fn32 hb32 rfl rfl) (ref28_Print_ok n r56 r58 h59 _) rfl rfl (RS.op (u:=.bool (bytesEq r58 ([40,115,32,48,32,50,32,40,97,32,48,32,49,41,32,40,98,32,49,32,50,41,41]))) (want1 rfl rfl rfl h55) (op_str rfl rfl rfl rfl) rfl rfl (RS.q (u:=.bool (bytesEq r58 ([40,115,32,48,32,50,32,40,97,32,48,32,49,41,32,40,98,32,49,32,50,41,41]))) rfl (op_pick1 rfl h55 rfl) (RS.mv rfl rfl rfl rfl ?_)))))))
 refine RS.op (u:=.agg (cGChart r23.1)) (want1 rfl rfl rfl h60) (ld_agg und24 rfl (sz_of inf24) rfl rfl rfl) rfl rfl (RS.call (u:=.agg (cGChart r61)) (args:=[.agg (cGChart r23.1)]) (want1 rfl rfl rfl h60) (op_call rfl rfl fn25 hb25 rfl rfl) (chart_Canon_ok n (GChart.mk r23.1.Words r23.1.Edges) r61 h62 _) rfl rfl (RS.op (u:=.isl false (List.map cGEdge r61.Edges)) (want1 rfl rfl rfl h60) (op_fl1 und24 rfl rfl und22 rfl rfl) rfl rfl (RS.op (u:=.iptr (cGEdge x63)) (want1 rfl rfl rfl h60) (op_ia rfl rfl (ia_isl cGEdge und22 (sz_of inf42) len_cGEdge h64 rfl)) rfl rfl (RS.op (u:=.iptr [.str x63.Name,.isl false (List.map (cI .i64) x63.Kids),.int .i64 x63.Lex.Kind,.str x63.Lex.Name,.int .i64 x63.Lex.From,.int .i64 x63.Lex.To,.isl false (List.map cGDeriv x63.Lex.Kids),.isl false (List.map cGNode x63.FS.Nodes)]) (want1 rfl rfl rfl h60) (op_fi und42 rfl (sz_of inf9) rfl rfl) rfl rfl (RS.op (u:=.str x63.Name) (want1 rfl rfl rfl h60) (li_one und9 rfl rfl rfl) rfl rfl (RS.op (u:=.bool (bytesEq x63.Name ([115]))) (want1 rfl rfl rfl h60) (op_str rfl rfl rfl rfl) rfl rfl (RS.q (u:=.bool (bytesEq x63.Name ([115]))) rfl (op_pick1 rfl h60 rfl) ?_)))))))
 refine sd ?_
 exact ⟨_,_,⟨rfl,rfl⟩,(Nat.zero_le _),Gh.toC (n1:=9) ⟨rfl,trivial⟩ rfl (Nat.zero_le _) (by simp)⟩
 replace h66:=cond_f h60 h66
 replace h66:=Option.some.inj h66
 subst h66
 refine sr ?_
 refine RS.q rfl (op_len rfl rfl rfl (len_isl (cI .i64) und34)) (RS.q rfl (op_int rfl rfl (ix_eql _ _ _) rfl) (RS.mv rfl rfl rfl rfl (RS.op (want1 rfl rfl rfl h45) (op_move rfl) rfl rfl (RS.op (u:=.iptr [.int .i64 x46]) (want1 rfl rfl rfl h45) (op_ia rfl rfl (ia_isl (cI .i64) und34 (sz_of inf3) (len_cI .i64) h47 rfl)) rfl rfl (RS.op (u:=.int .i64 x46) (want1 rfl rfl rfl h45) (li_one und3 rfl rfl rfl) rfl rfl (RS.op (want1 rfl rfl rfl h45) (op_int rfl rfl (ix_eql _ _ _) rfl) rfl rfl (RS.q (u:=.bool (x46 == 2)) rfl (op_pick1 rfl h45 rfl) ?_)))))))
 refine RS.mv rfl rfl rfl rfl (RS.op (want1 rfl rfl rfl h48) (op_move rfl) rfl rfl (RS.op (want1 rfl rfl rfl h48) (op_len rfl rfl rfl (len_isl (cI .i64) und34)) rfl rfl (RS.op (want1 rfl rfl rfl h48) (op_int rfl rfl (ix_eql _ _ _) rfl) rfl rfl (RS.q (u:=.bool ((r43.length:Int) == 2)) rfl (op_pick1 rfl h48 rfl) (RS.mv rfl rfl rfl rfl (RS.op (want1 rfl rfl rfl h49) (op_move rfl) rfl rfl (RS.op (u:=.iptr [.int .i64 x50]) (want1 rfl rfl rfl h49) (op_ia rfl rfl (ia_isl (cI .i64) und34 (sz_of inf3) (len_cI .i64) h51 rfl)) rfl rfl ?_)))))))
 refine RS.op (u:=.int .i64 x50) (want1 rfl rfl rfl h49) (li_one und3 rfl rfl rfl) rfl rfl (RS.op (want1 rfl rfl rfl h49) (op_int rfl rfl (ix_eql _ _ _) rfl) rfl rfl (RS.q (u:=.bool (x50 == 1)) rfl (op_pick1 rfl h49 rfl) (RS.mv rfl rfl rfl rfl (RS.op (want1 rfl rfl rfl h52) (op_move rfl) rfl rfl (RS.op (u:=.iptr [.int .i64 x53]) (want1 rfl rfl rfl h52) (op_ia rfl rfl (ia_isl (cI .i64) und34 (sz_of inf3) (len_cI .i64) h54 rfl)) rfl rfl (RS.op (u:=.int .i64 x53) (want1 rfl rfl rfl h52) (li_one und3 rfl rfl rfl) rfl rfl (RS.op (want1 rfl rfl rfl h52) (op_int rfl rfl (ix_eql _ _ _) rfl) rfl rfl ?_)))))))
 refine RS.q (u:=.bool (x53 == 2)) rfl (op_pick1 rfl h52 rfl) (RS.mv rfl rfl rfl rfl (RS.op (u:=.agg (cGChart r23.1)) (want1 rfl rfl rfl h55) (ld_agg und24 rfl (sz_of inf24) rfl rfl rfl) rfl rfl (RS.call (u:=.agg (xGDeriv r56)) (args:=[.agg (cGChart r23.1),.int .i64 2]) (want1 rfl rfl rfl h55) (op_call rfl rfl fn22 hb22 rfl rfl) (chart_Deriv_ok n (GChart.mk r23.1.Words r23.1.Edges) 2 r56 h57 _) rfl rfl (RS.call (u:=.str r58) (args:=[.agg (xGDeriv r56)]) (want1 rfl rfl rfl h55) (op_call rfl rfl fn32 hb32 rfl rfl) (ref28_Print_ok n r56 r58 h59 _) rfl rfl (RS.op (u:=.bool (bytesEq r58 ([40,115,32,48,32,50,32,40,97,32,48,32,49,41,32,40,98,32,49,32,50,41,41]))) (want1 rfl rfl rfl h55) (op_str rfl rfl rfl rfl) rfl rfl (RS.q (u:=.bool (bytesEq r58 ([40,115,32,48,32,50,32,40,97,32,48,32,49,41,32,40,98,32,49,32,50,41,41]))) rfl (op_pick1 rfl h55 rfl) (RS.mv rfl rfl rfl rfl ?_)))))))
 repeat refine RS.no (want0 rfl rfl rfl h60) rfl rfl ?_
 refine RS.q (u:=.bool false) rfl (op_pick0 rfl h60 rfl) ?_
 refine sd ?_
 exact ⟨_,_,⟨rfl,rfl⟩,(Nat.zero_le _),Gh.toC (n1:=9) ⟨rfl,trivial⟩ rfl (Nat.zero_le _) (by simp)⟩
 replace h66:=cond_f h55 h66
 replace h66:=Option.some.inj h66
 subst h66
 refine sr ?_
 refine RS.q rfl (op_len rfl rfl rfl (len_isl (cI .i64) und34)) (RS.q rfl (op_int rfl rfl (ix_eql _ _ _) rfl) (RS.mv rfl rfl rfl rfl (RS.op (want1 rfl rfl rfl h45) (op_move rfl) rfl rfl (RS.op (u:=.iptr [.int .i64 x46]) (want1 rfl rfl rfl h45) (op_ia rfl rfl (ia_isl (cI .i64) und34 (sz_of inf3) (len_cI .i64) h47 rfl)) rfl rfl (RS.op (u:=.int .i64 x46) (want1 rfl rfl rfl h45) (li_one und3 rfl rfl rfl) rfl rfl (RS.op (want1 rfl rfl rfl h45) (op_int rfl rfl (ix_eql _ _ _) rfl) rfl rfl (RS.q (u:=.bool (x46 == 2)) rfl (op_pick1 rfl h45 rfl) ?_)))))))
 refine RS.mv rfl rfl rfl rfl (RS.op (want1 rfl rfl rfl h48) (op_move rfl) rfl rfl (RS.op (want1 rfl rfl rfl h48) (op_len rfl rfl rfl (len_isl (cI .i64) und34)) rfl rfl (RS.op (want1 rfl rfl rfl h48) (op_int rfl rfl (ix_eql _ _ _) rfl) rfl rfl (RS.q (u:=.bool ((r43.length:Int) == 2)) rfl (op_pick1 rfl h48 rfl) (RS.mv rfl rfl rfl rfl (RS.op (want1 rfl rfl rfl h49) (op_move rfl) rfl rfl (RS.op (u:=.iptr [.int .i64 x50]) (want1 rfl rfl rfl h49) (op_ia rfl rfl (ia_isl (cI .i64) und34 (sz_of inf3) (len_cI .i64) h51 rfl)) rfl rfl ?_)))))))
 refine RS.op (u:=.int .i64 x50) (want1 rfl rfl rfl h49) (li_one und3 rfl rfl rfl) rfl rfl (RS.op (want1 rfl rfl rfl h49) (op_int rfl rfl (ix_eql _ _ _) rfl) rfl rfl (RS.q (u:=.bool (x50 == 1)) rfl (op_pick1 rfl h49 rfl) (RS.mv rfl rfl rfl rfl (RS.op (want1 rfl rfl rfl h52) (op_move rfl) rfl rfl (RS.op (u:=.iptr [.int .i64 x53]) (want1 rfl rfl rfl h52) (op_ia rfl rfl (ia_isl (cI .i64) und34 (sz_of inf3) (len_cI .i64) h54 rfl)) rfl rfl (RS.op (u:=.int .i64 x53) (want1 rfl rfl rfl h52) (li_one und3 rfl rfl rfl) rfl rfl (RS.op (want1 rfl rfl rfl h52) (op_int rfl rfl (ix_eql _ _ _) rfl) rfl rfl ?_)))))))
 refine RS.q (u:=.bool (x53 == 2)) rfl (op_pick1 rfl h52 rfl) (RS.mv rfl rfl rfl rfl ?_)
 repeat refine RS.no (want0 rfl rfl rfl h55) rfl rfl ?_
 refine RS.q (u:=.bool false) rfl (op_pick0 rfl h55 rfl) (RS.mv rfl rfl rfl rfl ?_)
 repeat refine RS.no (want0 rfl rfl rfl rfl) rfl rfl ?_
 refine RS.q (u:=.bool false) rfl (op_pick0 rfl rfl rfl) ?_
 refine sd ?_
 exact ⟨_,_,⟨rfl,rfl⟩,(Nat.zero_le _),Gh.toC (n1:=9) ⟨rfl,trivial⟩ rfl (Nat.zero_le _) (by simp)⟩
 replace h66:=cond_f h52 h66
 replace h66:=Option.some.inj h66
 subst h66
 refine sr ?_
 refine RS.q rfl (op_len rfl rfl rfl (len_isl (cI .i64) und34)) (RS.q rfl (op_int rfl rfl (ix_eql _ _ _) rfl) (RS.mv rfl rfl rfl rfl (RS.op (want1 rfl rfl rfl h45) (op_move rfl) rfl rfl (RS.op (u:=.iptr [.int .i64 x46]) (want1 rfl rfl rfl h45) (op_ia rfl rfl (ia_isl (cI .i64) und34 (sz_of inf3) (len_cI .i64) h47 rfl)) rfl rfl (RS.op (u:=.int .i64 x46) (want1 rfl rfl rfl h45) (li_one und3 rfl rfl rfl) rfl rfl (RS.op (want1 rfl rfl rfl h45) (op_int rfl rfl (ix_eql _ _ _) rfl) rfl rfl (RS.q (u:=.bool (x46 == 2)) rfl (op_pick1 rfl h45 rfl) ?_)))))))
 refine RS.mv rfl rfl rfl rfl (RS.op (want1 rfl rfl rfl h48) (op_move rfl) rfl rfl (RS.op (want1 rfl rfl rfl h48) (op_len rfl rfl rfl (len_isl (cI .i64) und34)) rfl rfl (RS.op (want1 rfl rfl rfl h48) (op_int rfl rfl (ix_eql _ _ _) rfl) rfl rfl (RS.q (u:=.bool ((r43.length:Int) == 2)) rfl (op_pick1 rfl h48 rfl) (RS.mv rfl rfl rfl rfl (RS.op (want1 rfl rfl rfl h49) (op_move rfl) rfl rfl (RS.op (u:=.iptr [.int .i64 x50]) (want1 rfl rfl rfl h49) (op_ia rfl rfl (ia_isl (cI .i64) und34 (sz_of inf3) (len_cI .i64) h51 rfl)) rfl rfl ?_)))))))
 refine RS.op (u:=.int .i64 x50) (want1 rfl rfl rfl h49) (li_one und3 rfl rfl rfl) rfl rfl (RS.op (want1 rfl rfl rfl h49) (op_int rfl rfl (ix_eql _ _ _) rfl) rfl rfl (RS.q (u:=.bool (x50 == 1)) rfl (op_pick1 rfl h49 rfl) (RS.mv rfl rfl rfl rfl ?_)))
 repeat refine RS.no (want0 rfl rfl rfl h52) rfl rfl ?_
 refine RS.q (u:=.bool false) rfl (op_pick0 rfl h52 rfl) (RS.mv rfl rfl rfl rfl ?_)
 repeat refine RS.no (want0 rfl rfl rfl rfl) rfl rfl ?_
 refine RS.q (u:=.bool false) rfl (op_pick0 rfl rfl rfl) (RS.mv rfl rfl rfl rfl ?_)
 repeat refine RS.no (want0 rfl rfl rfl rfl) rfl rfl ?_
 refine RS.q (u:=.bool false) rfl (op_pick0 rfl rfl rfl) ?_
 refine sd ?_
 exact ⟨_,_,⟨rfl,rfl⟩,(Nat.zero_le _),Gh.toC (n1:=9) ⟨rfl,trivial⟩ rfl (Nat.zero_le _) (by simp)⟩
 replace h66:=cond_f h49 h66
 replace h66:=Option.some.inj h66
 subst h66
 refine sr ?_
 refine RS.q rfl (op_len rfl rfl rfl (len_isl (cI .i64) und34)) (RS.q rfl (op_int rfl rfl (ix_eql _ _ _) rfl) (RS.mv rfl rfl rfl rfl (RS.op (want1 rfl rfl rfl h45) (op_move rfl) rfl rfl (RS.op (u:=.iptr [.int .i64 x46]) (want1 rfl rfl rfl h45) (op_ia rfl rfl (ia_isl (cI .i64) und34 (sz_of inf3) (len_cI .i64) h47 rfl)) rfl rfl (RS.op (u:=.int .i64 x46) (want1 rfl rfl rfl h45) (li_one und3 rfl rfl rfl) rfl rfl (RS.op (want1 rfl rfl rfl h45) (op_int rfl rfl (ix_eql _ _ _) rfl) rfl rfl (RS.q (u:=.bool (x46 == 2)) rfl (op_pick1 rfl h45 rfl) ?_)))))))
 refine RS.mv rfl rfl rfl rfl (RS.op (want1 rfl rfl rfl h48) (op_move rfl) rfl rfl (RS.op (want1 rfl rfl rfl h48) (op_len rfl rfl rfl (len_isl (cI .i64) und34)) rfl rfl (RS.op (want1 rfl rfl rfl h48) (op_int rfl rfl (ix_eql _ _ _) rfl) rfl rfl (RS.q (u:=.bool ((r43.length:Int) == 2)) rfl (op_pick1 rfl h48 rfl) (RS.mv rfl rfl rfl rfl ?_)))))
 repeat refine RS.no (want0 rfl rfl rfl h49) rfl rfl ?_
 refine RS.q (u:=.bool false) rfl (op_pick0 rfl h49 rfl) (RS.mv rfl rfl rfl rfl ?_)
 repeat refine RS.no (want0 rfl rfl rfl rfl) rfl rfl ?_
 refine RS.q (u:=.bool false) rfl (op_pick0 rfl rfl rfl) (RS.mv rfl rfl rfl rfl ?_)
 repeat refine RS.no (want0 rfl rfl rfl rfl) rfl rfl ?_
 refine RS.q (u:=.bool false) rfl (op_pick0 rfl rfl rfl) (RS.mv rfl rfl rfl rfl ?_)
 repeat refine RS.no (want0 rfl rfl rfl rfl) rfl rfl ?_
 refine RS.q (u:=.bool false) rfl (op_pick0 rfl rfl rfl) ?_
 refine sd ?_
 exact ⟨_,_,⟨rfl,rfl⟩,(Nat.zero_le _),Gh.toC (n1:=9) ⟨rfl,trivial⟩ rfl (Nat.zero_le _) (by simp)⟩
 replace h66:=cond_f h48 h66
 replace h66:=Option.some.inj h66
 subst h66
 refine sr ?_
 refine RS.q rfl (op_len rfl rfl rfl (len_isl (cI .i64) und34)) (RS.q rfl (op_int rfl rfl (ix_eql _ _ _) rfl) (RS.mv rfl rfl rfl rfl (RS.op (want1 rfl rfl rfl h45) (op_move rfl) rfl rfl (RS.op (u:=.iptr [.int .i64 x46]) (want1 rfl rfl rfl h45) (op_ia rfl rfl (ia_isl (cI .i64) und34 (sz_of inf3) (len_cI .i64) h47 rfl)) rfl rfl (RS.op (u:=.int .i64 x46) (want1 rfl rfl rfl h45) (li_one und3 rfl rfl rfl) rfl rfl (RS.op (want1 rfl rfl rfl h45) (op_int rfl rfl (ix_eql _ _ _) rfl) rfl rfl (RS.q (u:=.bool (x46 == 2)) rfl (op_pick1 rfl h45 rfl) ?_)))))))
 refine RS.mv rfl rfl rfl rfl ?_
 repeat refine RS.no (want0 rfl rfl rfl h48) rfl rfl ?_
 refine RS.q (u:=.bool false) rfl (op_pick0 rfl h48 rfl) (RS.mv rfl rfl rfl rfl ?_)
 repeat refine RS.no (want0 rfl rfl rfl rfl) rfl rfl ?_
 refine RS.q (u:=.bool false) rfl (op_pick0 rfl rfl rfl) (RS.mv rfl rfl rfl rfl ?_)
 repeat refine RS.no (want0 rfl rfl rfl rfl) rfl rfl ?_
 refine RS.q (u:=.bool false) rfl (op_pick0 rfl rfl rfl) (RS.mv rfl rfl rfl rfl ?_)
 repeat refine RS.no (want0 rfl rfl rfl rfl) rfl rfl ?_
 refine RS.q (u:=.bool false) rfl (op_pick0 rfl rfl rfl) (RS.mv rfl rfl rfl rfl ?_)
 repeat refine RS.no (want0 rfl rfl rfl rfl) rfl rfl ?_
 refine RS.q (u:=.bool false) rfl (op_pick0 rfl rfl rfl) ?_
 refine sd ?_
 exact ⟨_,_,⟨rfl,rfl⟩,(Nat.zero_le _),Gh.toC (n1:=9) ⟨rfl,trivial⟩ rfl (Nat.zero_le _) (by simp)⟩
 replace h66:=cond_f h45 h66
 replace h66:=Option.some.inj h66
 subst h66
 refine sr ?_
 refine RS.q rfl (op_len rfl rfl rfl (len_isl (cI .i64) und34)) (RS.q rfl (op_int rfl rfl (ix_eql _ _ _) rfl) (RS.mv rfl rfl rfl rfl ?_))
 repeat refine RS.no (want0 rfl rfl rfl h45) rfl rfl ?_
 refine RS.q (u:=.bool false) rfl (op_pick0 rfl h45 rfl) (RS.mv rfl rfl rfl rfl ?_)
 repeat refine RS.no (want0 rfl rfl rfl rfl) rfl rfl ?_
 refine RS.q (u:=.bool false) rfl (op_pick0 rfl rfl rfl) (RS.mv rfl rfl rfl rfl ?_)
 repeat refine RS.no (want0 rfl rfl rfl rfl) rfl rfl ?_
 refine RS.q (u:=.bool false) rfl (op_pick0 rfl rfl rfl) (RS.mv rfl rfl rfl rfl ?_)
 repeat refine RS.no (want0 rfl rfl rfl rfl) rfl rfl ?_
 refine RS.q (u:=.bool false) rfl (op_pick0 rfl rfl rfl) (RS.mv rfl rfl rfl rfl ?_)
 repeat refine RS.no (want0 rfl rfl rfl rfl) rfl rfl ?_
 refine RS.q (u:=.bool false) rfl (op_pick0 rfl rfl rfl) (RS.mv rfl rfl rfl rfl ?_)
 repeat refine RS.no (want0 rfl rfl rfl rfl) rfl rfl ?_
 refine RS.q (u:=.bool false) rfl (op_pick0 rfl rfl rfl) ?_
 refine sd ?_
 exact ⟨_,_,⟨rfl,rfl⟩,(Nat.zero_le _),Gh.toC (n1:=9) ⟨rfl,trivial⟩ rfl (Nat.zero_le _) (by simp)⟩
 rcases bool_tf (r1.2 != 2) with h27 | h27
 replace h39:=cond_t h27 h39
 replace h39:=Option.some.inj h39
 subst h39
 refine sr ?_
 refine RS.q rfl (op_int rfl rfl (ix_neq _ _ _) rfl) (RS.mv rfl rfl rfl rfl ?_)
 repeat refine RS.no (want0 rfl rfl rfl h27) rfl rfl ?_
 refine RS.q (u:=.bool true) rfl (op_pick1 rfl h27 rfl) (RS.mv rfl rfl rfl rfl ?_)
 repeat refine RS.no (want0 rfl rfl rfl rfl) rfl rfl ?_
 refine RS.q (u:=.bool true) rfl (op_pick1 rfl rfl rfl) (RS.mv rfl rfl rfl rfl ?_)
 repeat refine RS.no (want0 rfl rfl rfl rfl) rfl rfl ?_
 refine RS.q (u:=.bool true) rfl (op_pick1 rfl rfl rfl) (RS.mv rfl rfl rfl rfl ?_)
 repeat refine RS.no (want0 rfl rfl rfl rfl) rfl rfl ?_
 refine RS.q (u:=.bool true) rfl (op_pick1 rfl rfl rfl) (RS.mv rfl rfl rfl rfl ?_)
 repeat refine RS.no (want0 rfl rfl rfl rfl) rfl rfl ?_
 refine RS.q (u:=.bool true) rfl (op_pick1 rfl rfl rfl) (RS.mv rfl rfl rfl rfl ?_)
 repeat refine RS.no (want0 rfl rfl rfl rfl) rfl rfl ?_
 refine RS.q (u:=.bool true) rfl (op_pick1 rfl rfl rfl) (RS.mv rfl rfl rfl rfl ?_)
 repeat refine RS.no (want0 rfl rfl rfl rfl) rfl rfl ?_
 refine RS.q (u:=.bool true) rfl (op_pick1 rfl rfl rfl) (RS.mv rfl rfl rfl rfl ?_)
 repeat refine RS.no (want0 rfl rfl rfl rfl) rfl rfl ?_
 refine RS.q (u:=.bool true) rfl (op_pick1 rfl rfl rfl) (RS.mv rfl rfl rfl rfl ?_)
 repeat refine RS.no (want0 rfl rfl rfl rfl) rfl rfl ?_
 refine RS.q (u:=.bool true) rfl (op_pick1 rfl rfl rfl) (RS.mv rfl rfl rfl rfl ?_)
 repeat refine RS.no (want0 rfl rfl rfl rfl) rfl rfl ?_
 refine RS.q (u:=.bool true) rfl (op_pick1 rfl rfl rfl) (RS.mv rfl rfl rfl rfl ?_)
 repeat refine RS.no (want0 rfl rfl rfl rfl) rfl rfl ?_
 refine RS.q (u:=.bool true) rfl (op_pick1 rfl rfl rfl) ?_
 refine sd ?_
 exact ⟨_,_,⟨rfl,rfl⟩,(Nat.zero_le _),Gh.toC (n1:=9) ⟨rfl,rfl,trivial⟩ rfl (Nat.zero_le _) (by simp)⟩
 replace h39:=cond_f h27 h39
 rcases bool_tf (r3.2 != 2) with h28 | h28
 replace h39:=cond_t h28 h39
 replace h39:=Option.some.inj h39
 subst h39
 refine sr ?_
 refine RS.q rfl (op_int rfl rfl (ix_neq _ _ _) rfl) (RS.mv rfl rfl rfl rfl (RS.op (want1 rfl rfl rfl h27) (op_move rfl) rfl rfl (RS.op (want1 rfl rfl rfl h27) (op_int rfl rfl (ix_neq _ _ _) rfl) rfl rfl (RS.q (u:=.bool (r3.2 != 2)) rfl (op_pick0 rfl h27 rfl) (RS.mv rfl rfl rfl rfl ?_)))))
 repeat refine RS.no (want0 rfl rfl rfl h28) rfl rfl ?_
 refine RS.q (u:=.bool true) rfl (op_pick1 rfl h28 rfl) (RS.mv rfl rfl rfl rfl ?_)
 repeat refine RS.no (want0 rfl rfl rfl rfl) rfl rfl ?_
 refine RS.q (u:=.bool true) rfl (op_pick1 rfl rfl rfl) (RS.mv rfl rfl rfl rfl ?_)
 repeat refine RS.no (want0 rfl rfl rfl rfl) rfl rfl ?_
 refine RS.q (u:=.bool true) rfl (op_pick1 rfl rfl rfl) (RS.mv rfl rfl rfl rfl ?_)
 repeat refine RS.no (want0 rfl rfl rfl rfl) rfl rfl ?_
 refine RS.q (u:=.bool true) rfl (op_pick1 rfl rfl rfl) (RS.mv rfl rfl rfl rfl ?_)
 repeat refine RS.no (want0 rfl rfl rfl rfl) rfl rfl ?_
 refine RS.q (u:=.bool true) rfl (op_pick1 rfl rfl rfl) (RS.mv rfl rfl rfl rfl ?_)
 repeat refine RS.no (want0 rfl rfl rfl rfl) rfl rfl ?_
 refine RS.q (u:=.bool true) rfl (op_pick1 rfl rfl rfl) (RS.mv rfl rfl rfl rfl ?_)
 repeat refine RS.no (want0 rfl rfl rfl rfl) rfl rfl ?_
 refine RS.q (u:=.bool true) rfl (op_pick1 rfl rfl rfl) (RS.mv rfl rfl rfl rfl ?_)
 repeat refine RS.no (want0 rfl rfl rfl rfl) rfl rfl ?_
 refine RS.q (u:=.bool true) rfl (op_pick1 rfl rfl rfl) (RS.mv rfl rfl rfl rfl ?_)
 repeat refine RS.no (want0 rfl rfl rfl rfl) rfl rfl ?_
 refine RS.q (u:=.bool true) rfl (op_pick1 rfl rfl rfl) (RS.mv rfl rfl rfl rfl ?_)
 repeat refine RS.no (want0 rfl rfl rfl rfl) rfl rfl ?_
 refine RS.q (u:=.bool true) rfl (op_pick1 rfl rfl rfl) ?_
 refine sd ?_
 exact ⟨_,_,⟨rfl,rfl⟩,(Nat.zero_le _),Gh.toC (n1:=9) ⟨rfl,rfl,trivial⟩ rfl (Nat.zero_le _) (by simp)⟩
 replace h39:=cond_f h28 h39
 rcases bool_tf (r5.2 != 0) with h29 | h29
 replace h39:=cond_t h29 h39
 replace h39:=Option.some.inj h39
 subst h39
 refine sr ?_
 refine RS.q rfl (op_int rfl rfl (ix_neq _ _ _) rfl) (RS.mv rfl rfl rfl rfl (RS.op (want1 rfl rfl rfl h27) (op_move rfl) rfl rfl (RS.op (want1 rfl rfl rfl h27) (op_int rfl rfl (ix_neq _ _ _) rfl) rfl rfl (RS.q (u:=.bool (r3.2 != 2)) rfl (op_pick0 rfl h27 rfl) (RS.mv rfl rfl rfl rfl (RS.op (want1 rfl rfl rfl h28) (op_move rfl) rfl rfl (RS.op (want1 rfl rfl rfl h28) (op_int rfl rfl (ix_neq _ _ _) rfl) rfl rfl ?_)))))))
 refine RS.q (u:=.bool (r5.2 != 0)) rfl (op_pick0 rfl h28 rfl) (RS.mv rfl rfl rfl rfl ?_)
 repeat refine RS.no (want0 rfl rfl rfl h29) rfl rfl ?_
 refine RS.q (u:=.bool true) rfl (op_pick1 rfl h29 rfl) (RS.mv rfl rfl rfl rfl ?_)
 repeat refine RS.no (want0 rfl rfl rfl rfl) rfl rfl ?_
 refine RS.q (u:=.bool true) rfl (op_pick1 rfl rfl rfl) (RS.mv rfl rfl rfl rfl ?_)
 repeat refine RS.no (want0 rfl rfl rfl rfl) rfl rfl ?_
 refine RS.q (u:=.bool true) rfl (op_pick1 rfl rfl rfl) (RS.mv rfl rfl rfl rfl ?_)
 repeat refine RS.no (want0 rfl rfl rfl rfl) rfl rfl ?_
 refine RS.q (u:=.bool true) rfl (op_pick1 rfl rfl rfl) (RS.mv rfl rfl rfl rfl ?_)
 repeat refine RS.no (want0 rfl rfl rfl rfl) rfl rfl ?_
 refine RS.q (u:=.bool true) rfl (op_pick1 rfl rfl rfl) (RS.mv rfl rfl rfl rfl ?_)
 repeat refine RS.no (want0 rfl rfl rfl rfl) rfl rfl ?_
 refine RS.q (u:=.bool true) rfl (op_pick1 rfl rfl rfl) (RS.mv rfl rfl rfl rfl ?_)
 repeat refine RS.no (want0 rfl rfl rfl rfl) rfl rfl ?_
 refine RS.q (u:=.bool true) rfl (op_pick1 rfl rfl rfl) (RS.mv rfl rfl rfl rfl ?_)
 repeat refine RS.no (want0 rfl rfl rfl rfl) rfl rfl ?_
 refine RS.q (u:=.bool true) rfl (op_pick1 rfl rfl rfl) (RS.mv rfl rfl rfl rfl ?_)
 repeat refine RS.no (want0 rfl rfl rfl rfl) rfl rfl ?_
 refine RS.q (u:=.bool true) rfl (op_pick1 rfl rfl rfl) ?_
 refine sd ?_
 exact ⟨_,_,⟨rfl,rfl⟩,(Nat.zero_le _),Gh.toC (n1:=9) ⟨rfl,rfl,trivial⟩ rfl (Nat.zero_le _) (by simp)⟩
 replace h39:=cond_f h29 h39
 rcases bool_tf (r9.2.2 != 0) with h30 | h30
 replace h39:=cond_t h30 h39
 replace h39:=Option.some.inj h39
 subst h39
 refine sr ?_
 refine RS.q rfl (op_int rfl rfl (ix_neq _ _ _) rfl) (RS.mv rfl rfl rfl rfl (RS.op (want1 rfl rfl rfl h27) (op_move rfl) rfl rfl (RS.op (want1 rfl rfl rfl h27) (op_int rfl rfl (ix_neq _ _ _) rfl) rfl rfl (RS.q (u:=.bool (r3.2 != 2)) rfl (op_pick0 rfl h27 rfl) (RS.mv rfl rfl rfl rfl (RS.op (want1 rfl rfl rfl h28) (op_move rfl) rfl rfl (RS.op (want1 rfl rfl rfl h28) (op_int rfl rfl (ix_neq _ _ _) rfl) rfl rfl ?_)))))))
 refine RS.q (u:=.bool (r5.2 != 0)) rfl (op_pick0 rfl h28 rfl) (RS.mv rfl rfl rfl rfl (RS.op (want1 rfl rfl rfl h29) (op_move rfl) rfl rfl (RS.op (want1 rfl rfl rfl h29) (op_int rfl rfl (ix_neq _ _ _) rfl) rfl rfl (RS.q (u:=.bool (r9.2.2 != 0)) rfl (op_pick0 rfl h29 rfl) (RS.mv rfl rfl rfl rfl ?_)))))
 repeat refine RS.no (want0 rfl rfl rfl h30) rfl rfl ?_
 refine RS.q (u:=.bool true) rfl (op_pick1 rfl h30 rfl) (RS.mv rfl rfl rfl rfl ?_)
 repeat refine RS.no (want0 rfl rfl rfl rfl) rfl rfl ?_
 refine RS.q (u:=.bool true) rfl (op_pick1 rfl rfl rfl) (RS.mv rfl rfl rfl rfl ?_)
 repeat refine RS.no (want0 rfl rfl rfl rfl) rfl rfl ?_
 refine RS.q (u:=.bool true) rfl (op_pick1 rfl rfl rfl) (RS.mv rfl rfl rfl rfl ?_)
 repeat refine RS.no (want0 rfl rfl rfl rfl) rfl rfl ?_
 refine RS.q (u:=.bool true) rfl (op_pick1 rfl rfl rfl) (RS.mv rfl rfl rfl rfl ?_)
 repeat refine RS.no (want0 rfl rfl rfl rfl) rfl rfl ?_
 refine RS.q (u:=.bool true) rfl (op_pick1 rfl rfl rfl) (RS.mv rfl rfl rfl rfl ?_)
 repeat refine RS.no (want0 rfl rfl rfl rfl) rfl rfl ?_
 refine RS.q (u:=.bool true) rfl (op_pick1 rfl rfl rfl) (RS.mv rfl rfl rfl rfl ?_)
 repeat refine RS.no (want0 rfl rfl rfl rfl) rfl rfl ?_
 refine RS.q (u:=.bool true) rfl (op_pick1 rfl rfl rfl) (RS.mv rfl rfl rfl rfl ?_)
 repeat refine RS.no (want0 rfl rfl rfl rfl) rfl rfl ?_
 refine RS.q (u:=.bool true) rfl (op_pick1 rfl rfl rfl) ?_
 refine sd ?_
 exact ⟨_,_,⟨rfl,rfl⟩,(Nat.zero_le _),Gh.toC (n1:=9) ⟨rfl,rfl,trivial⟩ rfl (Nat.zero_le _) (by simp)⟩
 replace h39:=cond_f h30 h39
 rcases bool_tf (r13.2.2 != 0) with h31 | h31
 replace h39:=cond_t h31 h39
 replace h39:=Option.some.inj h39
 subst h39
 refine sr ?_
 refine RS.q rfl (op_int rfl rfl (ix_neq _ _ _) rfl) (RS.mv rfl rfl rfl rfl (RS.op (want1 rfl rfl rfl h27) (op_move rfl) rfl rfl (RS.op (want1 rfl rfl rfl h27) (op_int rfl rfl (ix_neq _ _ _) rfl) rfl rfl (RS.q (u:=.bool (r3.2 != 2)) rfl (op_pick0 rfl h27 rfl) (RS.mv rfl rfl rfl rfl (RS.op (want1 rfl rfl rfl h28) (op_move rfl) rfl rfl (RS.op (want1 rfl rfl rfl h28) (op_int rfl rfl (ix_neq _ _ _) rfl) rfl rfl ?_)))))))
 refine RS.q (u:=.bool (r5.2 != 0)) rfl (op_pick0 rfl h28 rfl) (RS.mv rfl rfl rfl rfl (RS.op (want1 rfl rfl rfl h29) (op_move rfl) rfl rfl (RS.op (want1 rfl rfl rfl h29) (op_int rfl rfl (ix_neq _ _ _) rfl) rfl rfl (RS.q (u:=.bool (r9.2.2 != 0)) rfl (op_pick0 rfl h29 rfl) (RS.mv rfl rfl rfl rfl (RS.op (want1 rfl rfl rfl h30) (op_move rfl) rfl rfl (RS.op (want1 rfl rfl rfl h30) (op_int rfl rfl (ix_neq _ _ _) rfl) rfl rfl ?_)))))))
 refine RS.q (u:=.bool (r13.2.2 != 0)) rfl (op_pick0 rfl h30 rfl) (RS.mv rfl rfl rfl rfl ?_)
 repeat refine RS.no (want0 rfl rfl rfl h31) rfl rfl ?_
 refine RS.q (u:=.bool true) rfl (op_pick1 rfl h31 rfl) (RS.mv rfl rfl rfl rfl ?_)
 repeat refine RS.no (want0 rfl rfl rfl rfl) rfl rfl ?_
 refine RS.q (u:=.bool true) rfl (op_pick1 rfl rfl rfl) (RS.mv rfl rfl rfl rfl ?_)
 repeat refine RS.no (want0 rfl rfl rfl rfl) rfl rfl ?_
 refine RS.q (u:=.bool true) rfl (op_pick1 rfl rfl rfl) (RS.mv rfl rfl rfl rfl ?_)
 repeat refine RS.no (want0 rfl rfl rfl rfl) rfl rfl ?_
 refine RS.q (u:=.bool true) rfl (op_pick1 rfl rfl rfl) (RS.mv rfl rfl rfl rfl ?_)
 repeat refine RS.no (want0 rfl rfl rfl rfl) rfl rfl ?_
 refine RS.q (u:=.bool true) rfl (op_pick1 rfl rfl rfl) (RS.mv rfl rfl rfl rfl ?_)
 repeat refine RS.no (want0 rfl rfl rfl rfl) rfl rfl ?_
 refine RS.q (u:=.bool true) rfl (op_pick1 rfl rfl rfl) (RS.mv rfl rfl rfl rfl ?_)
 repeat refine RS.no (want0 rfl rfl rfl rfl) rfl rfl ?_
 refine RS.q (u:=.bool true) rfl (op_pick1 rfl rfl rfl) ?_
 refine sd ?_
 exact ⟨_,_,⟨rfl,rfl⟩,(Nat.zero_le _),Gh.toC (n1:=9) ⟨rfl,rfl,trivial⟩ rfl (Nat.zero_le _) (by simp)⟩
 replace h39:=cond_f h31 h39
 rcases bool_tf (r17.2.2 != 4) with h32 | h32
 replace h39:=cond_t h32 h39
 replace h39:=Option.some.inj h39
 subst h39
 refine sr ?_
 refine RS.q rfl (op_int rfl rfl (ix_neq _ _ _) rfl) (RS.mv rfl rfl rfl rfl (RS.op (want1 rfl rfl rfl h27) (op_move rfl) rfl rfl (RS.op (want1 rfl rfl rfl h27) (op_int rfl rfl (ix_neq _ _ _) rfl) rfl rfl (RS.q (u:=.bool (r3.2 != 2)) rfl (op_pick0 rfl h27 rfl) (RS.mv rfl rfl rfl rfl (RS.op (want1 rfl rfl rfl h28) (op_move rfl) rfl rfl (RS.op (want1 rfl rfl rfl h28) (op_int rfl rfl (ix_neq _ _ _) rfl) rfl rfl ?_)))))))
 refine RS.q (u:=.bool (r5.2 != 0)) rfl (op_pick0 rfl h28 rfl) (RS.mv rfl rfl rfl rfl (RS.op (want1 rfl rfl rfl h29) (op_move rfl) rfl rfl (RS.op (want1 rfl rfl rfl h29) (op_int rfl rfl (ix_neq _ _ _) rfl) rfl rfl (RS.q (u:=.bool (r9.2.2 != 0)) rfl (op_pick0 rfl h29 rfl) (RS.mv rfl rfl rfl rfl (RS.op (want1 rfl rfl rfl h30) (op_move rfl) rfl rfl (RS.op (want1 rfl rfl rfl h30) (op_int rfl rfl (ix_neq _ _ _) rfl) rfl rfl ?_)))))))
 refine RS.q (u:=.bool (r13.2.2 != 0)) rfl (op_pick0 rfl h30 rfl) (RS.mv rfl rfl rfl rfl (RS.op (want1 rfl rfl rfl h31) (op_move rfl) rfl rfl (RS.op (want1 rfl rfl rfl h31) (op_int rfl rfl (ix_neq _ _ _) rfl) rfl rfl (RS.q (u:=.bool (r17.2.2 != 4)) rfl (op_pick0 rfl h31 rfl) (RS.mv rfl rfl rfl rfl ?_)))))
 repeat refine RS.no (want0 rfl rfl rfl h32) rfl rfl ?_
 refine RS.q (u:=.bool true) rfl (op_pick1 rfl h32 rfl) (RS.mv rfl rfl rfl rfl ?_)
 repeat refine RS.no (want0 rfl rfl rfl rfl) rfl rfl ?_
 refine RS.q (u:=.bool true) rfl (op_pick1 rfl rfl rfl) (RS.mv rfl rfl rfl rfl ?_)
 repeat refine RS.no (want0 rfl rfl rfl rfl) rfl rfl ?_
 refine RS.q (u:=.bool true) rfl (op_pick1 rfl rfl rfl) (RS.mv rfl rfl rfl rfl ?_)
 repeat refine RS.no (want0 rfl rfl rfl rfl) rfl rfl ?_
 refine RS.q (u:=.bool true) rfl (op_pick1 rfl rfl rfl) (RS.mv rfl rfl rfl rfl ?_)
 repeat refine RS.no (want0 rfl rfl rfl rfl) rfl rfl ?_
 refine RS.q (u:=.bool true) rfl (op_pick1 rfl rfl rfl) (RS.mv rfl rfl rfl rfl ?_)
 repeat refine RS.no (want0 rfl rfl rfl rfl) rfl rfl ?_
 refine RS.q (u:=.bool true) rfl (op_pick1 rfl rfl rfl) ?_
 refine sd ?_
 exact ⟨_,_,⟨rfl,rfl⟩,(Nat.zero_le _),Gh.toC (n1:=9) ⟨rfl,rfl,trivial⟩ rfl (Nat.zero_le _) (by simp)⟩
 replace h39:=cond_f h32 h39
 rcases bool_tf (r17.2.1 != 1) with h33 | h33
 replace h39:=cond_t h33 h39
 replace h39:=Option.some.inj h39
 subst h39
 refine sr ?_
 refine RS.q rfl (op_int rfl rfl (ix_neq _ _ _) rfl) (RS.mv rfl rfl rfl rfl (RS.op (want1 rfl rfl rfl h27) (op_move rfl) rfl rfl (RS.op (want1 rfl rfl rfl h27) (op_int rfl rfl (ix_neq _ _ _) rfl) rfl rfl (RS.q (u:=.bool (r3.2 != 2)) rfl (op_pick0 rfl h27 rfl) (RS.mv rfl rfl rfl rfl (RS.op (want1 rfl rfl rfl h28) (op_move rfl) rfl rfl (RS.op (want1 rfl rfl rfl h28) (op_int rfl rfl (ix_neq _ _ _) rfl) rfl rfl ?_)))))))
 refine RS.q (u:=.bool (r5.2 != 0)) rfl (op_pick0 rfl h28 rfl) (RS.mv rfl rfl rfl rfl (RS.op (want1 rfl rfl rfl h29) (op_move rfl) rfl rfl (RS.op (want1 rfl rfl rfl h29) (op_int rfl rfl (ix_neq _ _ _) rfl) rfl rfl (RS.q (u:=.bool (r9.2.2 != 0)) rfl (op_pick0 rfl h29 rfl) (RS.mv rfl rfl rfl rfl (RS.op (want1 rfl rfl rfl h30) (op_move rfl) rfl rfl (RS.op (want1 rfl rfl rfl h30) (op_int rfl rfl (ix_neq _ _ _) rfl) rfl rfl ?_)))))))
 refine RS.q (u:=.bool (r13.2.2 != 0)) rfl (op_pick0 rfl h30 rfl) (RS.mv rfl rfl rfl rfl (RS.op (want1 rfl rfl rfl h31) (op_move rfl) rfl rfl (RS.op (want1 rfl rfl rfl h31) (op_int rfl rfl (ix_neq _ _ _) rfl) rfl rfl (RS.q (u:=.bool (r17.2.2 != 4)) rfl (op_pick0 rfl h31 rfl) (RS.mv rfl rfl rfl rfl (RS.op (want1 rfl rfl rfl h32) (op_move rfl) rfl rfl (RS.op (want1 rfl rfl rfl h32) (op_int rfl rfl (ix_neq _ _ _) rfl) rfl rfl ?_)))))))
 refine RS.q (u:=.bool (r17.2.1 != 1)) rfl (op_pick0 rfl h32 rfl) (RS.mv rfl rfl rfl rfl ?_)
 repeat refine RS.no (want0 rfl rfl rfl h33) rfl rfl ?_
 refine RS.q (u:=.bool true) rfl (op_pick1 rfl h33 rfl) (RS.mv rfl rfl rfl rfl ?_)
 repeat refine RS.no (want0 rfl rfl rfl rfl) rfl rfl ?_
 refine RS.q (u:=.bool true) rfl (op_pick1 rfl rfl rfl) (RS.mv rfl rfl rfl rfl ?_)
 repeat refine RS.no (want0 rfl rfl rfl rfl) rfl rfl ?_
 refine RS.q (u:=.bool true) rfl (op_pick1 rfl rfl rfl) (RS.mv rfl rfl rfl rfl ?_)
 repeat refine RS.no (want0 rfl rfl rfl rfl) rfl rfl ?_
 refine RS.q (u:=.bool true) rfl (op_pick1 rfl rfl rfl) (RS.mv rfl rfl rfl rfl ?_)
 repeat refine RS.no (want0 rfl rfl rfl rfl) rfl rfl ?_
 refine RS.q (u:=.bool true) rfl (op_pick1 rfl rfl rfl) ?_
 refine sd ?_
 exact ⟨_,_,⟨rfl,rfl⟩,(Nat.zero_le _),Gh.toC (n1:=9) ⟨rfl,rfl,trivial⟩ rfl (Nat.zero_le _) (by simp)⟩
 replace h39:=cond_f h33 h39
 rcases bool_tf (r19.2.2 != 0) with h34 | h34
 replace h39:=cond_t h34 h39
 replace h39:=Option.some.inj h39
 subst h39
 refine sr ?_
 refine RS.q rfl (op_int rfl rfl (ix_neq _ _ _) rfl) (RS.mv rfl rfl rfl rfl (RS.op (want1 rfl rfl rfl h27) (op_move rfl) rfl rfl (RS.op (want1 rfl rfl rfl h27) (op_int rfl rfl (ix_neq _ _ _) rfl) rfl rfl (RS.q (u:=.bool (r3.2 != 2)) rfl (op_pick0 rfl h27 rfl) (RS.mv rfl rfl rfl rfl (RS.op (want1 rfl rfl rfl h28) (op_move rfl) rfl rfl (RS.op (want1 rfl rfl rfl h28) (op_int rfl rfl (ix_neq _ _ _) rfl) rfl rfl ?_)))))))
 refine RS.q (u:=.bool (r5.2 != 0)) rfl (op_pick0 rfl h28 rfl) (RS.mv rfl rfl rfl rfl (RS.op (want1 rfl rfl rfl h29) (op_move rfl) rfl rfl (RS.op (want1 rfl rfl rfl h29) (op_int rfl rfl (ix_neq _ _ _) rfl) rfl rfl (RS.q (u:=.bool (r9.2.2 != 0)) rfl (op_pick0 rfl h29 rfl) (RS.mv rfl rfl rfl rfl (RS.op (want1 rfl rfl rfl h30) (op_move rfl) rfl rfl (RS.op (want1 rfl rfl rfl h30) (op_int rfl rfl (ix_neq _ _ _) rfl) rfl rfl ?_)))))))
 refine RS.q (u:=.bool (r13.2.2 != 0)) rfl (op_pick0 rfl h30 rfl) (RS.mv rfl rfl rfl rfl (RS.op (want1 rfl rfl rfl h31) (op_move rfl) rfl rfl (RS.op (want1 rfl rfl rfl h31) (op_int rfl rfl (ix_neq _ _ _) rfl) rfl rfl (RS.q (u:=.bool (r17.2.2 != 4)) rfl (op_pick0 rfl h31 rfl) (RS.mv rfl rfl rfl rfl (RS.op (want1 rfl rfl rfl h32) (op_move rfl) rfl rfl (RS.op (want1 rfl rfl rfl h32) (op_int rfl rfl (ix_neq _ _ _) rfl) rfl rfl ?_)))))))
 refine RS.q (u:=.bool (r17.2.1 != 1)) rfl (op_pick0 rfl h32 rfl) (RS.mv rfl rfl rfl rfl (RS.op (want1 rfl rfl rfl h33) (op_move rfl) rfl rfl (RS.op (want1 rfl rfl rfl h33) (op_int rfl rfl (ix_neq _ _ _) rfl) rfl rfl (RS.q (u:=.bool (r19.2.2 != 0)) rfl (op_pick0 rfl h33 rfl) (RS.mv rfl rfl rfl rfl ?_)))))
 repeat refine RS.no (want0 rfl rfl rfl h34) rfl rfl ?_
 refine RS.q (u:=.bool true) rfl (op_pick1 rfl h34 rfl) (RS.mv rfl rfl rfl rfl ?_)
 repeat refine RS.no (want0 rfl rfl rfl rfl) rfl rfl ?_
 refine RS.q (u:=.bool true) rfl (op_pick1 rfl rfl rfl) (RS.mv rfl rfl rfl rfl ?_)
 repeat refine RS.no (want0 rfl rfl rfl rfl) rfl rfl ?_
 refine RS.q (u:=.bool true) rfl (op_pick1 rfl rfl rfl) (RS.mv rfl rfl rfl rfl ?_)
 repeat refine RS.no (want0 rfl rfl rfl rfl) rfl rfl ?_
 refine RS.q (u:=.bool true) rfl (op_pick1 rfl rfl rfl) ?_
 refine sd ?_
 exact ⟨_,_,⟨rfl,rfl⟩,(Nat.zero_le _),Gh.toC (n1:=9) ⟨rfl,rfl,trivial⟩ rfl (Nat.zero_le _) (by simp)⟩
 replace h39:=cond_f h34 h39
 rcases bool_tf (r19.2.1 != 2) with h35 | h35
 replace h39:=cond_t h35 h39
 replace h39:=Option.some.inj h39
 subst h39
 refine sr ?_
 refine RS.q rfl (op_int rfl rfl (ix_neq _ _ _) rfl) (RS.mv rfl rfl rfl rfl (RS.op (want1 rfl rfl rfl h27) (op_move rfl) rfl rfl (RS.op (want1 rfl rfl rfl h27) (op_int rfl rfl (ix_neq _ _ _) rfl) rfl rfl (RS.q (u:=.bool (r3.2 != 2)) rfl (op_pick0 rfl h27 rfl) (RS.mv rfl rfl rfl rfl (RS.op (want1 rfl rfl rfl h28) (op_move rfl) rfl rfl (RS.op (want1 rfl rfl rfl h28) (op_int rfl rfl (ix_neq _ _ _) rfl) rfl rfl ?_)))))))
 refine RS.q (u:=.bool (r5.2 != 0)) rfl (op_pick0 rfl h28 rfl) (RS.mv rfl rfl rfl rfl (RS.op (want1 rfl rfl rfl h29) (op_move rfl) rfl rfl (RS.op (want1 rfl rfl rfl h29) (op_int rfl rfl (ix_neq _ _ _) rfl) rfl rfl (RS.q (u:=.bool (r9.2.2 != 0)) rfl (op_pick0 rfl h29 rfl) (RS.mv rfl rfl rfl rfl (RS.op (want1 rfl rfl rfl h30) (op_move rfl) rfl rfl (RS.op (want1 rfl rfl rfl h30) (op_int rfl rfl (ix_neq _ _ _) rfl) rfl rfl ?_)))))))
 refine RS.q (u:=.bool (r13.2.2 != 0)) rfl (op_pick0 rfl h30 rfl) (RS.mv rfl rfl rfl rfl (RS.op (want1 rfl rfl rfl h31) (op_move rfl) rfl rfl (RS.op (want1 rfl rfl rfl h31) (op_int rfl rfl (ix_neq _ _ _) rfl) rfl rfl (RS.q (u:=.bool (r17.2.2 != 4)) rfl (op_pick0 rfl h31 rfl) (RS.mv rfl rfl rfl rfl (RS.op (want1 rfl rfl rfl h32) (op_move rfl) rfl rfl (RS.op (want1 rfl rfl rfl h32) (op_int rfl rfl (ix_neq _ _ _) rfl) rfl rfl ?_)))))))
 refine RS.q (u:=.bool (r17.2.1 != 1)) rfl (op_pick0 rfl h32 rfl) (RS.mv rfl rfl rfl rfl (RS.op (want1 rfl rfl rfl h33) (op_move rfl) rfl rfl (RS.op (want1 rfl rfl rfl h33) (op_int rfl rfl (ix_neq _ _ _) rfl) rfl rfl (RS.q (u:=.bool (r19.2.2 != 0)) rfl (op_pick0 rfl h33 rfl) (RS.mv rfl rfl rfl rfl (RS.op (want1 rfl rfl rfl h34) (op_move rfl) rfl rfl (RS.op (want1 rfl rfl rfl h34) (op_int rfl rfl (ix_neq _ _ _) rfl) rfl rfl ?_)))))))
 refine RS.q (u:=.bool (r19.2.1 != 2)) rfl (op_pick0 rfl h34 rfl) (RS.mv rfl rfl rfl rfl ?_)
 repeat refine RS.no (want0 rfl rfl rfl h35) rfl rfl ?_
 refine RS.q (u:=.bool true) rfl (op_pick1 rfl h35 rfl) (RS.mv rfl rfl rfl rfl ?_)
 repeat refine RS.no (want0 rfl rfl rfl rfl) rfl rfl ?_
 refine RS.q (u:=.bool true) rfl (op_pick1 rfl rfl rfl) (RS.mv rfl rfl rfl rfl ?_)
 repeat refine RS.no (want0 rfl rfl rfl rfl) rfl rfl ?_
 refine RS.q (u:=.bool true) rfl (op_pick1 rfl rfl rfl) ?_
 refine sd ?_
 exact ⟨_,_,⟨rfl,rfl⟩,(Nat.zero_le _),Gh.toC (n1:=9) ⟨rfl,rfl,trivial⟩ rfl (Nat.zero_le _) (by simp)⟩
 replace h39:=cond_f h35 h39
 rcases bool_tf (r21.2.2 != 0) with h36 | h36
 replace h39:=cond_t h36 h39
 replace h39:=Option.some.inj h39
 subst h39
 refine sr ?_
 refine RS.q rfl (op_int rfl rfl (ix_neq _ _ _) rfl) (RS.mv rfl rfl rfl rfl (RS.op (want1 rfl rfl rfl h27) (op_move rfl) rfl rfl (RS.op (want1 rfl rfl rfl h27) (op_int rfl rfl (ix_neq _ _ _) rfl) rfl rfl (RS.q (u:=.bool (r3.2 != 2)) rfl (op_pick0 rfl h27 rfl) (RS.mv rfl rfl rfl rfl (RS.op (want1 rfl rfl rfl h28) (op_move rfl) rfl rfl (RS.op (want1 rfl rfl rfl h28) (op_int rfl rfl (ix_neq _ _ _) rfl) rfl rfl ?_)))))))
 refine RS.q (u:=.bool (r5.2 != 0)) rfl (op_pick0 rfl h28 rfl) (RS.mv rfl rfl rfl rfl (RS.op (want1 rfl rfl rfl h29) (op_move rfl) rfl rfl (RS.op (want1 rfl rfl rfl h29) (op_int rfl rfl (ix_neq _ _ _) rfl) rfl rfl (RS.q (u:=.bool (r9.2.2 != 0)) rfl (op_pick0 rfl h29 rfl) (RS.mv rfl rfl rfl rfl (RS.op (want1 rfl rfl rfl h30) (op_move rfl) rfl rfl (RS.op (want1 rfl rfl rfl h30) (op_int rfl rfl (ix_neq _ _ _) rfl) rfl rfl ?_)))))))
 refine RS.q (u:=.bool (r13.2.2 != 0)) rfl (op_pick0 rfl h30 rfl) (RS.mv rfl rfl rfl rfl (RS.op (want1 rfl rfl rfl h31) (op_move rfl) rfl rfl (RS.op (want1 rfl rfl rfl h31) (op_int rfl rfl (ix_neq _ _ _) rfl) rfl rfl (RS.q (u:=.bool (r17.2.2 != 4)) rfl (op_pick0 rfl h31 rfl) (RS.mv rfl rfl rfl rfl (RS.op (want1 rfl rfl rfl h32) (op_move rfl) rfl rfl (RS.op (want1 rfl rfl rfl h32) (op_int rfl rfl (ix_neq _ _ _) rfl) rfl rfl ?_)))))))
 refine RS.q (u:=.bool (r17.2.1 != 1)) rfl (op_pick0 rfl h32 rfl) (RS.mv rfl rfl rfl rfl (RS.op (want1 rfl rfl rfl h33) (op_move rfl) rfl rfl (RS.op (want1 rfl rfl rfl h33) (op_int rfl rfl (ix_neq _ _ _) rfl) rfl rfl (RS.q (u:=.bool (r19.2.2 != 0)) rfl (op_pick0 rfl h33 rfl) (RS.mv rfl rfl rfl rfl (RS.op (want1 rfl rfl rfl h34) (op_move rfl) rfl rfl (RS.op (want1 rfl rfl rfl h34) (op_int rfl rfl (ix_neq _ _ _) rfl) rfl rfl ?_)))))))
 refine RS.q (u:=.bool (r19.2.1 != 2)) rfl (op_pick0 rfl h34 rfl) (RS.mv rfl rfl rfl rfl (RS.op (want1 rfl rfl rfl h35) (op_move rfl) rfl rfl (RS.op (want1 rfl rfl rfl h35) (op_int rfl rfl (ix_neq _ _ _) rfl) rfl rfl (RS.q (u:=.bool (r21.2.2 != 0)) rfl (op_pick0 rfl h35 rfl) (RS.mv rfl rfl rfl rfl ?_)))))
 repeat refine RS.no (want0 rfl rfl rfl h36) rfl rfl ?_
 refine RS.q (u:=.bool true) rfl (op_pick1 rfl h36 rfl) (RS.mv rfl rfl rfl rfl ?_)
 repeat refine RS.no (want0 rfl rfl rfl rfl) rfl rfl ?_
 refine RS.q (u:=.bool true) rfl (op_pick1 rfl rfl rfl) ?_
 refine sd ?_
 exact ⟨_,_,⟨rfl,rfl⟩,(Nat.zero_le _),Gh.toC (n1:=9) ⟨rfl,rfl,trivial⟩ rfl (Nat.zero_le _) (by simp)⟩
 replace h39:=cond_f h36 h39
 rcases bool_tf (r23.2.2 != 0) with h37 | h37
 replace h39:=cond_t h37 h39
 replace h39:=Option.some.inj h39
 subst h39
 refine sr ?_
 refine RS.q rfl (op_int rfl rfl (ix_neq _ _ _) rfl) (RS.mv rfl rfl rfl rfl (RS.op (want1 rfl rfl rfl h27) (op_move rfl) rfl rfl (RS.op (want1 rfl rfl rfl h27) (op_int rfl rfl (ix_neq _ _ _) rfl) rfl rfl (RS.q (u:=.bool (r3.2 != 2)) rfl (op_pick0 rfl h27 rfl) (RS.mv rfl rfl rfl rfl (RS.op (want1 rfl rfl rfl h28) (op_move rfl) rfl rfl (RS.op (want1 rfl rfl rfl h28) (op_int rfl rfl (ix_neq _ _ _) rfl) rfl rfl ?_)))))))
 refine RS.q (u:=.bool (r5.2 != 0)) rfl (op_pick0 rfl h28 rfl) (RS.mv rfl rfl rfl rfl (RS.op (want1 rfl rfl rfl h29) (op_move rfl) rfl rfl (RS.op (want1 rfl rfl rfl h29) (op_int rfl rfl (ix_neq _ _ _) rfl) rfl rfl (RS.q (u:=.bool (r9.2.2 != 0)) rfl (op_pick0 rfl h29 rfl) (RS.mv rfl rfl rfl rfl (RS.op (want1 rfl rfl rfl h30) (op_move rfl) rfl rfl (RS.op (want1 rfl rfl rfl h30) (op_int rfl rfl (ix_neq _ _ _) rfl) rfl rfl ?_)))))))
 refine RS.q (u:=.bool (r13.2.2 != 0)) rfl (op_pick0 rfl h30 rfl) (RS.mv rfl rfl rfl rfl (RS.op (want1 rfl rfl rfl h31) (op_move rfl) rfl rfl (RS.op (want1 rfl rfl rfl h31) (op_int rfl rfl (ix_neq _ _ _) rfl) rfl rfl (RS.q (u:=.bool (r17.2.2 != 4)) rfl (op_pick0 rfl h31 rfl) (RS.mv rfl rfl rfl rfl (RS.op (want1 rfl rfl rfl h32) (op_move rfl) rfl rfl (RS.op (want1 rfl rfl rfl h32) (op_int rfl rfl (ix_neq _ _ _) rfl) rfl rfl ?_)))))))
 refine RS.q (u:=.bool (r17.2.1 != 1)) rfl (op_pick0 rfl h32 rfl) (RS.mv rfl rfl rfl rfl (RS.op (want1 rfl rfl rfl h33) (op_move rfl) rfl rfl (RS.op (want1 rfl rfl rfl h33) (op_int rfl rfl (ix_neq _ _ _) rfl) rfl rfl (RS.q (u:=.bool (r19.2.2 != 0)) rfl (op_pick0 rfl h33 rfl) (RS.mv rfl rfl rfl rfl (RS.op (want1 rfl rfl rfl h34) (op_move rfl) rfl rfl (RS.op (want1 rfl rfl rfl h34) (op_int rfl rfl (ix_neq _ _ _) rfl) rfl rfl ?_)))))))
 refine RS.q (u:=.bool (r19.2.1 != 2)) rfl (op_pick0 rfl h34 rfl) (RS.mv rfl rfl rfl rfl (RS.op (want1 rfl rfl rfl h35) (op_move rfl) rfl rfl (RS.op (want1 rfl rfl rfl h35) (op_int rfl rfl (ix_neq _ _ _) rfl) rfl rfl (RS.q (u:=.bool (r21.2.2 != 0)) rfl (op_pick0 rfl h35 rfl) (RS.mv rfl rfl rfl rfl (RS.op (want1 rfl rfl rfl h36) (op_move rfl) rfl rfl (RS.op (want1 rfl rfl rfl h36) (op_int rfl rfl (ix_neq _ _ _) rfl) rfl rfl ?_)))))))
 refine RS.q (u:=.bool (r23.2.2 != 0)) rfl (op_pick0 rfl h36 rfl) (RS.mv rfl rfl rfl rfl ?_)
 repeat refine RS.no (want0 rfl rfl rfl h37) rfl rfl ?_
 refine RS.q (u:=.bool true) rfl (op_pick1 rfl h37 rfl) ?_
 refine sd ?_
 exact ⟨_,_,⟨rfl,rfl⟩,(Nat.zero_le _),Gh.toC (n1:=9) ⟨rfl,rfl,trivial⟩ rfl (Nat.zero_le _) (by simp)⟩
 replace h39:=cond_f h37 h39
 replace h39:=Option.some.inj h39
 subst h39
 refine sr ?_
 refine RS.q rfl (op_int rfl rfl (ix_neq _ _ _) rfl) (RS.mv rfl rfl rfl rfl (RS.op (want1 rfl rfl rfl h27) (op_move rfl) rfl rfl (RS.op (want1 rfl rfl rfl h27) (op_int rfl rfl (ix_neq _ _ _) rfl) rfl rfl (RS.q (u:=.bool (r3.2 != 2)) rfl (op_pick0 rfl h27 rfl) (RS.mv rfl rfl rfl rfl (RS.op (want1 rfl rfl rfl h28) (op_move rfl) rfl rfl (RS.op (want1 rfl rfl rfl h28) (op_int rfl rfl (ix_neq _ _ _) rfl) rfl rfl ?_)))))))
 refine RS.q (u:=.bool (r5.2 != 0)) rfl (op_pick0 rfl h28 rfl) (RS.mv rfl rfl rfl rfl (RS.op (want1 rfl rfl rfl h29) (op_move rfl) rfl rfl (RS.op (want1 rfl rfl rfl h29) (op_int rfl rfl (ix_neq _ _ _) rfl) rfl rfl (RS.q (u:=.bool (r9.2.2 != 0)) rfl (op_pick0 rfl h29 rfl) (RS.mv rfl rfl rfl rfl (RS.op (want1 rfl rfl rfl h30) (op_move rfl) rfl rfl (RS.op (want1 rfl rfl rfl h30) (op_int rfl rfl (ix_neq _ _ _) rfl) rfl rfl ?_)))))))
 refine RS.q (u:=.bool (r13.2.2 != 0)) rfl (op_pick0 rfl h30 rfl) (RS.mv rfl rfl rfl rfl (RS.op (want1 rfl rfl rfl h31) (op_move rfl) rfl rfl (RS.op (want1 rfl rfl rfl h31) (op_int rfl rfl (ix_neq _ _ _) rfl) rfl rfl (RS.q (u:=.bool (r17.2.2 != 4)) rfl (op_pick0 rfl h31 rfl) (RS.mv rfl rfl rfl rfl (RS.op (want1 rfl rfl rfl h32) (op_move rfl) rfl rfl (RS.op (want1 rfl rfl rfl h32) (op_int rfl rfl (ix_neq _ _ _) rfl) rfl rfl ?_)))))))
 refine RS.q (u:=.bool (r17.2.1 != 1)) rfl (op_pick0 rfl h32 rfl) (RS.mv rfl rfl rfl rfl (RS.op (want1 rfl rfl rfl h33) (op_move rfl) rfl rfl (RS.op (want1 rfl rfl rfl h33) (op_int rfl rfl (ix_neq _ _ _) rfl) rfl rfl (RS.q (u:=.bool (r19.2.2 != 0)) rfl (op_pick0 rfl h33 rfl) (RS.mv rfl rfl rfl rfl (RS.op (want1 rfl rfl rfl h34) (op_move rfl) rfl rfl (RS.op (want1 rfl rfl rfl h34) (op_int rfl rfl (ix_neq _ _ _) rfl) rfl rfl ?_)))))))
 refine RS.q (u:=.bool (r19.2.1 != 2)) rfl (op_pick0 rfl h34 rfl) (RS.mv rfl rfl rfl rfl (RS.op (want1 rfl rfl rfl h35) (op_move rfl) rfl rfl (RS.op (want1 rfl rfl rfl h35) (op_int rfl rfl (ix_neq _ _ _) rfl) rfl rfl (RS.q (u:=.bool (r21.2.2 != 0)) rfl (op_pick0 rfl h35 rfl) (RS.mv rfl rfl rfl rfl (RS.op (want1 rfl rfl rfl h36) (op_move rfl) rfl rfl (RS.op (want1 rfl rfl rfl h36) (op_int rfl rfl (ix_neq _ _ _) rfl) rfl rfl ?_)))))))
 refine RS.q (u:=.bool (r23.2.2 != 0)) rfl (op_pick0 rfl h36 rfl) (RS.mv rfl rfl rfl rfl (RS.op (want1 rfl rfl rfl h37) (op_move rfl) rfl rfl (RS.op (want1 rfl rfl rfl h37) (op_int rfl rfl (ix_neq _ _ _) rfl) rfl rfl (RS.q (u:=.bool (r25.2.2 != 13)) rfl (op_pick0 rfl h37 rfl) ?_))))
 refine sd ?_
 exact ⟨_,_,⟨rfl,rfl⟩,(Nat.zero_le _),Gh.toC (n1:=9) ⟨rfl,rfl,trivial⟩ rfl (Nat.zero_le _) (by simp)⟩
theorem law32_exampleHolds_ok (n:Nat)  (r:Bool) (hF:law32_exampleHolds n  = some r) (σ:Sg):EvU Try.prog 12 [] σ (fun u σ'=>u = .bool r∧σ'=σ) :=
 EvU.pure1C (law32_exampleHolds_0 n  r hF) σ
def law32_ChartNew (n:Nat) (p1:Int):Option (Bool) :=
 bindO (chart_New n p1) fun r2 =>
 bindO (ref32_New n p1) fun r4 =>
 bindO (cond (r2.2 == r4.2)
  (bindO (ref32_Same n (GChart.mk r2.1.Words r2.1.Edges) (GChart.mk r4.1.Words r4.1.Edges)) fun r7 =>
  cond r7
   (bindO (law32_exampleHolds n) fun r10 =>
   some r10)
   (some false))
  (some false)) fun b12 =>
 some b12
theorem law32_ChartNew_0 (n:Nat) (p1:Int) (r:Bool) (hF:law32_ChartNew n p1=some r):EvU Try.prog 3 [.int .i64 p1] ⟨[],0⟩ (fun u _=>u = .bool r∧Bel 0 u):=by
 unfold law32_ChartNew at hF
 refine EvU.of_body Try.tb_ok fn3 rfl ?_
 refine WPU.ghost (tm':=fr 28 [(0,.int .i64 p1)]) (Gh.start (Nat.le_of_ble_eq_true rfl)) (Nat.zero_le _) ?_
 refine sr ?_
 refine sd ?_
 obtain ⟨r2,h3,hF⟩:=bindO_some hF
 refine sr ?_
 refine RS.call (u:=.tup [.agg (cGChart r2.1),.int .i64 r2.2]) (args:=[.int .i64 p1]) rfl (op_call rfl rfl fn9 hb9 rfl rfl) (chart_New_ok n p1 r2 h3 _) rfl rfl (RS.mv rfl rfl rfl rfl (RS.q rfl (op_ext rfl rfl) (RS.q rfl (op_ext rfl rfl) (RS.q (u:=.ptr 0 0 0) (σ':=⟨[(0,.row [.int .i64 0,.nils] 24)],1⟩) rfl (op_alloc inf24 rfl rfl) (RS.opn (u:=.junk) (σ':=⟨[(0,.row (cGChart r2.1) 24)],1⟩) rfl (op_store (sz_of inf24) rfl rfl rfl rfl rfl rfl rfl rfl) rfl ?_)))))
 refine sd ?_
 obtain ⟨r4,h5,hF⟩:=bindO_some hF
 refine sr ?_
 refine RS.call (u:=.tup [.agg (cGChart r4.1),.int .i64 r4.2]) (args:=[.int .i64 p1]) rfl (op_call rfl rfl fn10 hb10 rfl rfl) (ref32_New_ok n p1 r4 h5 _) rfl rfl (RS.mv rfl rfl rfl rfl (RS.q rfl (op_ext rfl rfl) (RS.q rfl (op_ext rfl rfl) (RS.q (u:=.ptr 1 0 0) (σ':=⟨[(1,.row [.int .i64 0,.nils] 24),(0,.row (cGChart r2.1) 24)],2⟩) rfl (op_alloc inf24 rfl rfl) (RS.opn (u:=.junk) (σ':=⟨[(1,.row (cGChart r4.1) 24),(0,.row (cGChart r2.1) 24)],2⟩) rfl (op_store (sz_of inf24) rfl rfl rfl rfl rfl rfl rfl rfl) rfl ?_)))))
 refine sd ?_
 obtain ⟨b12,h13,hF⟩:=bindO_some hF
 refine WPU.joinK (fun tm σ=>tm=fr 28 [(2,.bool b12)]∧σ=⟨[(1,.row (cGChart r4.1) 24),(0,.row (cGChart r2.1) 24)],2⟩) ?_ ?_
 rintro _ _ ⟨rfl,rfl⟩
 refine st ?_
 refine WPU.ret ?_
 refine st ?_
 have hr:=Option.some.inj hF
 subst hr
 exact ⟨.inr rfl,[.bool b12],res_t rfl (res_n),.bool b12,⟨[],0⟩,Nat.le_refl _,Gh.toR (.bool b12) rfl,rfl,BU.h⟩
 rcases bool_tf (r2.2 == r4.2) with h6 | h6
 replace h13:=cond_t h6 h13
 obtain ⟨r7,h8,h13⟩:=bindO_some h13
 rcases bool_tf r7 with h9 | h9
 replace h13:=cond_t h9 h13
 obtain ⟨r10,h11,h13⟩:=bindO_some h13
 replace h13:=Option.some.inj h13
 subst h13
 refine sr ?_
 repeat refine RS.mv rfl rfl rfl rfl ?_
 refine RS.q rfl (op_int rfl rfl (ix_eql _ _ _) rfl) (RS.mv rfl rfl rfl rfl (RS.op (u:=.agg (cGChart r2.1)) (want1 rfl rfl rfl h6) (ld_agg und24 rfl (sz_of inf24) rfl rfl rfl) rfl rfl (RS.op (u:=.agg (cGChart r4.1)) (want1 rfl rfl rfl h6) (ld_agg und24 rfl (sz_of inf24) rfl rfl rfl) rfl rfl (RS.call (u:=.bool r7) (args:=[.agg (cGChart r2.1),.agg (cGChart r4.1)]) (want1 rfl rfl rfl h6) (op_call rfl rfl fn11 hb11 rfl rfl) (ref32_Same_ok n (GChart.mk r2.1.Words r2.1.Edges) (GChart.mk r4.1.Words r4.1.Edges) r7 h8 _) rfl rfl (RS.q (u:=.bool r7) rfl (op_pick1 rfl h6 rfl) (RS.mv rfl rfl rfl rfl (RS.call (u:=.bool r10) (args:=[]) (want1 rfl rfl rfl h9) (op_call rfl rfl fn12 hb12 rfl rfl) (law32_exampleHolds_ok n  r10 h11 _) rfl rfl ?_)))))))
 refine RS.q (u:=.bool r10) rfl (op_pick1 rfl h9 rfl) ?_
 refine sd ?_
 exact ⟨_,_,⟨rfl,rfl⟩,(Nat.zero_le _),Gh.toC (n1:=2) ⟨rfl,trivial⟩ rfl (Nat.zero_le _) (by simp)⟩
 replace h13:=cond_f h9 h13
 replace h13:=Option.some.inj h13
 subst h13
 refine sr ?_
 repeat refine RS.mv rfl rfl rfl rfl ?_
 refine RS.q rfl (op_int rfl rfl (ix_eql _ _ _) rfl) (RS.mv rfl rfl rfl rfl (RS.op (u:=.agg (cGChart r2.1)) (want1 rfl rfl rfl h6) (ld_agg und24 rfl (sz_of inf24) rfl rfl rfl) rfl rfl (RS.op (u:=.agg (cGChart r4.1)) (want1 rfl rfl rfl h6) (ld_agg und24 rfl (sz_of inf24) rfl rfl rfl) rfl rfl (RS.call (u:=.bool r7) (args:=[.agg (cGChart r2.1),.agg (cGChart r4.1)]) (want1 rfl rfl rfl h6) (op_call rfl rfl fn11 hb11 rfl rfl) (ref32_Same_ok n (GChart.mk r2.1.Words r2.1.Edges) (GChart.mk r4.1.Words r4.1.Edges) r7 h8 _) rfl rfl (RS.q (u:=.bool r7) rfl (op_pick1 rfl h6 rfl) (RS.mv rfl rfl rfl rfl (RS.no (want0 rfl rfl rfl h9) rfl rfl ?_)))))))
 refine RS.q (u:=.bool false) rfl (op_pick0 rfl h9 rfl) ?_
 refine sd ?_
 exact ⟨_,_,⟨rfl,rfl⟩,(Nat.zero_le _),Gh.toC (n1:=2) ⟨rfl,trivial⟩ rfl (Nat.zero_le _) (by simp)⟩
 replace h13:=cond_f h6 h13
 replace h13:=Option.some.inj h13
 subst h13
 refine sr ?_
 repeat refine RS.mv rfl rfl rfl rfl ?_
 refine RS.q rfl (op_int rfl rfl (ix_eql _ _ _) rfl) (RS.mv rfl rfl rfl rfl ?_)
 repeat refine RS.no (want0 rfl rfl rfl h6) rfl rfl ?_
 refine RS.q (u:=.bool false) rfl (op_pick0 rfl h6 rfl) (RS.mv rfl rfl rfl rfl (RS.no (want0 rfl rfl rfl rfl) rfl rfl (RS.q (u:=.bool false) rfl (op_pick0 rfl rfl rfl) ?_)))
 refine sd ?_
 exact ⟨_,_,⟨rfl,rfl⟩,(Nat.zero_le _),Gh.toC (n1:=2) ⟨rfl,trivial⟩ rfl (Nat.zero_le _) (by simp)⟩
end Go.Proofs
end
section
namespace Go.Proofs
open Go Go.Rx Go.Vx Go.Shelf Go.Sort
set_option linter.unusedVariables false
theorem bindO_s {α β:Type} (a:α) (k:α→Option β):bindO (some a) k=k a:=rfl
section
variable {α:Type} {c:α→α→Int}
end
end Go.Proofs
end
section
namespace Go.Proofs
open Go Go.Rx Go.Vx Go.Sort
set_option linter.unusedVariables false
set_option linter.unusedSimpArgs false
theorem ex_ok (m:Nat):law32_exampleHolds (m+60)=some true:=by kernel_rfl
theorem ex_n {n:Nat} (h:60≤n):law32_exampleHolds n=some true:=by
 obtain ⟨m,rfl⟩:∃ m,n=m+60:=⟨n - 60,by omega⟩
 exact ex_ok m
theorem same_nil (n:Nat) (w:Int) (hn:1≤n):ref32_Same n ⟨w,[]⟩ ⟨w,[]⟩=some true:=by
 obtain ⟨m,rfl⟩:∃ m,n=m+1:=⟨n - 1,by omega⟩
 simp [ref32_Same,ref32_Same_L1,ref32_Same_K1]
theorem new_law (w:Int) {n:Nat} (hn:60≤n):law32_ChartNew n w=some true:=by
 unfold law32_ChartNew chart_New ref32_New
 by_cases h1:w<1
 ·simp [h1,same_nil n 0 (by omega),ex_n hn,bindO_s]
 ·by_cases h2:w > 32
  ·simp [h1,h2,same_nil n 0 (by omega),ex_n hn,bindO_s]
  ·simp [h1,h2,same_nil n w (by omega),ex_n hn,bindO_s]
end Go.Proofs
end
