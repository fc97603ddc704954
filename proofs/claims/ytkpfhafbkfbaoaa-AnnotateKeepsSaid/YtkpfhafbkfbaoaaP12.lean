/-
  Texts of the walk: A1.
-/
import Derived.Test.YtkpfhafbkfbaoaaP11
section
namespace Go.Proofs
open Go Go.Rx Go.Vx
set_option maxRecDepth 10000
set_option linter.unusedSimpArgs false
set_option linter.unusedVariables false
structure GProp where
 Kind : Int
 Name : List UInt8
 From : Int
 To : Int
instance : Inhabited GProp:=⟨.mk default default default default⟩
def cGProp (x : GProp) : List U:=[.int .i64 x.Kind,.str x.Name,.int .i64 x.From,.int .i64 x.To]
theorem bel_cGProp (n : Nat) (x : GProp) : BelL n (cGProp x):=by
 simp only [cGProp,BelL,Bel,true_and,and_true]
theorem len_cGProp (x : GProp) : (cGProp x).length = 4:=rfl
instance : BF cGProp:=⟨bel_cGProp⟩
instance (n : Nat) (x : GProp) : BUL n (cGProp x):=⟨bel_cGProp n x⟩
theorem fz_cGProp (K : Nat) (b : B) (sz : Nat) (x : GProp) : fzL K b sz (cGProp x) = cGProp x:=fzL_bel _ _ _ (bel_cGProp K x)
def eqGProp (x y : GProp) : Bool:=((x.Kind == y.Kind) && (bytesEq x.Name y.Name && ((x.From == y.From) && (x.To == y.To))))
inductive GDeriv where
 | mk (Kind : Int) (Name : List UInt8) (From : Int) (To : Int) (Kids : List GDeriv)
instance : Inhabited GDeriv:=⟨.mk default default default default []⟩
def GDeriv.Kind : GDeriv→Int
 | .mk a0 _ _ _ _=>a0
def GDeriv.Name : GDeriv→List UInt8
 | .mk _ a1 _ _ _=>a1
def GDeriv.From : GDeriv→Int
 | .mk _ _ a2 _ _=>a2
def GDeriv.To : GDeriv→Int
 | .mk _ _ _ a3 _=>a3
def GDeriv.Kids : GDeriv→List GDeriv
 | .mk _ _ _ _ a4=>a4
mutual
def cGDeriv : GDeriv→List U
 | .mk a0 a1 a2 a3 a4=>[.int .i64 a0,.str a1,.int .i64 a2,.int .i64 a3,.isl false (cGDeriv_l a4)]
def cGDeriv_l : List GDeriv→List (List U)
 | []=>[]
 | x :: l=>cGDeriv x :: cGDeriv_l l
end
theorem cGDeriv_l_eq : ∀ l,cGDeriv_l l = l.map cGDeriv
 | []=>by simp [cGDeriv_l]
 | x :: l=>by simp [cGDeriv_l,cGDeriv_l_eq l]
def xGDeriv (x : GDeriv) : List U:=[.int .i64 x.Kind,.str x.Name,.int .i64 x.From,.int .i64 x.To,.isl false (List.map cGDeriv x.Kids)]
theorem cGDeriv_eq (x : GDeriv) : cGDeriv x = xGDeriv x:=by
 cases x; simp only [cGDeriv,cGDeriv_l_eq]; rfl
mutual
theorem bel_cGDeriv (n : Nat) : ∀ x,BelL n (cGDeriv x)
 | .mk a0 a1 a2 a3 a4=>by simp only [cGDeriv,BelL,Bel,true_and,and_true]; exact bel_cGDeriv_l n a4
theorem bel_cGDeriv_l (n : Nat) : ∀ l,BelR n (cGDeriv_l l)
 | []=>by simp [cGDeriv_l,BelR]
 | x :: l=>by simp only [cGDeriv_l,BelR]; exact ⟨bel_cGDeriv n x,bel_cGDeriv_l n l⟩
end
theorem len_cGDeriv (x : GDeriv) : (cGDeriv x).length = 5:=by rw [cGDeriv_eq]; rfl
theorem bel_xGDeriv (n : Nat) (x : GDeriv) : BelL n (xGDeriv x):=by rw [← cGDeriv_eq]; exact bel_cGDeriv n x
instance : BF cGDeriv:=⟨bel_cGDeriv⟩
instance (n : Nat) (x : GDeriv) : BUL n (xGDeriv x):=⟨bel_xGDeriv n x⟩
theorem fz_xGDeriv (K : Nat) (b : B) (sz : Nat) (x : GDeriv) : fzL K b sz (xGDeriv x) = xGDeriv x:=fzL_bel _ _ _ (bel_xGDeriv K x)
structure GDecision where
 Propx : GProp
 Yes : Bool
def cGDecision (x : GDecision) : List U:=[.int .i64 x.Propx.Kind,.str x.Propx.Name,.int .i64 x.Propx.From,.int .i64 x.Propx.To,.bool x.Yes]
theorem q045 (n : Nat) (x : GDecision) : BelL n (cGDecision x):=by
 simp only [cGDecision,BelL,Bel,true_and,and_true]
theorem q004 (x : GDecision) : (cGDecision x).length = 5:=rfl
instance : BF cGDecision:=⟨q045⟩
instance (n : Nat) (x : GDecision) : BUL n (cGDecision x):=⟨q045 n x⟩
def eqGDecision (x y : GDecision) : Bool:=(((x.Propx.Kind == y.Propx.Kind) && (bytesEq x.Propx.Name y.Propx.Name && ((x.Propx.From == y.Propx.From) && (x.Propx.To == y.Propx.To)))) && (x.Yes == y.Yes))
structure GSession where
 Readings : List GDeriv
 Decisions : List GDecision
 State : Int
def cGSession (x : GSession) : List U:=[.isl false (List.map cGDeriv x.Readings),.isl false (List.map cGDecision x.Decisions),.int .i64 x.State]
theorem bel_cGSession (n : Nat) (x : GSession) : BelL n (cGSession x):=by
 simp only [cGSession,BelL,Bel,true_and,and_true]
 exact ⟨belR_map _ (fun q=>bel_cGDeriv _ q) _,belR_map _ (fun q=>q045 _ q) _⟩
instance (n : Nat) (x : GSession) : BUL n (cGSession x):=⟨bel_cGSession n x⟩
theorem q01k (K : Nat) (b : B) (sz : Nat) (x : GSession) : fzL K b sz (cGSession x) = cGSession x:=fzL_bel _ _ _ (bel_cGSession K x)
structure Gwork where
 Session : GSession
theorem Try.eqs38 : Try.tb.eqs 38 = true:=by kernel_rfl
theorem eqv38 (x y : GProp) : eqv Try.tb 50 38 (.agg ⟨[.int .i64 x.Kind,.string ⟨⟨x.Name⟩⟩,.int .i64 x.From,.int .i64 x.To]⟩) (.agg ⟨[.int .i64 y.Kind,.string ⟨⟨y.Name⟩⟩,.int .i64 y.From,.int .i64 y.To]⟩) = some (eqGProp x y):=by
 simp only [eqv,cond_true,cond_false,eqFs,partX,isAggD,nth,sizeX,List.drop,List.take,List.toList_toArray,eqGProp,ne_eq,String.reduceEq,not_false_eq_true,if_true,Try.und3,Try.und9,Try.und38,Try.eqs38,Try.inf38]
 cases (x.Kind == y.Kind) <;> cases bytesEq x.Name y.Name <;> cases (x.From == y.From) <;> cases (x.To == y.To) <;> rfl
theorem eqq38_eql (x y : GProp) : g2 (binX Try.tb .eql 38) (.agg [.int .i64 x.Kind,.str x.Name,.int .i64 x.From,.int .i64 x.To]) (.agg [.int .i64 y.Kind,.str y.Name,.int .i64 y.From,.int .i64 y.To]) = some (.bool (eqGProp x y)):=by
 simp only [g2,toV,toVL,okL,okC,cond_true,binX,guardX,Try.eqs38,eqv38,ofV]
theorem eqq38_neq (x y : GProp) : g2 (binX Try.tb .neq 38) (.agg [.int .i64 x.Kind,.str x.Name,.int .i64 x.From,.int .i64 x.To]) (.agg [.int .i64 y.Kind,.str y.Name,.int .i64 y.From,.int .i64 y.To]) = some (.bool (!eqGProp x y)):=by
 simp only [g2,toV,toVL,okL,okC,cond_true,binX,guardX,Try.eqs38,eqv38,ofV]
theorem Try.bd27 : BdT Try.tb 27 [.nils,.nils,.int .i64 0] [(0,1),(1,1),(2,1)]:=bdT Try.und27 Try.inf27 rfl (by kernel_rfl)
theorem Try.bd36 : BdT Try.tb 36 [.int .i64 0,.str [],.int .i64 0,.int .i64 0,.nils] [(0,1),(1,1),(2,1),(3,1),(4,1)]:=bdT Try.und36 Try.inf36 rfl (by kernel_rfl)
theorem Try.bd38 : BdT Try.tb 38 [.int .i64 0,.str [],.int .i64 0,.int .i64 0] [(0,1),(1,1),(2,1),(3,1)]:=bdT Try.und38 Try.inf38 rfl (by kernel_rfl)
theorem Try.bd72 : BdT Try.tb 72 [.nils,.nils,.int .i64 0] [(0,3)]:=bdT Try.und72 Try.inf72 rfl (by kernel_rfl)
def q00f (rc1 : Int→Int→Option (Int × Bool)) (z28 : Int) (z29 : Int) : Option (Int × Bool) :=
 rc1 z28 z29
def q00v (p1 : List GProp) (p2 : GProp) (f2 : GProp→GProp→Option (Int)) (z13 : Int) : Option (Int × Bool) :=
 bindO (cond (decide (z13 < (p1.length : Int)))
  (bindO (idxO p1 z13) fun x15 =>
  bindO (f2 x15 p2) fun r17 =>
  some (r17 == 0))
  (some false)) fun b19 =>
 some (z13,b19)
def q000 (p1 : List GProp) (p2 : GProp) (f2 : GProp→GProp→Option (Int)) : Nat→Int→Int→Option (Int × Bool)
 | 0,_,_=>none
 | m1 + 1,z11,z12 =>
  cond (decide (z11 < z12))
   (bindO (idxO p1 (IntKind.i64.wrap ((IntKind.u64.wrap (IntKind.i64.wrap (z11 + z12))).fdiv (2 ^ (min (1 : Int).toNat IntKind.u64.bits))))) fun x23 =>
   bindO (f2 x23 p2) fun r25 =>
   cond (decide (r25 < 0))
    (q00f (q000 p1 p2 f2 m1) (IntKind.i64.wrap ((IntKind.i64.wrap ((IntKind.u64.wrap (IntKind.i64.wrap (z11 + z12))).fdiv (2 ^ (min (1 : Int).toNat IntKind.u64.bits)))) + 1)) z12)
    (q00f (q000 p1 p2 f2 m1) z11 (IntKind.i64.wrap ((IntKind.u64.wrap (IntKind.i64.wrap (z11 + z12))).fdiv (2 ^ (min (1 : Int).toNat IntKind.u64.bits))))))
   (q00v p1 p2 f2 z11)
def q00m (f2 : GProp→GProp→Option (Int)) (n : Nat) (p1 : List GProp) (p2 : GProp) : Option (Int × Bool) :=
 q000 p1 p2 f2 n 0 (p1.length : Int)
theorem q03w (f2 : GProp→GProp→Option (Int)) (hf2 : ∀ (a0 : GProp) (a1 : GProp) (r : Int),f2 a0 a1 = some r→EvU Try.prog 35 [.agg (cGProp a0),.agg (cGProp a1)] ⟨[],0⟩ (fun u _=>u = .int .i64 r∧Bel 0 u)) (n : Nat) (p1 : List GProp) (p2 : GProp) (r : Int × Bool) (hF : q00m f2 n p1 p2 = some r) : EvU Try.prog 65 [.isl false (List.map cGProp p1),.agg (cGProp p2),.fn (.func 35) [] []] ⟨[],0⟩ (fun u _=>u = .tup [.int .i64 r.1,.bool r.2]∧Bel 0 u):=by
 unfold q00m at hF
 have hf2S : ∀ (a0 : GProp) (a1 : GProp) (r : Int),f2 a0 a1 = some r→∀ σ,EvU Try.prog 35 [.agg (cGProp a0),.agg (cGProp a1)] σ (fun u σ'=>u = .int .i64 r∧σ' = σ):=fun a0 a1 r h σ=>EvU.pure1C (hf2 a0 a1 r h) σ
 refine EvU.of_body Try.tb_ok Try.fn65 rfl ?_
 refine WPU.ghost (tm':=fr 49 [(0,.isl false (List.map cGProp p1)),(1,.agg (cGProp p2)),(2,.fn (.func 35) [] [])]) (Gh.start (Nat.le_of_ble_eq_true rfl)) (Nat.zero_le _) ?_
 repeat refine sq ?_
 refine WPU.region Try.tb_ok (RS.op (u:=.ptr 0 0 0) (σ':=⟨[(0,.row (cGProp p2) 38)],1⟩) rfl (op_box rfl rfl rfl) rfl rfl ?_)
 repeat refine RS.as rfl rfl rfl rfl ?_
 refine RS.done ?_
 repeat refine gq ?_
 repeat refine sq ?_
 refine WPU.region Try.tb_ok (RS.mv rfl rfl rfl rfl (RS.op rfl (op_len rfl rfl rfl (len_isl cGProp Try.und33)) rfl rfl (RS.as rfl rfl rfl rfl (RS.done ?_))))
 repeat refine gq ?_
 repeat refine sq ?_
 refine WPU.region Try.tb_ok (RS.mv rfl rfl rfl rfl ?_)
 repeat refine RS.as rfl rfl rfl rfl ?_
 refine RS.done ?_
 repeat refine gq ?_
 repeat refine sq ?_
 refine WPU.ghost (tm':=fr 49 [(0,.isl false (List.map cGProp p1)),(2,.fn (.func 35) [] []),(4,.ptr 0 0 0),(8,.int .i64 (p1.length : Int)),(9,.int .i64 0),(10,.int .i64 (p1.length : Int))]) (Gh.sub ⟨rfl,rfl,rfl,rfl,rfl,rfl,trivial⟩) (Nat.zero_le _) ?_
 refine WPU.loopK (fun m tm σ=>∃ z11 : Int,∃ z12 : Int,q000 p1 p2 f2 m z11 z12 = some r∧tm = fr 49 [(0,.isl false (List.map cGProp p1)),(2,.fn (.func 35) [] []),(4,.ptr 0 0 0),(8,.int .i64 (p1.length : Int)),(9,.int .i64 z11),(10,.int .i64 z12)]∧σ = ⟨[(0,.row (cGProp p2) 38)],1⟩) (fun tm σ=>∃ z13 : Int,q00v p1 p2 f2 z13 = some r∧tm = fr 49 [(0,.isl false (List.map cGProp p1)),(2,.fn (.func 35) [] []),(4,.ptr 0 0 0),(8,.int .i64 (p1.length : Int)),(9,.int .i64 z13)]∧σ = ⟨[(0,.row (cGProp p2) 38)],1⟩) n ⟨0,(p1.length : Int),hF,rfl,rfl⟩ ?_ ?_
 rintro _ _ ⟨z13,hF,rfl,rfl⟩
 unfold q00v at hF
 repeat refine gq ?_
 repeat refine sq ?_
 obtain ⟨b19,h20,hF⟩:=bindO_some hF
 refine WPU.joinK (fun tm σ=>tm = fr 49 [(6,.int .i64 z13),(7,.bool b19)]∧σ = ⟨[(0,.row (cGProp p2) 38)],1⟩) ?_ ?_
 rintro _ _ ⟨rfl,rfl⟩
 repeat refine gq ?_
 repeat refine sq ?_
 refine WPU.ret ?_
 repeat refine gq ?_
 have hr:=Option.some.inj hF
 subst hr
 exact ⟨.inr rfl,[.int .i64 z13,.bool b19],res_t rfl (res_t rfl (res_n)),.tup [.int .i64 z13,.bool b19],⟨[],0⟩,Nat.le_refl _,Gh.toR (.tup [.int .i64 z13,.bool b19]) rfl,rfl,BU.h⟩
 rcases bool_tf (decide (z13 < (p1.length : Int))) with h14 | h14
 replace h20:=cond_t h14 h20
 obtain ⟨x15,h16,h20⟩:=bindO_some h20
 obtain ⟨r17,h18,h20⟩:=bindO_some h20
 replace h20:=Option.some.inj h20
 subst h20
 refine WPU.drawE Try.tb_ok [] (by kernel_rfl) ?_
 repeat refine RD.mv rfl rfl rfl rfl ?_
 refine RD.look rfl (op_int rfl rfl (ix_lss _ _ _) rfl) rfl rfl (RD.mv rfl rfl rfl rfl (RD.look (want1 rfl rfl rfl h14) (op_move rfl) rfl rfl (RD.look (want1 rfl rfl rfl h14) (op_move rfl) rfl rfl (RD.look (want1 rfl rfl rfl h14) (op_move rfl) rfl rfl (RD.look (u:=.iptr (cGProp x15)) (want1 rfl rfl rfl h14) (op_ia rfl rfl (ia_isl cGProp Try.und33 (sz_of Try.inf38) len_cGProp h16 rfl)) rfl rfl (RD.look (u:=.agg (cGProp x15)) (want1 rfl rfl rfl h14) (li_agg Try.und38 rfl (sz_of Try.inf38) rfl rfl) rfl rfl (RD.look (u:=.agg (cGProp p2)) (want1 rfl rfl rfl h14) (ld_agg Try.und38 rfl (sz_of Try.inf38) rfl rfl rfl) rfl rfl ?_)))))))
 refine RD.free (u:=.int .i64 r17) (args:=[.agg (cGProp x15),.agg (cGProp p2)]) (want1 rfl rfl rfl h14) (op_call rfl rfl Try.fn35 Try.hb35 rfl rfl) (fun s=>hf2S x15 p2 r17 h18 s) rfl rfl (RD.look (want1 rfl rfl rfl h14) (op_int rfl rfl (ix_eql _ _ _) rfl) rfl rfl (RD.look (u:=.bool (r17 == 0)) rfl (op_pick1 rfl h14 rfl) rfl rfl ?_))
 repeat refine RD.as rfl rfl rfl rfl ?_
 refine RD.done ⟨by kernel_rfl,trivial,?_⟩
 repeat refine gq ?_
 exact ⟨_,_,⟨rfl,rfl⟩,(Nat.zero_le _),Gh.toC (n1:=1) ⟨rfl,rfl,trivial⟩ rfl (Nat.zero_le _) (by simp)⟩
 replace h20:=cond_f h14 h20
 replace h20:=Option.some.inj h20
 subst h20
 refine WPU.drawE Try.tb_ok [] (by kernel_rfl) ?_
 repeat refine RD.mv rfl rfl rfl rfl ?_
 refine RD.look rfl (op_int rfl rfl (ix_lss _ _ _) rfl) rfl rfl (RD.mv rfl rfl rfl rfl ?_)
 repeat refine RD.no (want0 rfl rfl rfl h14) rfl rfl ?_
 refine RD.look (u:=.bool false) rfl (op_pick0 rfl h14 rfl) rfl rfl ?_
 repeat refine RD.as rfl rfl rfl rfl ?_
 refine RD.done ⟨by kernel_rfl,trivial,?_⟩
 repeat refine gq ?_
 exact ⟨_,_,⟨rfl,rfl⟩,(Nat.zero_le _),Gh.toC (n1:=1) ⟨rfl,rfl,trivial⟩ rfl (Nat.zero_le _) (by simp)⟩
 rintro m1 _ _ ⟨z11,z12,hF,rfl,rfl⟩
 rcases m1 with _ | m1
 cases hF
 unfold q000 at hF
 repeat refine sq ?_
 refine WPU.region Try.tb_ok ?_
 repeat refine RS.mv rfl rfl rfl rfl ?_
 refine RS.op rfl (op_int rfl rfl (ix_lss _ _ _) rfl) rfl rfl (RS.done ?_)
 repeat refine gq ?_
 repeat refine sq ?_
 refine WPU.condS (t:=(decide (z11 < z12))) rfl (fun h21=>?_) (fun h21=>?_)
 replace hF:=cond_t h21 hF
 repeat refine sq ?_
 refine WPU.skip ?_
 repeat refine gq ?_
 repeat refine sq ?_
 refine WPU.block ?_
 repeat refine sq ?_
 refine WPU.region Try.tb_ok ?_
 repeat refine RS.mv rfl rfl rfl rfl ?_
 refine RS.op rfl (op_int rfl rfl (ix_add _ _ _) rfl) rfl rfl ?_
 refine RS.op (u:=.int .u64 (IntKind.u64.wrap (IntKind.i64.wrap (z11 + z12)))) rfl (op_conv rfl rfl (by simp only [convX,Try.und3,Try.und87] <;> rfl) rfl) rfl rfl ?_
 refine RS.op rfl (op_int rfl rfl (ix_shr _ (by decide)) rfl) rfl rfl ?_
 refine RS.op (u:=.int .i64 (IntKind.i64.wrap ((IntKind.u64.wrap (IntKind.i64.wrap (z11 + z12))).fdiv (2 ^ (min (1 : Int).toNat IntKind.u64.bits))))) rfl (op_conv rfl rfl (by simp only [convX,Try.und87,Try.und3] <;> rfl) rfl) rfl rfl ?_
 refine RS.as rfl rfl rfl rfl (RS.done ?_)
 repeat refine gq ?_
 repeat refine sq ?_
 obtain ⟨x23,h24,hF⟩:=bindO_some hF
 obtain ⟨r25,h26,hF⟩:=bindO_some hF
 refine WPU.drawE Try.tb_ok [] (by kernel_rfl) ?_
 repeat refine RD.mv rfl rfl rfl rfl ?_
 refine RD.look (u:=.iptr (cGProp x23)) rfl (op_ia rfl rfl (ia_isl cGProp Try.und33 (sz_of Try.inf38) len_cGProp h24 rfl)) rfl rfl (RD.look (u:=.agg (cGProp x23)) rfl (li_agg Try.und38 rfl (sz_of Try.inf38) rfl rfl) rfl rfl (RD.look (u:=.agg (cGProp p2)) rfl (ld_agg Try.und38 rfl (sz_of Try.inf38) rfl rfl rfl) rfl rfl (RD.free (u:=.int .i64 r25) (args:=[.agg (cGProp x23),.agg (cGProp p2)]) rfl (op_call rfl rfl Try.fn35 Try.hb35 rfl rfl) (fun s=>hf2S x23 p2 r25 h26 s) rfl rfl (RD.look rfl (op_int rfl rfl (ix_lss _ _ _) rfl) rfl rfl ?_))))
 refine RD.done ⟨by kernel_rfl,trivial,?_⟩
 repeat refine gq ?_
 repeat refine sq ?_
 refine WPU.joinK (fun tm σ=>∃ z28 : Int,∃ z29 : Int,q00f (q000 p1 p2 f2 m1) z28 z29 = some r∧tm = fr 49 [(0,.isl false (List.map cGProp p1)),(2,.fn (.func 35) [] []),(4,.ptr 0 0 0),(8,.int .i64 (p1.length : Int)),(9,.int .i64 z28),(10,.int .i64 z29)]∧σ = ⟨[(0,.row (cGProp p2) 38)],1⟩) ?_ ?_
 rintro _ _ ⟨z28,z29,hF,rfl,rfl⟩
 unfold q00f at hF
 repeat refine gq ?_
 exact ⟨m1,_,_,Nat.lt_succ_self _,⟨z28,z29,hF,rfl,rfl⟩,(Nat.zero_le _),Gh.toC (n1:=1) ⟨rfl,rfl,rfl,rfl,rfl,rfl,trivial⟩ rfl (Nat.zero_le _) (by simp)⟩
 refine WPU.condS (t:=(decide (r25 < 0))) rfl (fun h27=>?_) (fun h27=>?_)
 replace hF:=cond_t h27 hF
 repeat refine sq ?_
 refine WPU.region Try.tb_ok (RS.mv rfl rfl rfl rfl (RS.op rfl (op_int rfl rfl (ix_add _ _ _) rfl) rfl rfl (RS.as rfl rfl rfl rfl (RS.done ?_))))
 repeat refine gq ?_
 exact ⟨_,_,⟨(IntKind.i64.wrap ((IntKind.i64.wrap ((IntKind.u64.wrap (IntKind.i64.wrap (z11 + z12))).fdiv (2 ^ (min (1 : Int).toNat IntKind.u64.bits)))) + 1)),z12,hF,rfl,rfl⟩,(Nat.zero_le _),Gh.toC (n1:=1) ⟨rfl,rfl,rfl,rfl,rfl,rfl,trivial⟩ rfl (Nat.zero_le _) (by simp)⟩
 replace hF:=cond_f h27 hF
 repeat refine sq ?_
 refine WPU.region Try.tb_ok (RS.mv rfl rfl rfl rfl (RS.as rfl rfl rfl rfl (RS.done ?_)))
 repeat refine gq ?_
 exact ⟨_,_,⟨z11,(IntKind.i64.wrap ((IntKind.u64.wrap (IntKind.i64.wrap (z11 + z12))).fdiv (2 ^ (min (1 : Int).toNat IntKind.u64.bits)))),hF,rfl,rfl⟩,(Nat.zero_le _),Gh.toC (n1:=1) ⟨rfl,rfl,rfl,rfl,rfl,rfl,trivial⟩ rfl (Nat.zero_le _) (by simp)⟩
 replace hF:=cond_f h21 hF
 repeat refine sq ?_
 refine WPU.exit ?_
 repeat refine gq ?_
 exact ⟨_,_,⟨z11,hF,rfl,rfl⟩,(Nat.zero_le _),Gh.toC (n1:=1) ⟨rfl,rfl,rfl,rfl,rfl,trivial⟩ rfl (Nat.zero_le _) (by simp)⟩
theorem q03r (f2 : GProp→GProp→Option (Int)) (hf2 : ∀ (a0 : GProp) (a1 : GProp) (r : Int),f2 a0 a1 = some r→EvU Try.prog 35 [.agg (cGProp a0),.agg (cGProp a1)] ⟨[],0⟩ (fun u _=>u = .int .i64 r∧Bel 0 u)) (n : Nat) (p1 : List GProp) (p2 : GProp) (r : Int × Bool) (hF : q00m f2 n p1 p2 = some r) (σ : Sg) : EvU Try.prog 65 [.isl false (List.map cGProp p1),.agg (cGProp p2),.fn (.func 35) [] []] σ (fun u σ'=>u = .tup [.int .i64 r.1,.bool r.2]∧σ' = σ) :=
 EvU.pure1C (q03w f2 hf2 n p1 p2 r hF) σ
def q04t   : Option (Int) :=
 some 0
def q02m (p1 : List Int) : Nat→Int→Option (Int)
 | 0,_=>none
 | m1 + 1,z6 =>
  cond (decide (z6 < (p1.length : Int)))
   (bindO (idxO p1 z6) fun x8 =>
   cond (x8 != 0)
    (some x8)
    ((q02m p1 m1) (IntKind.i64.wrap (z6 + 1))))
   (q04t)
def cmp_Or_int (n : Nat) (p1 : List Int) : Option (Int) :=
 q02m p1 n 0
theorem cmp_Or_int_0 (n : Nat) (p1 : List Int) (r : Int) (hF : cmp_Or_int n p1 = some r) : EvU Try.prog 53 [.isl false (List.map (cI .i64) p1)] ⟨[],0⟩ (fun u _=>u = .int .i64 r∧Bel 0 u):=by
 unfold cmp_Or_int at hF
 refine EvU.of_body Try.tb_ok Try.fn53 rfl ?_
 refine WPU.ghost (tm':=fr 18 [(0,.isl false (List.map (cI .i64) p1))]) (Gh.start (Nat.le_of_ble_eq_true rfl)) (Nat.zero_le _) ?_
 repeat refine sq ?_
 refine WPU.region Try.tb_ok (RS.as rfl rfl rfl rfl (RS.done ?_))
 repeat refine gq ?_
 repeat refine sq ?_
 refine WPU.region Try.tb_ok (RS.as rfl rfl rfl rfl (RS.done ?_))
 repeat refine gq ?_
 repeat refine sq ?_
 refine WPU.region Try.tb_ok (RS.mv rfl rfl rfl rfl (RS.op rfl (op_len rfl rfl rfl (len_isl (cI .i64) Try.und43)) rfl rfl (RS.mv rfl rfl rfl rfl (RS.done ?_))))
 repeat refine gq ?_
 repeat refine sq ?_
 refine WPU.ghost (tm':=fr 18 [(3,.int .i64 0),(6,.isl false (List.map (cI .i64) p1)),(7,.int .i64 (p1.length : Int)),(8,.int .i64 0)]) (Gh.sub ⟨rfl,rfl,rfl,rfl,trivial⟩) (Nat.zero_le _) ?_
 refine WPU.loopK (fun m tm σ=>∃ z6 : Int,q02m p1 m z6 = some r∧tm = fr 18 [(3,.int .i64 0),(6,.isl false (List.map (cI .i64) p1)),(7,.int .i64 (p1.length : Int)),(8,.int .i64 z6)]∧σ = ⟨[],0⟩) (fun tm σ=>q04t = some r∧tm = fr 18 [(3,.int .i64 0)]∧σ = ⟨[],0⟩) n ⟨0,hF,rfl,rfl⟩ ?_ ?_
 rintro _ _ ⟨hF,rfl,rfl⟩
 unfold q04t at hF
 repeat refine gq ?_
 repeat refine sq ?_
 refine WPU.region Try.tb_ok (RS.mv rfl rfl rfl rfl (RS.as rfl rfl rfl rfl (RS.done ?_)))
 repeat refine gq ?_
 repeat refine sq ?_
 refine WPU.ret ?_
 repeat refine gq ?_
 have hr:=Option.some.inj hF
 subst hr
 exact ⟨.inr rfl,[.int .i64 0],res_t rfl (res_n),.int .i64 0,⟨[],0⟩,Nat.le_refl _,Gh.toR (.int .i64 0) rfl,rfl,BU.h⟩
 rintro m1 _ _ ⟨z6,hF,rfl,rfl⟩
 rcases m1 with _ | m1
 cases hF
 unfold q02m at hF
 repeat refine sq ?_
 refine WPU.region Try.tb_ok (RS.op rfl (op_int rfl rfl (ix_lss _ _ _) rfl) rfl rfl (RS.done ?_))
 repeat refine gq ?_
 repeat refine sq ?_
 refine WPU.condS (t:=(decide (z6 < (p1.length : Int)))) rfl (fun h7=>?_) (fun h7=>?_)
 replace hF:=cond_t h7 hF
 repeat refine sq ?_
 refine WPU.skip ?_
 repeat refine gq ?_
 repeat refine sq ?_
 refine WPU.block ?_
 repeat refine sq ?_
 obtain ⟨x8,h9,hF⟩:=bindO_some hF
 refine WPU.region Try.tb_ok (RS.op (u:=.iptr [.int .i64 x8]) rfl (op_ia rfl rfl (ia_isl (cI .i64) Try.und43 (sz_of Try.inf3) (len_cI .i64) h9 rfl)) rfl rfl (RS.op (u:=.int .i64 x8) rfl (li_one Try.und3 rfl rfl rfl) rfl rfl (RS.as rfl rfl rfl rfl (RS.done ?_))))
 repeat refine gq ?_
 repeat refine sq ?_
 refine WPU.region Try.tb_ok ?_
 repeat refine RS.mv rfl rfl rfl rfl ?_
 refine RS.op rfl (op_int rfl rfl (ix_neq _ _ _) rfl) rfl rfl (RS.done ?_)
 repeat refine gq ?_
 repeat refine sq ?_
 refine WPU.condS (t:=(x8 != 0)) rfl (fun h10=>?_) (fun h10=>?_)
 replace hF:=cond_t h10 hF
 repeat refine sq ?_
 refine WPU.region Try.tb_ok (RS.mv rfl rfl rfl rfl (RS.as rfl rfl rfl rfl (RS.done ?_)))
 repeat refine gq ?_
 repeat refine sq ?_
 refine WPU.ret ?_
 repeat refine gq ?_
 have hr:=Option.some.inj hF
 subst hr
 exact ⟨.inr rfl,[.int .i64 x8],res_t rfl (res_n),.int .i64 x8,⟨[],0⟩,Nat.le_refl _,Gh.toR (.int .i64 x8) rfl,rfl,BU.h⟩
 replace hF:=cond_f h10 hF
 repeat refine sq ?_
 refine WPU.skip ?_
 repeat refine gq ?_
 repeat refine sq ?_
 refine WPU.region Try.tb_ok (RS.op rfl (op_int rfl rfl (ix_add _ _ _) rfl) rfl rfl (RS.mv rfl rfl rfl rfl (RS.done ?_)))
 repeat refine gq ?_
 exact ⟨m1,_,_,Nat.lt_succ_self _,⟨(IntKind.i64.wrap (z6 + 1)),hF,rfl,rfl⟩,(Nat.zero_le _),Gh.toC (n1:=0) ⟨rfl,rfl,rfl,rfl,trivial⟩ rfl (Nat.zero_le _) (by simp)⟩
 replace hF:=cond_f h7 hF
 repeat refine sq ?_
 refine WPU.exit ?_
 repeat refine gq ?_
 exact ⟨_,_,⟨hF,rfl,rfl⟩,(Nat.zero_le _),Gh.toC (n1:=0) ⟨rfl,trivial⟩ rfl (Nat.zero_le _) (by simp)⟩
def q040 (n : Nat) (p1 : Int) : Option (Bool) :=
 some (p1 != p1)
theorem cmp_isNaN_int_0 (n : Nat) (p1 : Int) (r : Bool) (hF : q040 n p1 = some r) : EvU Try.prog 77 [.int .i64 p1] ⟨[],0⟩ (fun u _=>u = .bool r∧Bel 0 u):=by
 unfold q040 at hF
 refine EvU.of_body Try.tb_ok Try.fn77 rfl ?_
 refine WPU.ghost (tm':=fr 6 [(0,.int .i64 p1)]) (Gh.start (Nat.le_of_ble_eq_true rfl)) (Nat.zero_le _) ?_
 repeat refine sq ?_
 refine WPU.region Try.tb_ok (RS.as rfl rfl rfl rfl (RS.done ?_))
 repeat refine gq ?_
 repeat refine sq ?_
 refine WPU.region Try.tb_ok ?_
 repeat refine RS.mv rfl rfl rfl rfl ?_
 refine RS.op rfl (op_int rfl rfl (ix_neq _ _ _) rfl) rfl rfl (RS.as rfl rfl rfl rfl (RS.done ?_))
 repeat refine gq ?_
 repeat refine sq ?_
 refine WPU.ret ?_
 repeat refine gq ?_
 have hr:=Option.some.inj hF
 subst hr
 exact ⟨.inr rfl,[.bool (p1 != p1)],res_t rfl (res_n),.bool (p1 != p1),⟨[],0⟩,Nat.le_refl _,Gh.toR (.bool (p1 != p1)) rfl,rfl,BU.h⟩
theorem cmp_isNaN_int_ok (n : Nat) (p1 : Int) (r : Bool) (hF : q040 n p1 = some r) (σ : Sg) : EvU Try.prog 77 [.int .i64 p1] σ (fun u σ'=>u = .bool r∧σ' = σ) :=
 EvU.pure1C (cmp_isNaN_int_0 n p1 r hF) σ
def q01d (n : Nat) (p1 : Int) (p2 : Int) : Option (Int) :=
 bindO (q040 n p1) fun r3 =>
 bindO (q040 n p2) fun r5 =>
 cond r3
  (cond r5
   (some 0)
   (some (-1)))
  (cond r5
   (some 1)
   (cond (decide (p1 < p2))
    (some (-1))
    (cond (decide (p1 > p2))
     (some 1)
     (some 0))))
theorem cmp_Compare_int_0 (n : Nat) (p1 : Int) (p2 : Int) (r : Int) (hF : q01d n p1 p2 = some r) : EvU Try.prog 54 [.int .i64 p1,.int .i64 p2] ⟨[],0⟩ (fun u _=>u = .int .i64 r∧Bel 0 u):=by
 unfold q01d at hF
 refine EvU.of_body Try.tb_ok Try.fn54 rfl ?_
 refine WPU.ghost (tm':=fr 20 [(0,.int .i64 p1),(1,.int .i64 p2)]) (Gh.start (Nat.le_of_ble_eq_true rfl)) (Nat.zero_le _) ?_
 repeat refine sq ?_
 refine WPU.region Try.tb_ok (RS.as rfl rfl rfl rfl (RS.done ?_))
 repeat refine gq ?_
 repeat refine sq ?_
 obtain ⟨r3,h4,hF⟩:=bindO_some hF
 refine WPU.region Try.tb_ok (RS.mv rfl rfl rfl rfl (RS.call (u:=.bool r3) (args:=[.int .i64 p1]) rfl (op_call rfl rfl Try.fn77 Try.hb77 rfl rfl) (cmp_isNaN_int_ok n p1 r3 h4 _) rfl rfl (RS.as rfl rfl rfl rfl (RS.done ?_))))
 repeat refine gq ?_
 repeat refine sq ?_
 obtain ⟨r5,h6,hF⟩:=bindO_some hF
 refine WPU.region Try.tb_ok (RS.mv rfl rfl rfl rfl (RS.call (u:=.bool r5) (args:=[.int .i64 p2]) rfl (op_call rfl rfl Try.fn77 Try.hb77 rfl rfl) (cmp_isNaN_int_ok n p2 r5 h6 _) rfl rfl (RS.as rfl rfl rfl rfl (RS.done ?_))))
 repeat refine gq ?_
 repeat refine sq ?_
 refine WPU.region Try.tb_ok (RS.mv rfl rfl rfl rfl (RS.done ?_))
 repeat refine gq ?_
 repeat refine sq ?_
 refine WPU.condS (t:=r3) rfl (fun h7=>?_) (fun h7=>?_)
 replace hF:=cond_t h7 hF
 repeat refine sq ?_
 refine WPU.region Try.tb_ok (RS.mv rfl rfl rfl rfl (RS.done ?_))
 repeat refine gq ?_
 repeat refine sq ?_
 refine WPU.condS (t:=r5) rfl (fun h8=>?_) (fun h8=>?_)
 replace hF:=cond_t h8 hF
 repeat refine sq ?_
 refine WPU.region Try.tb_ok (RS.as rfl rfl rfl rfl (RS.done ?_))
 repeat refine gq ?_
 repeat refine sq ?_
 refine WPU.ret ?_
 repeat refine gq ?_
 have hr:=Option.some.inj hF
 subst hr
 exact ⟨.inr rfl,[.int .i64 0],res_t rfl (res_n),.int .i64 0,⟨[],0⟩,Nat.le_refl _,Gh.toR (.int .i64 0) rfl,rfl,BU.h⟩
 replace hF:=cond_f h8 hF
 repeat refine sq ?_
 refine WPU.skip ?_
 repeat refine gq ?_
 repeat refine sq ?_
 refine WPU.region Try.tb_ok (RS.as rfl rfl rfl rfl (RS.done ?_))
 repeat refine gq ?_
 repeat refine sq ?_
 refine WPU.ret ?_
 repeat refine gq ?_
 have hr:=Option.some.inj hF
 subst hr
 exact ⟨.inr rfl,[.int .i64 (-1)],res_t rfl (res_n),.int .i64 (-1),⟨[],0⟩,Nat.le_refl _,Gh.toR (.int .i64 (-1)) rfl,rfl,BU.h⟩
 replace hF:=cond_f h7 hF
 repeat refine sq ?_
 refine WPU.skip ?_
 repeat refine gq ?_
 repeat refine sq ?_
 refine WPU.region Try.tb_ok (RS.mv rfl rfl rfl rfl (RS.done ?_))
 repeat refine gq ?_
 repeat refine sq ?_
 refine WPU.condS (t:=r5) rfl (fun h9=>?_) (fun h9=>?_)
 replace hF:=cond_t h9 hF
 repeat refine sq ?_
 refine WPU.region Try.tb_ok (RS.as rfl rfl rfl rfl (RS.done ?_))
 repeat refine gq ?_
 repeat refine sq ?_
 refine WPU.ret ?_
 repeat refine gq ?_
 have hr:=Option.some.inj hF
 subst hr
 exact ⟨.inr rfl,[.int .i64 1],res_t rfl (res_n),.int .i64 1,⟨[],0⟩,Nat.le_refl _,Gh.toR (.int .i64 1) rfl,rfl,BU.h⟩
 replace hF:=cond_f h9 hF
 repeat refine sq ?_
 refine WPU.skip ?_
 repeat refine gq ?_
 repeat refine sq ?_
 refine WPU.region Try.tb_ok ?_
 repeat refine RS.mv rfl rfl rfl rfl ?_
 refine RS.op rfl (op_int rfl rfl (ix_lss _ _ _) rfl) rfl rfl (RS.done ?_)
 repeat refine gq ?_
 repeat refine sq ?_
 refine WPU.condS (t:=(decide (p1 < p2))) rfl (fun h10=>?_) (fun h10=>?_)
 replace hF:=cond_t h10 hF
 repeat refine sq ?_
 refine WPU.region Try.tb_ok (RS.as rfl rfl rfl rfl (RS.done ?_))
 repeat refine gq ?_
 repeat refine sq ?_
 refine WPU.ret ?_
 repeat refine gq ?_
 have hr:=Option.some.inj hF
 subst hr
 exact ⟨.inr rfl,[.int .i64 (-1)],res_t rfl (res_n),.int .i64 (-1),⟨[],0⟩,Nat.le_refl _,Gh.toR (.int .i64 (-1)) rfl,rfl,BU.h⟩
 replace hF:=cond_f h10 hF
 repeat refine sq ?_
 refine WPU.skip ?_
 repeat refine gq ?_
 repeat refine sq ?_
 refine WPU.region Try.tb_ok ?_
 repeat refine RS.mv rfl rfl rfl rfl ?_
 refine RS.op rfl (op_int rfl rfl (ix_gtr _ _ _) rfl) rfl rfl (RS.done ?_)
 repeat refine gq ?_
 repeat refine sq ?_
 refine WPU.condS (t:=(decide (p1 > p2))) rfl (fun h11=>?_) (fun h11=>?_)
 replace hF:=cond_t h11 hF
 repeat refine sq ?_
 refine WPU.region Try.tb_ok (RS.as rfl rfl rfl rfl (RS.done ?_))
 repeat refine gq ?_
 repeat refine sq ?_
 refine WPU.ret ?_
 repeat refine gq ?_
 have hr:=Option.some.inj hF
 subst hr
 exact ⟨.inr rfl,[.int .i64 1],res_t rfl (res_n),.int .i64 1,⟨[],0⟩,Nat.le_refl _,Gh.toR (.int .i64 1) rfl,rfl,BU.h⟩
 replace hF:=cond_f h11 hF
 repeat refine sq ?_
 refine WPU.skip ?_
 repeat refine gq ?_
 repeat refine sq ?_
 refine WPU.region Try.tb_ok (RS.as rfl rfl rfl rfl (RS.done ?_))
 repeat refine gq ?_
 repeat refine sq ?_
 refine WPU.ret ?_
 repeat refine gq ?_
 have hr:=Option.some.inj hF
 subst hr
 exact ⟨.inr rfl,[.int .i64 0],res_t rfl (res_n),.int .i64 0,⟨[],0⟩,Nat.le_refl _,Gh.toR (.int .i64 0) rfl,rfl,BU.h⟩
theorem q026 (n : Nat) (p1 : Int) (p2 : Int) (r : Int) (hF : q01d n p1 p2 = some r) (σ : Sg) : EvU Try.prog 54 [.int .i64 p1,.int .i64 p2] σ (fun u σ'=>u = .int .i64 r∧σ' = σ) :=
 EvU.pure1C (cmp_Compare_int_0 n p1 p2 r hF) σ
def q02i (n : Nat) (p1 : List UInt8) : Option (Bool) :=
 some (!bytesEq p1 p1)
theorem cmp_isNaN_string_0 (n : Nat) (p1 : List UInt8) (r : Bool) (hF : q02i n p1 = some r) : EvU Try.prog 78 [.str p1] ⟨[],0⟩ (fun u _=>u = .bool r∧Bel 0 u):=by
 unfold q02i at hF
 refine EvU.of_body Try.tb_ok Try.fn78 rfl ?_
 refine WPU.ghost (tm':=fr 6 [(0,.str p1)]) (Gh.start (Nat.le_of_ble_eq_true rfl)) (Nat.zero_le _) ?_
 repeat refine sq ?_
 refine WPU.region Try.tb_ok (RS.as rfl rfl rfl rfl (RS.done ?_))
 repeat refine gq ?_
 repeat refine sq ?_
 refine WPU.region Try.tb_ok ?_
 repeat refine RS.mv rfl rfl rfl rfl ?_
 refine RS.op (u:=.bool (!bytesEq p1 p1)) rfl (op_str rfl rfl rfl rfl) rfl rfl (RS.as rfl rfl rfl rfl (RS.done ?_))
 repeat refine gq ?_
 repeat refine sq ?_
 refine WPU.ret ?_
 repeat refine gq ?_
 have hr:=Option.some.inj hF
 subst hr
 exact ⟨.inr rfl,[.bool (!bytesEq p1 p1)],res_t rfl (res_n),.bool (!bytesEq p1 p1),⟨[],0⟩,Nat.le_refl _,Gh.toR (.bool (!bytesEq p1 p1)) rfl,rfl,BU.h⟩
theorem q04r (n : Nat) (p1 : List UInt8) (r : Bool) (hF : q02i n p1 = some r) (σ : Sg) : EvU Try.prog 78 [.str p1] σ (fun u σ'=>u = .bool r∧σ' = σ) :=
 EvU.pure1C (cmp_isNaN_string_0 n p1 r hF) σ
def q01u (n : Nat) (p1 : List UInt8) (p2 : List UInt8) : Option (Int) :=
 bindO (q02i n p1) fun r3 =>
 bindO (q02i n p2) fun r5 =>
 cond r3
  (cond r5
   (some 0)
   (some (-1)))
  (cond r5
   (some 1)
   (cond (bytesLt p1 p2)
    (some (-1))
    (cond (!(bytesLt p1 p2 || bytesEq p1 p2))
     (some 1)
     (some 0))))
theorem cmp_Compare_string_0 (n : Nat) (p1 : List UInt8) (p2 : List UInt8) (r : Int) (hF : q01u n p1 p2 = some r) : EvU Try.prog 55 [.str p1,.str p2] ⟨[],0⟩ (fun u _=>u = .int .i64 r∧Bel 0 u):=by
 unfold q01u at hF
 refine EvU.of_body Try.tb_ok Try.fn55 rfl ?_
 refine WPU.ghost (tm':=fr 20 [(0,.str p1),(1,.str p2)]) (Gh.start (Nat.le_of_ble_eq_true rfl)) (Nat.zero_le _) ?_
 repeat refine sq ?_
 refine WPU.region Try.tb_ok (RS.as rfl rfl rfl rfl (RS.done ?_))
 repeat refine gq ?_
 repeat refine sq ?_
 obtain ⟨r3,h4,hF⟩:=bindO_some hF
 refine WPU.region Try.tb_ok (RS.mv rfl rfl rfl rfl (RS.call (u:=.bool r3) (args:=[.str p1]) rfl (op_call rfl rfl Try.fn78 Try.hb78 rfl rfl) (q04r n p1 r3 h4 _) rfl rfl (RS.as rfl rfl rfl rfl (RS.done ?_))))
 repeat refine gq ?_
 repeat refine sq ?_
 obtain ⟨r5,h6,hF⟩:=bindO_some hF
 refine WPU.region Try.tb_ok (RS.mv rfl rfl rfl rfl (RS.call (u:=.bool r5) (args:=[.str p2]) rfl (op_call rfl rfl Try.fn78 Try.hb78 rfl rfl) (q04r n p2 r5 h6 _) rfl rfl (RS.as rfl rfl rfl rfl (RS.done ?_))))
 repeat refine gq ?_
 repeat refine sq ?_
 refine WPU.region Try.tb_ok (RS.mv rfl rfl rfl rfl (RS.done ?_))
 repeat refine gq ?_
 repeat refine sq ?_
 refine WPU.condS (t:=r3) rfl (fun h7=>?_) (fun h7=>?_)
 replace hF:=cond_t h7 hF
 repeat refine sq ?_
 refine WPU.region Try.tb_ok (RS.mv rfl rfl rfl rfl (RS.done ?_))
 repeat refine gq ?_
 repeat refine sq ?_
 refine WPU.condS (t:=r5) rfl (fun h8=>?_) (fun h8=>?_)
 replace hF:=cond_t h8 hF
 repeat refine sq ?_
 refine WPU.region Try.tb_ok (RS.as rfl rfl rfl rfl (RS.done ?_))
 repeat refine gq ?_
 repeat refine sq ?_
 refine WPU.ret ?_
 repeat refine gq ?_
 have hr:=Option.some.inj hF
 subst hr
 exact ⟨.inr rfl,[.int .i64 0],res_t rfl (res_n),.int .i64 0,⟨[],0⟩,Nat.le_refl _,Gh.toR (.int .i64 0) rfl,rfl,BU.h⟩
 replace hF:=cond_f h8 hF
 repeat refine sq ?_
 refine WPU.skip ?_
 repeat refine gq ?_
 repeat refine sq ?_
 refine WPU.region Try.tb_ok (RS.as rfl rfl rfl rfl (RS.done ?_))
 repeat refine gq ?_
 repeat refine sq ?_
 refine WPU.ret ?_
 repeat refine gq ?_
 have hr:=Option.some.inj hF
 subst hr
 exact ⟨.inr rfl,[.int .i64 (-1)],res_t rfl (res_n),.int .i64 (-1),⟨[],0⟩,Nat.le_refl _,Gh.toR (.int .i64 (-1)) rfl,rfl,BU.h⟩
 replace hF:=cond_f h7 hF
 repeat refine sq ?_
 refine WPU.skip ?_
 repeat refine gq ?_
 repeat refine sq ?_
 refine WPU.region Try.tb_ok (RS.mv rfl rfl rfl rfl (RS.done ?_))
 repeat refine gq ?_
 repeat refine sq ?_
 refine WPU.condS (t:=r5) rfl (fun h9=>?_) (fun h9=>?_)
 replace hF:=cond_t h9 hF
 repeat refine sq ?_
 refine WPU.region Try.tb_ok (RS.as rfl rfl rfl rfl (RS.done ?_))
 repeat refine gq ?_
 repeat refine sq ?_
 refine WPU.ret ?_
 repeat refine gq ?_
 have hr:=Option.some.inj hF
 subst hr
 exact ⟨.inr rfl,[.int .i64 1],res_t rfl (res_n),.int .i64 1,⟨[],0⟩,Nat.le_refl _,Gh.toR (.int .i64 1) rfl,rfl,BU.h⟩
 replace hF:=cond_f h9 hF
 repeat refine sq ?_
 refine WPU.skip ?_
 repeat refine gq ?_
 repeat refine sq ?_
 refine WPU.region Try.tb_ok ?_
 repeat refine RS.mv rfl rfl rfl rfl ?_
 refine RS.op (u:=.bool (bytesLt p1 p2)) rfl (op_str rfl rfl rfl rfl) rfl rfl (RS.done ?_)
 repeat refine gq ?_
 repeat refine sq ?_
 refine WPU.condS (t:=(bytesLt p1 p2)) rfl (fun h10=>?_) (fun h10=>?_)
 replace hF:=cond_t h10 hF
 repeat refine sq ?_
 refine WPU.region Try.tb_ok (RS.as rfl rfl rfl rfl (RS.done ?_))
 repeat refine gq ?_
 repeat refine sq ?_
 refine WPU.ret ?_
 repeat refine gq ?_
 have hr:=Option.some.inj hF
 subst hr
 exact ⟨.inr rfl,[.int .i64 (-1)],res_t rfl (res_n),.int .i64 (-1),⟨[],0⟩,Nat.le_refl _,Gh.toR (.int .i64 (-1)) rfl,rfl,BU.h⟩
 replace hF:=cond_f h10 hF
 repeat refine sq ?_
 refine WPU.skip ?_
 repeat refine gq ?_
 repeat refine sq ?_
 refine WPU.region Try.tb_ok ?_
 repeat refine RS.mv rfl rfl rfl rfl ?_
 refine RS.op (u:=.bool (!(bytesLt p1 p2 || bytesEq p1 p2))) rfl (op_str rfl rfl rfl rfl) rfl rfl (RS.done ?_)
 repeat refine gq ?_
 repeat refine sq ?_
 refine WPU.condS (t:=(!(bytesLt p1 p2 || bytesEq p1 p2))) rfl (fun h11=>?_) (fun h11=>?_)
 replace hF:=cond_t h11 hF
 repeat refine sq ?_
 refine WPU.region Try.tb_ok (RS.as rfl rfl rfl rfl (RS.done ?_))
 repeat refine gq ?_
 repeat refine sq ?_
 refine WPU.ret ?_
 repeat refine gq ?_
 have hr:=Option.some.inj hF
 subst hr
 exact ⟨.inr rfl,[.int .i64 1],res_t rfl (res_n),.int .i64 1,⟨[],0⟩,Nat.le_refl _,Gh.toR (.int .i64 1) rfl,rfl,BU.h⟩
 replace hF:=cond_f h11 hF
 repeat refine sq ?_
 refine WPU.skip ?_
 repeat refine gq ?_
 repeat refine sq ?_
 refine WPU.region Try.tb_ok (RS.as rfl rfl rfl rfl (RS.done ?_))
 repeat refine gq ?_
 repeat refine sq ?_
 refine WPU.ret ?_
 repeat refine gq ?_
 have hr:=Option.some.inj hF
 subst hr
 exact ⟨.inr rfl,[.int .i64 0],res_t rfl (res_n),.int .i64 0,⟨[],0⟩,Nat.le_refl _,Gh.toR (.int .i64 0) rfl,rfl,BU.h⟩
theorem q04m (n : Nat) (p1 : List UInt8) (p2 : List UInt8) (r : Int) (hF : q01u n p1 p2 = some r) (σ : Sg) : EvU Try.prog 55 [.str p1,.str p2] σ (fun u σ'=>u = .int .i64 r∧σ' = σ) :=
 EvU.pure1C (cmp_Compare_string_0 n p1 p2 r hF) σ
def disc_order (n : Nat) (p1 : GProp) (p2 : GProp) : Option (Int) :=
 bindO (q01d n p1.From p2.From) fun r3 =>
 bindO (q01d n p1.To p2.To) fun r5 =>
 bindO (q01d n p1.Kind p2.Kind) fun r7 =>
 bindO (q01u n p1.Name p2.Name) fun r9 =>
 bindO (cmp_Or_int n ([r3,r5,r7,r9])) fun r11 =>
 some r11
theorem disc_order_0 (n : Nat) (p1 : GProp) (p2 : GProp) (r : Int) (hF : disc_order n p1 p2 = some r) : EvU Try.prog 35 [.agg (cGProp p1),.agg (cGProp p2)] ⟨[],0⟩ (fun u _=>u = .int .i64 r∧Bel 0 u):=by
 unfold disc_order at hF
 refine EvU.of_body Try.tb_ok Try.fn35 rfl ?_
 refine WPU.ghost (tm':=fr 27 [(0,.agg (cGProp p1)),(1,.agg (cGProp p2))]) (Gh.start (Nat.le_of_ble_eq_true rfl)) (Nat.zero_le _) ?_
 repeat refine sq ?_
 refine WPU.region Try.tb_ok (RS.op (u:=.ptr 0 0 0) (σ':=⟨[(0,.row (cGProp p1) 38)],1⟩) rfl (op_box rfl rfl rfl) rfl rfl (RS.op (u:=.ptr 1 0 0) (σ':=⟨[(1,.row (cGProp p2) 38),(0,.row (cGProp p1) 38)],2⟩) rfl (op_box rfl rfl rfl) rfl rfl (RS.as rfl rfl rfl rfl (RS.done ?_))))
 repeat refine gq ?_
 repeat refine sq ?_
 obtain ⟨r3,h4,hF⟩:=bindO_some hF
 obtain ⟨r5,h6,hF⟩:=bindO_some hF
 obtain ⟨r7,h8,hF⟩:=bindO_some hF
 obtain ⟨r9,h10,hF⟩:=bindO_some hF
 obtain ⟨r11,h12,hF⟩:=bindO_some hF
 refine WPU.drawE Try.tb_ok [] (by kernel_rfl) ?_
 refine RD.look (u:=.ptr 0 0 2) rfl (op_fa Try.und38 rfl (sz_of Try.inf3) rfl rfl rfl) rfl rfl (RD.look (u:=.int .i64 p1.From) rfl (ld_one Try.und3 rfl rfl rfl rfl) rfl rfl (RD.look (u:=.ptr 1 0 2) rfl (op_fa Try.und38 rfl (sz_of Try.inf3) rfl rfl rfl) rfl rfl (RD.look (u:=.int .i64 p2.From) rfl (ld_one Try.und3 rfl rfl rfl rfl) rfl rfl (RD.free (u:=.int .i64 r3) (args:=[.int .i64 p1.From,.int .i64 p2.From]) rfl (op_call rfl rfl Try.fn54 Try.hb54 rfl rfl) (fun s=>q026 n p1.From p2.From r3 h4 s) rfl rfl (RD.look (u:=.ptr 0 0 3) rfl (op_fa Try.und38 rfl (sz_of Try.inf3) rfl rfl rfl) rfl rfl (RD.look (u:=.int .i64 p1.To) rfl (ld_one Try.und3 rfl rfl rfl rfl) rfl rfl (RD.look (u:=.ptr 1 0 3) rfl (op_fa Try.und38 rfl (sz_of Try.inf3) rfl rfl rfl) rfl rfl ?_)))))))
 refine RD.look (u:=.int .i64 p2.To) rfl (ld_one Try.und3 rfl rfl rfl rfl) rfl rfl (RD.free (u:=.int .i64 r5) (args:=[.int .i64 p1.To,.int .i64 p2.To]) rfl (op_call rfl rfl Try.fn54 Try.hb54 rfl rfl) (fun s=>q026 n p1.To p2.To r5 h6 s) rfl rfl (RD.look (u:=.ptr 0 0 0) rfl (op_fa Try.und38 rfl (sz_of Try.inf3) rfl rfl rfl) rfl rfl (RD.look (u:=.int .i64 p1.Kind) rfl (ld_one Try.und3 rfl rfl rfl rfl) rfl rfl (RD.look (u:=.ptr 1 0 0) rfl (op_fa Try.und38 rfl (sz_of Try.inf3) rfl rfl rfl) rfl rfl (RD.look (u:=.int .i64 p2.Kind) rfl (ld_one Try.und3 rfl rfl rfl rfl) rfl rfl (RD.free (u:=.int .i64 r7) (args:=[.int .i64 p1.Kind,.int .i64 p2.Kind]) rfl (op_call rfl rfl Try.fn54 Try.hb54 rfl rfl) (fun s=>q026 n p1.Kind p2.Kind r7 h8 s) rfl rfl (RD.look (u:=.ptr 0 0 1) rfl (op_fa Try.und38 rfl (sz_of Try.inf9) rfl rfl rfl) rfl rfl ?_)))))))
 refine RD.look (u:=.str p1.Name) rfl (ld_one Try.und9 rfl rfl rfl rfl) rfl rfl (RD.look (u:=.ptr 1 0 1) rfl (op_fa Try.und38 rfl (sz_of Try.inf9) rfl rfl rfl) rfl rfl (RD.look (u:=.str p2.Name) rfl (ld_one Try.und9 rfl rfl rfl rfl) rfl rfl (RD.free (u:=.int .i64 r9) (args:=[.str p1.Name,.str p2.Name]) rfl (op_call rfl rfl Try.fn55 Try.hb55 rfl rfl) (fun s=>q04m n p1.Name p2.Name r9 h10 s) rfl rfl (RD.act (u:=.sl 2 0 4 4) (σ':=⟨[(2,.row [.int .i64 r3,.int .i64 r5,.int .i64 r7,.int .i64 r9] 3),(1,.row (cGProp p2) 38),(0,.row (cGProp p1) 38)],3⟩) rfl (op_bsl Try.und43 Try.inf3 rfl rfl rfl rfl rfl rfl rfl) rfl rfl ?_))))
 refine RD.call (u:=.int .i64 r11) (args:=[.sl 2 0 4 4]) rfl (op_call rfl rfl Try.fn53 Try.hb53 rfl rfl) (EvU.view (cmp_Or_int_0 n ([r3,r5,r7,r9]) r11 h12) BUL.h (by simp only [toV,toVL,okL,okC,cond_true] <;> rfl) (fun m=>by simp [ren,renL]) (Gh.fz (tm':=[.isl false (List.map (cI .i64) ([r3,r5,r7,r9]))]) (h':=[(1,.row (cGProp p2) 38),(0,.row (cGProp p1) 38)]) 2 (.row [.int .i64 r3,.int .i64 r5,.int .i64 r7,.int .i64 r9] 3) 1 rfl (by simp) (by simp only [oneU,fzL_nil,fzL_cons,fz_int,fz_bool,fz_str,fz_nils,fz_nilp,fz_nilm,fz_nilf,fz_junk,fz_isl,fz_map,fz_agg,fz_tup,fz_fn,junkT,fz_sl,fz_p0,fz_cGProp,Nat.reduceLeDiff,Nat.reduceMul,List.length_cons,List.length_nil,Nat.reduceAdd] <;> simp only [chunks,List.take,List.drop,List.map,cI,cB,cS,cL]) (by simp only [fzH,fzB,ug,Nat.beq,cond_true,cond_false,oneU,fzL_nil,fzL_cons,fz_int,fz_bool,fz_str,fz_nils,fz_nilp,fz_nilm,fz_nilf,fz_junk,fz_isl,fz_map,fz_agg,fz_tup,fz_fn,junkT,fz_sl,fz_p0,fz_cGProp,Nat.reduceLeDiff,Nat.reduceMul,List.length_cons,List.length_nil,Nat.reduceAdd] <;> simp only [chunks,List.take,List.drop,List.map,cI,cB,cS,cL]))) rfl rfl ?_
 refine RD.as rfl rfl rfl rfl ?_
 refine RD.done ⟨by kernel_rfl,trivial,?_⟩
 repeat refine gq ?_
 repeat refine sq ?_
 refine WPU.ret ?_
 repeat refine gq ?_
 have hr:=Option.some.inj hF
 subst hr
 exact ⟨.inr rfl,[.int .i64 r11],res_t rfl (res_n),.int .i64 r11,⟨[],0⟩,Nat.le_refl _,Gh.toR (.int .i64 r11) rfl,rfl,BU.h⟩
def q04i  (l24 : List GProp) : Option ((List GProp)) :=
 some l24
def q02e (p2 : GDeriv) (self : (List GProp)→GDeriv→Option ((List GProp))) : Nat→Int→(List GProp)→Option ((List GProp))
 | 0,_,_=>none
 | m2 + 1,z21,l22 =>
  cond (decide (z21 < (p2.Kids.length : Int)))
   (bindO (idxO p2.Kids z21) fun x27 =>
   bindO (self l22 x27) fun r29 =>
   (q02e p2 self m2) (IntKind.i64.wrap (z21 + 1)) r29)
   (q04i l22)
def q03k (p2 : GDeriv) (n : Nat) (self : (List GProp)→GDeriv→Option ((List GProp))) (z4 : Int) (l5 : List GProp) : Option ((List GProp)) :=
 q02e p2 self n 0 l5
def q03n (p2 : GDeriv) (n : Nat) (self : (List GProp)→GDeriv→Option ((List GProp))) (z34 : Int) (l35 : List GProp) : Option ((List GProp)) :=
 q03k p2 n self z34 l35
def q03j (p2 : GDeriv) (n : Nat) (self : (List GProp)→GDeriv→Option ((List GProp))) (z39 : Int) (l40 : List GProp) : Option ((List GProp)) :=
 q03n p2 n self z39 l40
def disc_collect_b (n : Nat) (self : (List GProp)→GDeriv→Option ((List GProp))) (p1 : List GProp) (p2 : GDeriv) : Option ((List GProp)) :=
 cond (p2.Kind == 0)
  (needO ((p1.length + 1) * 40 ≤ 140737488355328∧p1.length + 1 ≤ 140737488355328) (
  q03k p2 n self 0 (p1 ++ [(GProp.mk 0 p2.Name p2.From p2.To)])))
  (cond (p2.Kind == 1)
   (needO ((p1.length + 1) * 40 ≤ 140737488355328∧p1.length + 1 ≤ 140737488355328) (
   q03n p2 n self 1 (p1 ++ [(GProp.mk 1 p2.Name p2.From p2.To)])))
   (cond (p2.Kind == 2)
    (needO ((p1.length + 2) * 40 ≤ 140737488355328∧p1.length + 2 ≤ 140737488355328) (
    q03j p2 n self 2 (p1 ++ [(GProp.mk 2 p2.Name p2.From p2.To),(GProp.mk 3 [] p2.From p2.To)])))
    (q03j p2 n self 0 p1)))
def q01l : Nat→(List GProp)→GDeriv→Option ((List GProp))
 | 0,_,_=>none
 | n + 1,p1,p2=>disc_collect_b n (q01l n) p1 p2
theorem disc_collect_0 : ∀ (n : Nat) (p1 : List GProp) (p2 : GDeriv) (r : (List GProp)),q01l n p1 p2 = some r→∀ t0,EvU Try.prog 33 [.vl 0 t0 0 p1.length,.agg (xGDeriv p2)] ⟨[(0,.vec (List.map cGProp p1).flatten 38 4 t0)],1⟩ (fun u σ'=>∃ t,u = .vl 0 t 0 r.length∧σ' = ⟨[(0,.vec (List.map cGProp r).flatten 38 4 t)],1⟩)
 | 0,p1,p2,r,hF=>by cases hF
 | n + 1,p1,p2,r,hF=>by
  have ih:=disc_collect_0 n
  have ihS : ∀ (p1 : List GProp) (p2 : GDeriv) (r : (List GProp)),q01l n p1 p2 = some r→∀ (σ : Sg) {K t0 : Nat},Nat.blt K σ.nx = true→gt σ.h K = some (.vec (List.map cGProp p1).flatten 38 4 t0)→EvU Try.prog 33 [.vl K t0 0 p1.length,.agg (xGDeriv p2)] σ (fun u σ'=>∃ t,u = .vl K t 0 r.length∧σ' = ⟨ug σ.h K (.vec (List.map cGProp r).flatten 38 4 t),σ.nx⟩):=fun p1 p2 r h σ K t0 hK hg=>EvU.acc1 cGProp (BF.h 0) (BUL.h) (ih p1 p2 r h) σ hK hg
  unfold q01l disc_collect_b at hF
  intro t0
  refine EvU.of_body Try.tb_ok Try.fn33 rfl ?_
  refine WPU.ghost (tm':=fr 55 [(0,.vl 0 t0 0 p1.length),(1,.agg (xGDeriv p2))]) (Gh.start (Nat.le_of_ble_eq_true rfl)) (Nat.le_refl _) ?_
  repeat refine sq ?_
  refine WPU.region Try.tb_ok (RS.op (u:=.ptr 1 0 0) (σ':=⟨[(1,.row (xGDeriv p2) 36),(0,.vec (List.map cGProp p1).flatten 38 4 t0)],2⟩) rfl (op_box rfl rfl rfl) rfl rfl (RS.as rfl rfl rfl rfl (RS.done ?_)))
  repeat refine gq ?_
  repeat refine sq ?_
  refine WPU.region Try.tb_ok (RS.op (u:=.ptr 1 0 1) rfl (op_fa Try.und36 rfl (sz_of Try.inf9) rfl rfl rfl) rfl rfl (RS.op (u:=.str p2.Name) rfl (ld_one Try.und9 rfl rfl rfl rfl) rfl rfl (RS.op (u:=.ptr 1 0 2) rfl (op_fa Try.und36 rfl (sz_of Try.inf3) rfl rfl rfl) rfl rfl (RS.op (u:=.int .i64 p2.From) rfl (ld_one Try.und3 rfl rfl rfl rfl) rfl rfl (RS.op (u:=.ptr 1 0 3) rfl (op_fa Try.und36 rfl (sz_of Try.inf3) rfl rfl rfl) rfl rfl (RS.op (u:=.int .i64 p2.To) rfl (ld_one Try.und3 rfl rfl rfl rfl) rfl rfl (RS.op (u:=.agg [.int .i64 0,.str p2.Name,.int .i64 p2.From,.int .i64 p2.To]) rfl (op_bld Try.bd38 rfl rfl rfl) rfl rfl ?_)))))))
  refine RS.op (u:=.ptr 2 0 0) (σ':=⟨[(2,.row [.int .i64 0,.str [],.int .i64 0,.int .i64 0] 38),(1,.row (xGDeriv p2) 36),(0,.vec (List.map cGProp p1).flatten 38 4 t0)],3⟩) rfl (op_alloc Try.inf38 rfl rfl) rfl rfl (RS.opn (u:=.junk) (σ':=⟨[(2,.row [.int .i64 0,.str p2.Name,.int .i64 p2.From,.int .i64 p2.To] 38),(1,.row (xGDeriv p2) 36),(0,.vec (List.map cGProp p1).flatten 38 4 t0)],3⟩) rfl (op_store (sz_of Try.inf38) rfl rfl rfl rfl rfl rfl rfl rfl) rfl (RS.done ?_))
  repeat refine gq ?_
  repeat refine sq ?_
  refine WPU.region Try.tb_ok (RS.op (u:=.ptr 1 0 0) rfl (op_fa Try.und36 rfl (sz_of Try.inf3) rfl rfl rfl) rfl rfl (RS.op (u:=.int .i64 p2.Kind) rfl (ld_one Try.und3 rfl rfl rfl rfl) rfl rfl (RS.done ?_)))
  repeat refine gq ?_
  repeat refine sq ?_
  refine WPU.block ?_
  repeat refine sq ?_
  refine WPU.region Try.tb_ok (RS.op rfl (op_int rfl rfl (ix_eql _ _ _) rfl) rfl rfl (RS.as rfl rfl rfl rfl (RS.done ?_)))
  repeat refine gq ?_
  repeat refine sq ?_
  refine WPU.joinK (fun tm σ=>∃ z4 : Int,∃ l5 : List GProp,∃ t6 : Nat,q03k p2 n (q01l n) z4 l5 = some r∧tm = fr 55 [(0,.vl 0 t6 0 l5.length),(3,.ptr 1 0 0)]∧σ = ⟨[(2,.row [.int .i64 z4,.str p2.Name,.int .i64 p2.From,.int .i64 p2.To] 38),(1,.row (xGDeriv p2) 36),(0,.vec (List.map cGProp l5).flatten 38 4 t6)],3⟩) ?_ ?_
  rintro _ _ ⟨z4,l5,t6,hF,rfl,rfl⟩
  unfold q03k at hF
  repeat refine gq ?_
  repeat refine sq ?_
  refine WPU.region Try.tb_ok (RS.op (u:=.ptr 1 0 4) rfl (op_fa Try.und36 rfl (sz_of Try.inf22) rfl rfl rfl) rfl rfl (RS.op (u:=.isl false (List.map cGDeriv p2.Kids)) rfl (ld_one Try.und22 rfl rfl rfl rfl) rfl rfl (RS.op rfl (op_len rfl rfl rfl (len_isl cGDeriv Try.und22)) rfl rfl (RS.mv rfl rfl rfl rfl (RS.done ?_)))))
  repeat refine gq ?_
  repeat refine sq ?_
  refine WPU.ghost (tm':=fr 55 [(0,.vl 0 t6 0 l5.length),(44,.isl false (List.map cGDeriv p2.Kids)),(45,.int .i64 (p2.Kids.length : Int)),(46,.int .i64 0)]) (Gh.sub ⟨rfl,rfl,rfl,rfl,trivial⟩) (Nat.le_of_ble_eq_true rfl) ?_
  refine WPU.loopK (fun m tm σ=>∃ z21 : Int,∃ l22 : List GProp,∃ t23 : Nat,q02e p2 (q01l n) m z21 l22 = some r∧tm = fr 55 [(0,.vl 0 t23 0 l22.length),(44,.isl false (List.map cGDeriv p2.Kids)),(45,.int .i64 (p2.Kids.length : Int)),(46,.int .i64 z21)]∧σ = ⟨[(2,.row [.int .i64 z4,.str p2.Name,.int .i64 p2.From,.int .i64 p2.To] 38),(1,.row (xGDeriv p2) 36),(0,.vec (List.map cGProp l22).flatten 38 4 t23)],3⟩) (fun tm σ=>∃ l24 : List GProp,∃ t25 : Nat,q04i l24 = some r∧tm = fr 55 [(0,.vl 0 t25 0 l24.length)]∧σ = ⟨[(2,.row [.int .i64 z4,.str p2.Name,.int .i64 p2.From,.int .i64 p2.To] 38),(1,.row (xGDeriv p2) 36),(0,.vec (List.map cGProp l24).flatten 38 4 t25)],3⟩) n ⟨0,l5,t6,hF,rfl,rfl⟩ ?_ ?_
  rintro _ _ ⟨l24,t25,hF,rfl,rfl⟩
  unfold q04i at hF
  repeat refine gq ?_
  repeat refine sq ?_
  refine WPU.region Try.tb_ok (RS.mv rfl rfl rfl rfl (RS.as rfl rfl rfl rfl (RS.done ?_)))
  repeat refine gq ?_
  repeat refine sq ?_
  refine WPU.ret ?_
  repeat refine gq ?_
  have hr:=Option.some.inj hF
  subst hr
  exact ⟨.inr rfl,[.vl 0 t25 0 l24.length],res_t rfl res_n,.vl 0 t25 0 l24.length,⟨[(0,.vec (List.map cGProp l24).flatten 38 4 t25)],1⟩,Nat.le_refl _,Gh.to (n1:=1) [] rfl rfl (Nat.le_refl _) (Nat.le_of_ble_eq_true rfl) BUL.h BH.h,t25,rfl,rfl⟩
  rintro m2 _ _ ⟨z21,l22,t23,hF,rfl,rfl⟩
  rcases m2 with _ | m2
  cases hF
  unfold q02e at hF
  repeat refine sq ?_
  refine WPU.region Try.tb_ok (RS.op rfl (op_int rfl rfl (ix_lss _ _ _) rfl) rfl rfl (RS.done ?_))
  repeat refine gq ?_
  repeat refine sq ?_
  refine WPU.condS (t:=(decide (z21 < (p2.Kids.length : Int)))) rfl (fun h26=>?_) (fun h26=>?_)
  replace hF:=cond_t h26 hF
  repeat refine sq ?_
  refine WPU.skip ?_
  repeat refine gq ?_
  repeat refine sq ?_
  refine WPU.block ?_
  repeat refine sq ?_
  obtain ⟨x27,h28,hF⟩:=bindO_some hF
  refine WPU.region Try.tb_ok (RS.op (u:=.iptr (xGDeriv x27)) rfl (op_ia rfl rfl (ia_isl cGDeriv Try.und22 (sz_of Try.inf36) len_cGDeriv h28 (cGDeriv_eq x27))) rfl rfl (RS.op (u:=.agg (xGDeriv x27)) rfl (li_agg Try.und36 rfl (sz_of Try.inf36) rfl rfl) rfl rfl (RS.op (u:=.ptr 3 0 0) (σ':=⟨[(3,.row [.int .i64 0,.str [],.int .i64 0,.int .i64 0,.nils] 36),(2,.row [.int .i64 z4,.str p2.Name,.int .i64 p2.From,.int .i64 p2.To] 38),(1,.row (xGDeriv p2) 36),(0,.vec (List.map cGProp l22).flatten 38 4 t23)],4⟩) rfl (op_alloc Try.inf36 rfl rfl) rfl rfl (RS.opn (u:=.junk) (σ':=⟨[(3,.row (xGDeriv x27) 36),(2,.row [.int .i64 z4,.str p2.Name,.int .i64 p2.From,.int .i64 p2.To] 38),(1,.row (xGDeriv p2) 36),(0,.vec (List.map cGProp l22).flatten 38 4 t23)],4⟩) rfl (op_store (sz_of Try.inf36) rfl rfl rfl rfl rfl rfl rfl rfl) rfl (RS.done ?_)))))
  repeat refine gq ?_
  repeat refine sq ?_
  obtain ⟨r29,h30,hF⟩:=bindO_some hF
  refine WPU.region Try.tb_ok (RS.mv rfl rfl rfl rfl (RS.op (u:=.agg (xGDeriv x27)) rfl (ld_agg Try.und36 rfl (sz_of Try.inf36) rfl rfl rfl) rfl rfl (RS.callx (args:=[.vl 0 t23 0 l22.length,.agg (xGDeriv x27)]) rfl (op_call rfl rfl Try.fn33 Try.hb33 rfl rfl) (ihS l22 x27 r29 h30 _ rfl rfl) rfl rfl ?_)))
  rintro _ _ ⟨t31,rfl,rfl⟩
  refine RS.as rfl rfl rfl rfl (RS.done ?_)
  repeat refine gq ?_
  repeat refine sq ?_
  refine WPU.region Try.tb_ok (RS.op rfl (op_int rfl rfl (ix_add _ _ _) rfl) rfl rfl (RS.mv rfl rfl rfl rfl (RS.done ?_)))
  repeat refine gq ?_
  exact ⟨m2,_,_,Nat.lt_succ_self _,⟨(IntKind.i64.wrap (z21 + 1)),r29,t31,hF,rfl,rfl⟩,(Nat.le_of_ble_eq_true rfl),Gh.toC (n1:=3) ⟨rfl,rfl,rfl,rfl,trivial⟩ rfl (Nat.le_of_ble_eq_true rfl) (by simp)⟩
  replace hF:=cond_f h26 hF
  repeat refine sq ?_
  refine WPU.exit ?_
  repeat refine gq ?_
  exact ⟨_,_,⟨l22,t23,hF,rfl,rfl⟩,(Nat.le_of_ble_eq_true rfl),Gh.toC (n1:=3) ⟨rfl,trivial⟩ rfl (Nat.le_of_ble_eq_true rfl) (by simp)⟩
  refine WPU.condS (t:=(p2.Kind == 0)) rfl (fun h3=>?_) (fun h3=>?_)
  replace hF:=cond_t h3 hF
  repeat refine sq ?_
  refine WPU.region Try.tb_ok (RS.op (u:=.ptr 2 0 0) rfl (op_fa Try.und38 rfl (sz_of Try.inf3) rfl rfl rfl) rfl rfl (RS.opn (u:=.junk) (σ':=⟨[(2,.row [.int .i64 0,.str p2.Name,.int .i64 p2.From,.int .i64 p2.To] 38),(1,.row (xGDeriv p2) 36),(0,.vec (List.map cGProp p1).flatten 38 4 t0)],3⟩) rfl (op_store (sz_of Try.inf3) rfl rfl rfl rfl rfl rfl rfl rfl) rfl (RS.done ?_)))
  repeat refine gq ?_
  repeat refine sq ?_
  obtain ⟨h32,hF⟩:=needO_some hF
  refine WPU.region Try.tb_ok (RS.mv rfl rfl rfl rfl (RS.op (u:=.agg [.int .i64 0,.str p2.Name,.int .i64 p2.From,.int .i64 p2.To]) rfl (ld_agg Try.und38 rfl (sz_of Try.inf38) rfl rfl rfl) rfl rfl (RS.op (u:=.sl 3 0 1 1) (σ':=⟨[(3,.row [.int .i64 0,.str p2.Name,.int .i64 p2.From,.int .i64 p2.To] 38),(2,.row [.int .i64 0,.str p2.Name,.int .i64 p2.From,.int .i64 p2.To] 38),(1,.row (xGDeriv p2) 36),(0,.vec (List.map cGProp p1).flatten 38 4 t0)],4⟩) rfl (op_bsl Try.und33 Try.inf38 rfl rfl rfl rfl rfl rfl rfl) rfl rfl (RS.op (u:=.vl 0 (t0 + 1) 0 ((p1 ++ [(GProp.mk 0 p2.Name p2.From p2.To)]).length)) (σ':=⟨[(3,.row [.int .i64 0,.str p2.Name,.int .i64 p2.From,.int .i64 p2.To] 38),(2,.row [.int .i64 0,.str p2.Name,.int .i64 p2.From,.int .i64 p2.To] 38),(1,.row (xGDeriv p2) 36),(0,.vec (List.map cGProp (p1 ++ [(GProp.mk 0 p2.Name p2.From p2.To)])).flatten 38 4 (t0 + 1))],4⟩) rfl (op_app rfl rfl rfl rfl (app_vl cGProp ([(GProp.mk 0 p2.Name p2.From p2.To)]) Try.und33 Try.und33 Try.inf38 rfl len_cGProp rfl (src_row cGProp [(GProp.mk 0 p2.Name p2.From p2.To)] rfl rfl rfl rfl) h32)) rfl rfl (RS.as rfl rfl rfl rfl (RS.done ?_))))))
  repeat refine gq ?_
  exact ⟨_,_,⟨0,(p1 ++ [(GProp.mk 0 p2.Name p2.From p2.To)]),(t0 + 1),hF,rfl,rfl⟩,(Nat.le_of_ble_eq_true rfl),Gh.toC (n1:=3) ⟨rfl,rfl,trivial⟩ rfl (Nat.le_of_ble_eq_true rfl) (by simp)⟩
  replace hF:=cond_f h3 hF
  repeat refine sq ?_
  refine WPU.region Try.tb_ok (RS.op rfl (op_int rfl rfl (ix_eql _ _ _) rfl) rfl rfl (RS.as rfl rfl rfl rfl (RS.done ?_)))
  repeat refine gq ?_
  repeat refine sq ?_
  refine WPU.joinK (fun tm σ=>∃ z34 : Int,∃ l35 : List GProp,∃ t36 : Nat,q03n p2 n (q01l n) z34 l35 = some r∧tm = fr 55 [(0,.vl 0 t36 0 l35.length),(3,.ptr 1 0 0)]∧σ = ⟨[(2,.row [.int .i64 z34,.str p2.Name,.int .i64 p2.From,.int .i64 p2.To] 38),(1,.row (xGDeriv p2) 36),(0,.vec (List.map cGProp l35).flatten 38 4 t36)],3⟩) ?_ ?_
  rintro _ _ ⟨z34,l35,t36,hF,rfl,rfl⟩
  unfold q03n at hF
  repeat refine gq ?_
  exact ⟨_,_,⟨z34,l35,t36,hF,rfl,rfl⟩,(Nat.le_of_ble_eq_true rfl),Gh.toC (n1:=3) ⟨rfl,rfl,trivial⟩ rfl (Nat.le_of_ble_eq_true rfl) (by simp)⟩
  refine WPU.condS (t:=(p2.Kind == 1)) rfl (fun h33=>?_) (fun h33=>?_)
  replace hF:=cond_t h33 hF
  repeat refine sq ?_
  refine WPU.region Try.tb_ok (RS.op (u:=.ptr 2 0 0) rfl (op_fa Try.und38 rfl (sz_of Try.inf3) rfl rfl rfl) rfl rfl (RS.opn (u:=.junk) (σ':=⟨[(2,.row [.int .i64 1,.str p2.Name,.int .i64 p2.From,.int .i64 p2.To] 38),(1,.row (xGDeriv p2) 36),(0,.vec (List.map cGProp p1).flatten 38 4 t0)],3⟩) rfl (op_store (sz_of Try.inf3) rfl rfl rfl rfl rfl rfl rfl rfl) rfl (RS.done ?_)))
  repeat refine gq ?_
  repeat refine sq ?_
  obtain ⟨h37,hF⟩:=needO_some hF
  refine WPU.region Try.tb_ok (RS.mv rfl rfl rfl rfl (RS.op (u:=.agg [.int .i64 1,.str p2.Name,.int .i64 p2.From,.int .i64 p2.To]) rfl (ld_agg Try.und38 rfl (sz_of Try.inf38) rfl rfl rfl) rfl rfl (RS.op (u:=.sl 3 0 1 1) (σ':=⟨[(3,.row [.int .i64 1,.str p2.Name,.int .i64 p2.From,.int .i64 p2.To] 38),(2,.row [.int .i64 1,.str p2.Name,.int .i64 p2.From,.int .i64 p2.To] 38),(1,.row (xGDeriv p2) 36),(0,.vec (List.map cGProp p1).flatten 38 4 t0)],4⟩) rfl (op_bsl Try.und33 Try.inf38 rfl rfl rfl rfl rfl rfl rfl) rfl rfl (RS.op (u:=.vl 0 (t0 + 1) 0 ((p1 ++ [(GProp.mk 1 p2.Name p2.From p2.To)]).length)) (σ':=⟨[(3,.row [.int .i64 1,.str p2.Name,.int .i64 p2.From,.int .i64 p2.To] 38),(2,.row [.int .i64 1,.str p2.Name,.int .i64 p2.From,.int .i64 p2.To] 38),(1,.row (xGDeriv p2) 36),(0,.vec (List.map cGProp (p1 ++ [(GProp.mk 1 p2.Name p2.From p2.To)])).flatten 38 4 (t0 + 1))],4⟩) rfl (op_app rfl rfl rfl rfl (app_vl cGProp ([(GProp.mk 1 p2.Name p2.From p2.To)]) Try.und33 Try.und33 Try.inf38 rfl len_cGProp rfl (src_row cGProp [(GProp.mk 1 p2.Name p2.From p2.To)] rfl rfl rfl rfl) h37)) rfl rfl (RS.as rfl rfl rfl rfl (RS.done ?_))))))
  repeat refine gq ?_
  exact ⟨_,_,⟨1,(p1 ++ [(GProp.mk 1 p2.Name p2.From p2.To)]),(t0 + 1),hF,rfl,rfl⟩,(Nat.le_of_ble_eq_true rfl),Gh.toC (n1:=3) ⟨rfl,rfl,trivial⟩ rfl (Nat.le_of_ble_eq_true rfl) (by simp)⟩
  replace hF:=cond_f h33 hF
  repeat refine sq ?_
  refine WPU.region Try.tb_ok (RS.op rfl (op_int rfl rfl (ix_eql _ _ _) rfl) rfl rfl (RS.as rfl rfl rfl rfl (RS.done ?_)))
  repeat refine gq ?_
  repeat refine sq ?_
  refine WPU.joinK (fun tm σ=>∃ z39 : Int,∃ l40 : List GProp,∃ t41 : Nat,q03j p2 n (q01l n) z39 l40 = some r∧tm = fr 55 [(0,.vl 0 t41 0 l40.length),(3,.ptr 1 0 0)]∧σ = ⟨[(2,.row [.int .i64 z39,.str p2.Name,.int .i64 p2.From,.int .i64 p2.To] 38),(1,.row (xGDeriv p2) 36),(0,.vec (List.map cGProp l40).flatten 38 4 t41)],3⟩) ?_ ?_
  rintro _ _ ⟨z39,l40,t41,hF,rfl,rfl⟩
  unfold q03j at hF
  repeat refine gq ?_
  exact ⟨_,_,⟨z39,l40,t41,hF,rfl,rfl⟩,(Nat.le_of_ble_eq_true rfl),Gh.toC (n1:=3) ⟨rfl,rfl,trivial⟩ rfl (Nat.le_of_ble_eq_true rfl) (by simp)⟩
  refine WPU.condS (t:=(p2.Kind == 2)) rfl (fun h38=>?_) (fun h38=>?_)
  replace hF:=cond_t h38 hF
  repeat refine sq ?_
  refine WPU.region Try.tb_ok (RS.op (u:=.ptr 2 0 0) rfl (op_fa Try.und38 rfl (sz_of Try.inf3) rfl rfl rfl) rfl rfl (RS.opn (u:=.junk) (σ':=⟨[(2,.row [.int .i64 2,.str p2.Name,.int .i64 p2.From,.int .i64 p2.To] 38),(1,.row (xGDeriv p2) 36),(0,.vec (List.map cGProp p1).flatten 38 4 t0)],3⟩) rfl (op_store (sz_of Try.inf3) rfl rfl rfl rfl rfl rfl rfl rfl) rfl (RS.done ?_)))
  repeat refine gq ?_
  repeat refine sq ?_
  obtain ⟨h42,hF⟩:=needO_some hF
  refine WPU.region Try.tb_ok (RS.mv rfl rfl rfl rfl (RS.op (u:=.agg [.int .i64 2,.str p2.Name,.int .i64 p2.From,.int .i64 p2.To]) rfl (ld_agg Try.und38 rfl (sz_of Try.inf38) rfl rfl rfl) rfl rfl (RS.op (u:=.ptr 1 0 2) rfl (op_fa Try.und36 rfl (sz_of Try.inf3) rfl rfl rfl) rfl rfl (RS.op (u:=.int .i64 p2.From) rfl (ld_one Try.und3 rfl rfl rfl rfl) rfl rfl (RS.op (u:=.ptr 1 0 3) rfl (op_fa Try.und36 rfl (sz_of Try.inf3) rfl rfl rfl) rfl rfl (RS.op (u:=.int .i64 p2.To) rfl (ld_one Try.und3 rfl rfl rfl rfl) rfl rfl (RS.op (u:=.agg [.int .i64 3,.str [],.int .i64 p2.From,.int .i64 p2.To]) rfl (op_bld Try.bd38 rfl rfl rfl) rfl rfl ?_)))))))
  refine RS.op (u:=.sl 3 0 2 2) (σ':=⟨[(3,.row [.int .i64 2,.str p2.Name,.int .i64 p2.From,.int .i64 p2.To,.int .i64 3,.str [],.int .i64 p2.From,.int .i64 p2.To] 38),(2,.row [.int .i64 2,.str p2.Name,.int .i64 p2.From,.int .i64 p2.To] 38),(1,.row (xGDeriv p2) 36),(0,.vec (List.map cGProp p1).flatten 38 4 t0)],4⟩) rfl (op_bsl Try.und33 Try.inf38 rfl rfl rfl rfl rfl rfl rfl) rfl rfl (RS.op (u:=.vl 0 (t0 + 1) 0 ((p1 ++ [(GProp.mk 2 p2.Name p2.From p2.To),(GProp.mk 3 [] p2.From p2.To)]).length)) (σ':=⟨[(3,.row [.int .i64 2,.str p2.Name,.int .i64 p2.From,.int .i64 p2.To,.int .i64 3,.str [],.int .i64 p2.From,.int .i64 p2.To] 38),(2,.row [.int .i64 2,.str p2.Name,.int .i64 p2.From,.int .i64 p2.To] 38),(1,.row (xGDeriv p2) 36),(0,.vec (List.map cGProp (p1 ++ [(GProp.mk 2 p2.Name p2.From p2.To),(GProp.mk 3 [] p2.From p2.To)])).flatten 38 4 (t0 + 1))],4⟩) rfl (op_app rfl rfl rfl rfl (app_vl cGProp ([(GProp.mk 2 p2.Name p2.From p2.To),(GProp.mk 3 [] p2.From p2.To)]) Try.und33 Try.und33 Try.inf38 rfl len_cGProp rfl (src_row cGProp [(GProp.mk 2 p2.Name p2.From p2.To),(GProp.mk 3 [] p2.From p2.To)] rfl rfl rfl rfl) h42)) rfl rfl (RS.as rfl rfl rfl rfl (RS.done ?_)))
  repeat refine gq ?_
  exact ⟨_,_,⟨2,(p1 ++ [(GProp.mk 2 p2.Name p2.From p2.To),(GProp.mk 3 [] p2.From p2.To)]),(t0 + 1),hF,rfl,rfl⟩,(Nat.le_of_ble_eq_true rfl),Gh.toC (n1:=3) ⟨rfl,rfl,trivial⟩ rfl (Nat.le_of_ble_eq_true rfl) (by simp)⟩
  replace hF:=cond_f h38 hF
  repeat refine sq ?_
  refine WPU.skip ?_
  repeat refine gq ?_
  exact ⟨_,_,⟨0,p1,t0,hF,rfl,rfl⟩,(Nat.le_of_ble_eq_true rfl),Gh.toC (n1:=3) ⟨rfl,rfl,trivial⟩ rfl (Nat.le_of_ble_eq_true rfl) (by simp)⟩
theorem disc_collect_ok (n : Nat) (p1 : List GProp) (p2 : GDeriv) (r : (List GProp)) (hF : q01l n p1 p2 = some r) : ∀ (σ : Sg) {K t0 : Nat},Nat.blt K σ.nx = true→gt σ.h K = some (.vec (List.map cGProp p1).flatten 38 4 t0)→EvU Try.prog 33 [.vl K t0 0 p1.length,.agg (xGDeriv p2)] σ (fun u σ'=>∃ t,u = .vl K t 0 r.length∧σ' = ⟨ug σ.h K (.vec (List.map cGProp r).flatten 38 4 t),σ.nx⟩):=fun σ K t0 hK hg =>
 EvU.acc1 cGProp (BF.h 0) (BUL.h) (disc_collect_0 n p1 p2 r hF) σ hK hg
def q01y (z21 : Int) (rc2 : Int→Int→(List GProp)→Option ((List GProp))) (z35 : Int) (l36 : List GProp) : Option ((List GProp)) :=
 rc2 z35 (IntKind.i64.wrap (z21 + 1)) l36
def q028  (z23 : Int) (l24 : List GProp) : Option ((List GProp)) :=
 needO ((0 : Int) ≤ z23∧z23 ≤ ((l24.length : Nat) : Int)) (
 needO ((0 + z23.toNat) + (l24.length - z23.toNat) ≤ l24.length) (
 needO ((0 : Int) ≤ z23∧z23 ≤ (((clrV l24 (0 + z23.toNat) (l24.length - z23.toNat) (GProp.mk 0 [] 0 0)).length : Nat) : Int)) (
 needO (z23.toNat ≤ (clrV l24 (0 + z23.toNat) (l24.length - z23.toNat) (GProp.mk 0 [] 0 0)).length) (
  some ((clrV l24 (0 + z23.toNat) (l24.length - z23.toNat) (GProp.mk 0 [] 0 0)).take z23.toNat)))))
def q00w (p1 : List GProp) (z6 : Int) : Nat→Int→Int→(List GProp)→Option ((List GProp))
 | 0,_,_,_=>none
 | m2 + 1,z20,z21,l22 =>
  cond (decide (z21 < (((p1.length - z6.toNat) : Nat) : Int)))
   (bindO (idxV l22 (0 + z6.toNat) (p1.length - z6.toNat) z21) fun x30 =>
   bindO (idxV l22 (0 + z6.toNat) (p1.length - z6.toNat) (IntKind.i64.wrap (z21 - 1))) fun x32 =>
   cond (!(eqGProp x30 x32))
    (bindO (idxV l22 (0 + z6.toNat) (p1.length - z6.toNat) z21) fun x37 =>
    bindO (idxO l22 z20) fun x39 =>
    q01y z21 (q00w p1 z6 m2) (IntKind.i64.wrap (z20 + 1)) (l22.set (0 + z20.toNat) x37))
    (q01y z21 (q00w p1 z6 m2) z20 l22))
   (q028 z20 l22)
def q029 (p1 : List GProp)  : Option ((List GProp)) :=
 some p1
def q01g (p1 : List GProp) (n : Nat) : Nat→Int→Option ((List GProp))
 | 0,_=>none
 | m1 + 1,z6 =>
  cond (decide (z6 < (p1.length : Int)))
   (bindO (idxO p1 z6) fun x8 =>
   bindO (idxO p1 (IntKind.i64.wrap (z6 - 1))) fun x10 =>
   cond (eqGProp x8 x10)
    (needO ((0 : Int) ≤ z6∧z6 ≤ ((p1.length : Nat) : Int)) (
    q00w p1 z6 n z6 1 p1))
    ((q01g p1 n m1) (IntKind.i64.wrap (z6 + 1))))
   (q029 p1)
def q023 (n : Nat) (p1 : List GProp) : Option ((List GProp)) :=
 cond (decide ((p1.length : Int) < 2))
  (some p1)
  (q01g p1 n n 1)
theorem slices_Compact_Prop_0 (n : Nat) (p1 : List GProp) (r : (List GProp)) (hF : q023 n p1 = some r) : ∀ t0,EvU Try.prog 36 [.vl 0 t0 0 p1.length] ⟨[(0,.vec (List.map cGProp p1).flatten 38 4 t0)],1⟩ (fun u σ'=>∃ t,u = .vl 0 t 0 r.length∧σ' = ⟨[(0,.vec (List.map cGProp r).flatten 38 4 t)],1⟩):=by
 unfold q023 at hF
 intro t0
 refine EvU.of_body Try.tb_ok Try.fn36 rfl ?_
 refine WPU.ghost (tm':=fr 61 [(0,.vl 0 t0 0 p1.length)]) (Gh.start (Nat.le_of_ble_eq_true rfl)) (Nat.le_refl _) ?_
 repeat refine sq ?_
 refine WPU.region Try.tb_ok (RS.as rfl rfl rfl rfl (RS.done ?_))
 repeat refine gq ?_
 repeat refine sq ?_
 refine WPU.region Try.tb_ok (RS.mv rfl rfl rfl rfl (RS.op rfl (op_len rfl rfl rfl (len_vl Try.und33 rfl)) rfl rfl (RS.op rfl (op_int rfl rfl (ix_lss _ _ _) rfl) rfl rfl (RS.done ?_))))
 repeat refine gq ?_
 repeat refine sq ?_
 refine WPU.condS (t:=(decide ((p1.length : Int) < 2))) rfl (fun h2=>?_) (fun h2=>?_)
 replace hF:=cond_t h2 hF
 repeat refine sq ?_
 refine WPU.region Try.tb_ok (RS.mv rfl rfl rfl rfl (RS.as rfl rfl rfl rfl (RS.done ?_)))
 repeat refine gq ?_
 repeat refine sq ?_
 refine WPU.ret ?_
 repeat refine gq ?_
 have hr:=Option.some.inj hF
 subst hr
 exact ⟨.inr rfl,[.vl 0 t0 0 p1.length],res_t rfl res_n,.vl 0 t0 0 p1.length,⟨[(0,.vec (List.map cGProp p1).flatten 38 4 t0)],1⟩,Nat.le_refl _,Gh.to (n1:=1) [] rfl rfl (Nat.le_refl _) (Nat.le_of_ble_eq_true rfl) BUL.h BH.h,t0,rfl,rfl⟩
 replace hF:=cond_f h2 hF
 repeat refine sq ?_
 refine WPU.skip ?_
 repeat refine gq ?_
 repeat refine sq ?_
 refine WPU.region Try.tb_ok (RS.as rfl rfl rfl rfl (RS.done ?_))
 repeat refine gq ?_
 repeat refine sq ?_
 refine WPU.ghost (tm':=fr 61 [(0,.vl 0 t0 0 p1.length),(3,.int .i64 1)]) (Gh.sub ⟨rfl,rfl,trivial⟩) (Nat.le_of_ble_eq_true rfl) ?_
 refine WPU.loopK (fun m tm σ=>∃ z6 : Int,q01g p1 n m z6 = some r∧tm = fr 61 [(0,.vl 0 t0 0 p1.length),(3,.int .i64 z6)]∧σ = ⟨[(0,.vec (List.map cGProp p1).flatten 38 4 t0)],1⟩) (fun tm σ=>q029 p1 = some r∧tm = fr 61 [(0,.vl 0 t0 0 p1.length)]∧σ = ⟨[(0,.vec (List.map cGProp p1).flatten 38 4 t0)],1⟩) n ⟨1,hF,rfl,rfl⟩ ?_ ?_
 rintro _ _ ⟨hF,rfl,rfl⟩
 unfold q029 at hF
 repeat refine gq ?_
 repeat refine sq ?_
 refine WPU.region Try.tb_ok (RS.mv rfl rfl rfl rfl (RS.as rfl rfl rfl rfl (RS.done ?_)))
 repeat refine gq ?_
 repeat refine sq ?_
 refine WPU.ret ?_
 repeat refine gq ?_
 have hr:=Option.some.inj hF
 subst hr
 exact ⟨.inr rfl,[.vl 0 t0 0 p1.length],res_t rfl res_n,.vl 0 t0 0 p1.length,⟨[(0,.vec (List.map cGProp p1).flatten 38 4 t0)],1⟩,Nat.le_refl _,Gh.to (n1:=1) [] rfl rfl (Nat.le_refl _) (Nat.le_of_ble_eq_true rfl) BUL.h BH.h,t0,rfl,rfl⟩
 rintro m1 _ _ ⟨z6,hF,rfl,rfl⟩
 rcases m1 with _ | m1
 cases hF
 unfold q01g at hF
 repeat refine sq ?_
 refine WPU.region Try.tb_ok ?_
 repeat refine RS.mv rfl rfl rfl rfl ?_
 refine RS.op rfl (op_len rfl rfl rfl (len_vl Try.und33 rfl)) rfl rfl (RS.op rfl (op_int rfl rfl (ix_lss _ _ _) rfl) rfl rfl (RS.done ?_))
 repeat refine gq ?_
 repeat refine sq ?_
 refine WPU.condS (t:=(decide (z6 < (p1.length : Int)))) rfl (fun h7=>?_) (fun h7=>?_)
 replace hF:=cond_t h7 hF
 repeat refine sq ?_
 refine WPU.skip ?_
 repeat refine gq ?_
 repeat refine sq ?_
 refine WPU.block ?_
 repeat refine sq ?_
 obtain ⟨x8,h9,hF⟩:=bindO_some hF
 obtain ⟨x10,h11,hF⟩:=bindO_some hF
 refine WPU.drawE Try.tb_ok [] (by kernel_rfl) ?_
 repeat refine RD.mv rfl rfl rfl rfl ?_
 refine RD.look (u:=.ptr 0 t0 (0 * 4 + z6.toNat * 4)) rfl (op_ia rfl rfl (ia_vl cGProp Try.und33 (sz_of Try.inf38) (by decide) len_cGProp (vo rfl) h9)) rfl rfl ?_
 refine RD.look (u:=.agg (cGProp x8)) rfl (ld_vec cGProp Try.und38 rfl (sz_of Try.inf38) len_cGProp rfl rfl h9 rfl) rfl rfl ?_
 repeat refine RD.mv rfl rfl rfl rfl ?_
 refine RD.look rfl (op_int rfl rfl (ix_sub _ _ _) rfl) rfl rfl ?_
 refine RD.look (u:=.ptr 0 t0 (0 * 4 + (IntKind.i64.wrap (z6 - 1)).toNat * 4)) rfl (op_ia rfl rfl (ia_vl cGProp Try.und33 (sz_of Try.inf38) (by decide) len_cGProp (vo rfl) h11)) rfl rfl ?_
 refine RD.look (u:=.agg (cGProp x10)) rfl (ld_vec cGProp Try.und38 rfl (sz_of Try.inf38) len_cGProp rfl rfl h11 rfl) rfl rfl (RD.look (u:=.bool (eqGProp x8 x10)) rfl (op_bin rfl rfl (eqq38_eql x8 x10)) rfl rfl ?_)
 refine RD.done ⟨by kernel_rfl,trivial,?_⟩
 repeat refine gq ?_
 repeat refine sq ?_
 refine WPU.condS (t:=(eqGProp x8 x10)) rfl (fun h12=>?_) (fun h12=>?_)
 replace hF:=cond_t h12 hF
 repeat refine sq ?_
 obtain ⟨h13,hF⟩:=needO_some hF
 refine WPU.region Try.tb_ok ?_
 repeat refine RS.mv rfl rfl rfl rfl ?_
 refine RS.op (u:=.vl 0 t0 (0 + z6.toNat) (p1.length - z6.toNat)) rfl (op_slice rfl (em_s rfl) em_n em_n (sl_vp cGProp Try.und33 (sz_of Try.inf38) len_cGProp (vo rfl) (Nat.le_of_eq (Nat.zero_add _)) (bnd_lo h13.1 h13.2))) rfl rfl (RS.as rfl rfl rfl rfl (RS.done ?_))
 repeat refine gq ?_
 repeat refine sq ?_
 refine WPU.region Try.tb_ok (RS.as rfl rfl rfl rfl (RS.done ?_))
 repeat refine gq ?_
 repeat refine sq ?_
 refine WPU.ghost (tm':=fr 61 [(0,.vl 0 t0 0 p1.length),(3,.int .i64 z6),(4,.vl 0 t0 (0 + z6.toNat) (p1.length - z6.toNat)),(5,.int .i64 1)]) (Gh.sub ⟨rfl,rfl,rfl,rfl,trivial⟩) (Nat.le_of_ble_eq_true rfl) ?_
 refine WPU.loopK (fun m tm σ=>∃ z20 : Int,∃ z21 : Int,∃ l22 : List GProp,q00w p1 z6 m z20 z21 l22 = some r∧tm = fr 61 [(0,.vl 0 t0 0 l22.length),(3,.int .i64 z20),(4,.vl 0 t0 (0 + z6.toNat) (p1.length - z6.toNat)),(5,.int .i64 z21)]∧σ = ⟨[(0,.vec (List.map cGProp l22).flatten 38 4 t0)],1⟩) (fun tm σ=>∃ z23 : Int,∃ l24 : List GProp,q028 z23 l24 = some r∧tm = fr 61 [(0,.vl 0 t0 0 l24.length),(3,.int .i64 z23)]∧σ = ⟨[(0,.vec (List.map cGProp l24).flatten 38 4 t0)],1⟩) n ⟨z6,1,p1,hF,rfl,rfl⟩ ?_ ?_
 rintro _ _ ⟨z23,l24,hF,rfl,rfl⟩
 unfold q028 at hF
 repeat refine gq ?_
 repeat refine sq ?_
 obtain ⟨h25,hF⟩:=needO_some hF
 obtain ⟨h26,hF⟩:=needO_some hF
 refine WPU.joinK (fun tm σ=>tm = fr 61 [(0,.vl 0 t0 0 ((clrV l24 (0 + z23.toNat) (l24.length - z23.toNat) (GProp.mk 0 [] 0 0)).length)),(3,.int .i64 z23)]∧σ = ⟨[(0,.vec (List.map cGProp (clrV l24 (0 + z23.toNat) (l24.length - z23.toNat) (GProp.mk 0 [] 0 0))).flatten 38 4 t0)],1⟩) ?_ ?_
 rintro _ _ ⟨rfl,rfl⟩
 repeat refine gq ?_
 repeat refine sq ?_
 obtain ⟨h27,hF⟩:=needO_some hF
 refine WPU.region Try.tb_ok ?_
 repeat refine RS.mv rfl rfl rfl rfl ?_
 refine RS.op (u:=.vl 0 t0 0 z23.toNat) rfl (op_slice rfl em_n (em_s rfl) em_n (sl_vp cGProp Try.und33 (sz_of Try.inf38) len_cGProp (vo rfl) (Nat.le_of_eq (Nat.zero_add _)) (bnd_hi h27.1 h27.2))) rfl rfl (RS.as rfl rfl rfl rfl (RS.done ?_))
 repeat refine gq ?_
 repeat refine sq ?_
 refine WPU.ret ?_
 repeat refine gq ?_
 obtain ⟨h28,hF⟩:=needO_some hF
 have hr:=Option.some.inj hF
 subst hr
 exact ⟨.inr rfl,[.vl 0 t0 0 z23.toNat],res_t rfl res_n,.vl 0 t0 0 z23.toNat,⟨[(0,.vec (List.map cGProp ((clrV l24 (0 + z23.toNat) (l24.length - z23.toNat) (GProp.mk 0 [] 0 0)).take z23.toNat)).flatten 38 4 t0)],1⟩,Nat.le_refl _,Gh.trans (Gh.truncL (K:=0) cGProp len_cGProp rfl z23.toNat) (Gh.to (n1:=1) [] rfl rfl (Nat.le_refl _) (Nat.le_of_ble_eq_true rfl) BUL.h BH.h),t0,by rw [List.length_take_of_le h28],rfl⟩
 refine WPU.region Try.tb_ok ?_
 repeat refine RS.mv rfl rfl rfl rfl ?_
 refine RS.op (u:=.vl 0 t0 (0 + z23.toNat) (l24.length - z23.toNat)) rfl (op_slice rfl (em_s rfl) em_n em_n (sl_vp cGProp Try.und33 (sz_of Try.inf38) len_cGProp (vo rfl) (Nat.le_of_eq (Nat.zero_add _)) (bnd_lo h25.1 h25.2))) rfl rfl (RS.opn (u:=.junk) (σ':=⟨[(0,.vec (List.map cGProp (clrV l24 (0 + z23.toNat) (l24.length - z23.toNat) (GProp.mk 0 [] 0 0))).flatten 38 4 t0)],1⟩) rfl (op_clr cGProp rfl rfl rfl Try.und33 Try.inf38 rfl rfl rfl rfl len_cGProp rfl h26 rfl) rfl (RS.done ?_))
 repeat refine gq ?_
 exact ⟨_,_,⟨rfl,rfl⟩,(Nat.le_of_ble_eq_true rfl),Gh.eqS ⟨(by simp only [clrV_len h26]; rfl),rfl,trivial⟩ rfl⟩
 rintro m2 _ _ ⟨z20,z21,l22,hF,rfl,rfl⟩
 rcases m2 with _ | m2
 cases hF
 unfold q00w at hF
 repeat refine sq ?_
 refine WPU.region Try.tb_ok ?_
 repeat refine RS.mv rfl rfl rfl rfl ?_
 refine RS.op rfl (op_len rfl rfl rfl (len_vp Try.und33 rfl)) rfl rfl (RS.op rfl (op_int rfl rfl (ix_lss _ _ _) rfl) rfl rfl (RS.done ?_))
 repeat refine gq ?_
 repeat refine sq ?_
 refine WPU.condS (t:=(decide (z21 < (((p1.length - z6.toNat) : Nat) : Int)))) rfl (fun h29=>?_) (fun h29=>?_)
 replace hF:=cond_t h29 hF
 repeat refine sq ?_
 refine WPU.skip ?_
 repeat refine gq ?_
 repeat refine sq ?_
 refine WPU.block ?_
 repeat refine sq ?_
 obtain ⟨x30,h31,hF⟩:=bindO_some hF
 obtain ⟨x32,h33,hF⟩:=bindO_some hF
 refine WPU.drawE Try.tb_ok [] (by kernel_rfl) ?_
 repeat refine RD.mv rfl rfl rfl rfl ?_
 refine RD.look (u:=.ptr 0 t0 ((0 + z6.toNat) * 4 + z21.toNat * 4)) rfl (op_ia rfl rfl (ia_vp cGProp Try.und33 (sz_of Try.inf38) (by decide) len_cGProp (vo rfl) h31)) rfl rfl ?_
 refine RD.look (u:=.agg (cGProp x30)) rfl (ld_vp cGProp Try.und38 rfl (sz_of Try.inf38) len_cGProp rfl rfl h31 rfl) rfl rfl ?_
 repeat refine RD.mv rfl rfl rfl rfl ?_
 refine RD.look rfl (op_int rfl rfl (ix_sub _ _ _) rfl) rfl rfl ?_
 refine RD.look (u:=.ptr 0 t0 ((0 + z6.toNat) * 4 + (IntKind.i64.wrap (z21 - 1)).toNat * 4)) rfl (op_ia rfl rfl (ia_vp cGProp Try.und33 (sz_of Try.inf38) (by decide) len_cGProp (vo rfl) h33)) rfl rfl ?_
 refine RD.look (u:=.agg (cGProp x32)) rfl (ld_vp cGProp Try.und38 rfl (sz_of Try.inf38) len_cGProp rfl rfl h33 rfl) rfl rfl (RD.look (u:=.bool (!(eqGProp x30 x32))) rfl (op_bin rfl rfl (eqq38_neq x30 x32)) rfl rfl ?_)
 refine RD.done ⟨by kernel_rfl,trivial,?_⟩
 repeat refine gq ?_
 repeat refine sq ?_
 refine WPU.joinK (fun tm σ=>∃ z35 : Int,∃ l36 : List GProp,q01y z21 (q00w p1 z6 m2) z35 l36 = some r∧tm = fr 61 [(0,.vl 0 t0 0 l36.length),(3,.int .i64 z35),(4,.vl 0 t0 (0 + z6.toNat) (p1.length - z6.toNat)),(5,.int .i64 z21)]∧σ = ⟨[(0,.vec (List.map cGProp l36).flatten 38 4 t0)],1⟩) ?_ ?_
 rintro _ _ ⟨z35,l36,hF,rfl,rfl⟩
 unfold q01y at hF
 repeat refine gq ?_
 repeat refine sq ?_
 refine WPU.region Try.tb_ok (RS.mv rfl rfl rfl rfl (RS.op rfl (op_int rfl rfl (ix_add _ _ _) rfl) rfl rfl (RS.as rfl rfl rfl rfl (RS.done ?_))))
 repeat refine gq ?_
 exact ⟨m2,_,_,Nat.lt_succ_self _,⟨z35,(IntKind.i64.wrap (z21 + 1)),l36,hF,rfl,rfl⟩,(Nat.le_of_ble_eq_true rfl),Gh.toC (n1:=1) ⟨rfl,rfl,rfl,rfl,trivial⟩ rfl (Nat.le_of_ble_eq_true rfl) (by simp)⟩
 refine WPU.condS (t:=(!(eqGProp x30 x32))) rfl (fun h34=>?_) (fun h34=>?_)
 replace hF:=cond_t h34 hF
 repeat refine sq ?_
 obtain ⟨x37,h38,hF⟩:=bindO_some hF
 obtain ⟨x39,h40,hF⟩:=bindO_some hF
 refine WPU.joinK (fun tm σ=>tm = fr 61 [(0,.vl 0 t0 0 ((l22.set (0 + z20.toNat) x37).length)),(3,.int .i64 z20),(4,.vl 0 t0 (0 + z6.toNat) (p1.length - z6.toNat)),(5,.int .i64 z21)]∧σ = ⟨[(0,.vec (List.map cGProp (l22.set (0 + z20.toNat) x37)).flatten 38 4 t0)],1⟩) ?_ ?_
 rintro _ _ ⟨rfl,rfl⟩
 repeat refine gq ?_
 repeat refine sq ?_
 refine WPU.region Try.tb_ok (RS.mv rfl rfl rfl rfl (RS.op rfl (op_int rfl rfl (ix_add _ _ _) rfl) rfl rfl (RS.as rfl rfl rfl rfl (RS.done ?_))))
 repeat refine gq ?_
 exact ⟨_,_,⟨(IntKind.i64.wrap (z20 + 1)),(l22.set (0 + z20.toNat) x37),hF,rfl,rfl⟩,(Nat.le_of_ble_eq_true rfl),Gh.toC (n1:=1) ⟨rfl,rfl,rfl,rfl,trivial⟩ rfl (Nat.le_of_ble_eq_true rfl) (by simp)⟩
 refine WPU.region Try.tb_ok ?_
 repeat refine RS.mv rfl rfl rfl rfl ?_
 refine RS.op (u:=.ptr 0 t0 ((0 + z6.toNat) * 4 + z21.toNat * 4)) rfl (op_ia rfl rfl (ia_vp cGProp Try.und33 (sz_of Try.inf38) (by decide) len_cGProp (vo rfl) h38)) rfl rfl ?_
 refine RS.op (u:=.agg (cGProp x37)) rfl (ld_vp cGProp Try.und38 rfl (sz_of Try.inf38) len_cGProp rfl rfl h38 rfl) rfl rfl ?_
 refine RS.op (u:=.ptr 0 t0 (0 * 4 + z20.toNat * 4)) rfl (op_ia rfl rfl (ia_vl cGProp Try.und33 (sz_of Try.inf38) (by decide) len_cGProp (vo rfl) h40)) rfl rfl ?_
 refine RS.opn (u:=.junk) (σ':=⟨[(0,.vec (List.map cGProp (l22.set (0 + z20.toNat) x37)).flatten 38 4 t0)],1⟩) rfl (st_vp cGProp (sz_of Try.inf38) len_cGProp rfl rfl rfl rfl rfl rfl rfl (idxO_V h40) rfl) rfl (RS.done ?_)
 repeat refine gq ?_
 exact ⟨_,_,⟨rfl,rfl⟩,(Nat.le_of_ble_eq_true rfl),Gh.eqS ⟨(by simp only [List.length_set]; rfl),rfl,rfl,rfl,trivial⟩ rfl⟩
 replace hF:=cond_f h34 hF
 repeat refine sq ?_
 refine WPU.skip ?_
 repeat refine gq ?_
 exact ⟨_,_,⟨z20,l22,hF,rfl,rfl⟩,(Nat.le_of_ble_eq_true rfl),Gh.toC (n1:=1) ⟨rfl,rfl,rfl,rfl,trivial⟩ rfl (Nat.le_of_ble_eq_true rfl) (by simp)⟩
 replace hF:=cond_f h29 hF
 repeat refine sq ?_
 refine WPU.exit ?_
 repeat refine gq ?_
 exact ⟨_,_,⟨z20,l22,hF,rfl,rfl⟩,(Nat.le_of_ble_eq_true rfl),Gh.toC (n1:=1) ⟨rfl,rfl,trivial⟩ rfl (Nat.le_of_ble_eq_true rfl) (by simp)⟩
 replace hF:=cond_f h12 hF
 repeat refine sq ?_
 refine WPU.skip ?_
 repeat refine gq ?_
 repeat refine sq ?_
 refine WPU.region Try.tb_ok (RS.mv rfl rfl rfl rfl (RS.op rfl (op_int rfl rfl (ix_add _ _ _) rfl) rfl rfl (RS.as rfl rfl rfl rfl (RS.done ?_))))
 repeat refine gq ?_
 exact ⟨m1,_,_,Nat.lt_succ_self _,⟨(IntKind.i64.wrap (z6 + 1)),hF,rfl,rfl⟩,(Nat.le_of_ble_eq_true rfl),Gh.toC (n1:=1) ⟨rfl,rfl,trivial⟩ rfl (Nat.le_of_ble_eq_true rfl) (by simp)⟩
 replace hF:=cond_f h7 hF
 repeat refine sq ?_
 refine WPU.exit ?_
 repeat refine gq ?_
 exact ⟨_,_,⟨hF,rfl,rfl⟩,(Nat.le_of_ble_eq_true rfl),Gh.toC (n1:=1) ⟨rfl,trivial⟩ rfl (Nat.le_of_ble_eq_true rfl) (by simp)⟩
theorem slices_Compact_Prop_ok (n : Nat) (p1 : List GProp) (r : (List GProp)) (hF : q023 n p1 = some r) : ∀ (σ : Sg) {K t0 : Nat},Nat.blt K σ.nx = true→gt σ.h K = some (.vec (List.map cGProp p1).flatten 38 4 t0)→EvU Try.prog 36 [.vl K t0 0 p1.length] σ (fun u σ'=>∃ t,u = .vl K t 0 r.length∧σ' = ⟨ug σ.h K (.vec (List.map cGProp r).flatten 38 4 t),σ.nx⟩):=fun σ K t0 hK hg =>
 EvU.acc1 cGProp (BF.h 0) (BUL.h) (slices_Compact_Prop_0 n p1 r hF) σ hK hg
def q035 (n : Nat) (p1 : Int) : Option ((List GProp)) :=
 cond (decide (p1 < 0))
  (none)
  (cond (decide ((IntKind.i64.wrap (p1 - 0)) > 0))
   (needO (0 < (IntKind.i64.wrap (p1 - 0))∧(IntKind.i64.wrap (p1 - 0)).toNat * 40 ≤ 140737488355328∧(IntKind.i64.wrap (p1 - 0)).toNat ≤ 140737488355328) (
   needO (0 + (IntKind.i64.wrap (p1 - 0)).toNat ≤ (List.replicate (IntKind.i64.wrap (p1 - 0)).toNat (GProp.mk 0 [] 0 0)).length) (
   needO ((0 : Int) ≤ 0∧0 ≤ (((IntKind.i64.wrap (p1 - 0)).toNat : Nat) : Int)) (
   needO (0 ≤ (List.replicate (IntKind.i64.wrap (p1 - 0)).toNat (GProp.mk 0 [] 0 0)).length) (
    some ((List.replicate (IntKind.i64.wrap (p1 - 0)).toNat (GProp.mk 0 [] 0 0)).take 0))))))
   (some ([] : List GProp)))
theorem slices_Grow_Prop_0 (n : Nat) (p1 : Int) (r : (List GProp)) (hF : q035 n p1 = some r) : EvU Try.prog 97 [.nils,.int .i64 p1] ⟨[],0⟩ (fun u σ'=>∃ t,u = .vl 0 t 0 r.length∧σ' = ⟨[(0,.vec (List.map cGProp r).flatten 38 4 t)],0 + 1⟩):=by
 unfold q035 at hF
 refine EvU.of_body Try.tb_ok Try.fn97 rfl ?_
 refine WPU.ghost (tm':=fr 27 [(0,.nils),(1,.int .i64 p1)]) (Gh.start (Nat.le_of_ble_eq_true rfl)) (Nat.zero_le _) ?_
 repeat refine sq ?_
 refine WPU.region Try.tb_ok (RS.as rfl rfl rfl rfl (RS.done ?_))
 repeat refine gq ?_
 repeat refine sq ?_
 refine WPU.region Try.tb_ok (RS.mv rfl rfl rfl rfl (RS.op rfl (op_int rfl rfl (ix_lss _ _ _) rfl) rfl rfl (RS.done ?_)))
 repeat refine gq ?_
 repeat refine sq ?_
 refine WPU.condS (t:=(decide (p1 < 0))) rfl (fun h2=>?_) (fun h2=>?_)
 replace hF:=cond_t h2 hF
 cases hF
 replace hF:=cond_f h2 hF
 repeat refine sq ?_
 refine WPU.skip ?_
 repeat refine gq ?_
 repeat refine sq ?_
 refine WPU.region Try.tb_ok ?_
 repeat refine RS.mv rfl rfl rfl rfl ?_
 refine RS.op (u:=.int .i64 0) rfl (op_cap0 rfl rfl rfl Try.und33) rfl rfl (RS.mv rfl rfl rfl rfl ?_)
 refine RS.op (u:=.int .i64 0) rfl (op_len rfl rfl rfl (by simp only [lenU,Try.und33])) rfl rfl ?_
 refine RS.op rfl (op_int rfl rfl (ix_sub _ _ _) rfl) rfl rfl (RS.op rfl (op_int rfl rfl (ix_sub _ _ _) rfl) rfl rfl (RS.as rfl rfl rfl rfl (RS.done ?_)))
 repeat refine gq ?_
 repeat refine sq ?_
 refine WPU.region Try.tb_ok (RS.mv rfl rfl rfl rfl (RS.op rfl (op_int rfl rfl (ix_gtr _ _ _) rfl) rfl rfl (RS.done ?_)))
 repeat refine gq ?_
 repeat refine sq ?_
 refine WPU.condS (t:=(decide ((IntKind.i64.wrap (p1 - 0)) > 0))) rfl (fun h3=>?_) (fun h3=>?_)
 replace hF:=cond_t h3 hF
 repeat refine sq ?_
 obtain ⟨h4,hF⟩:=needO_some hF
 obtain ⟨h5,hF⟩:=needO_some hF
 obtain ⟨h6,hF⟩:=needO_some hF
 refine WPU.region Try.tb_ok ?_
 repeat refine RS.mv rfl rfl rfl rfl ?_
 refine RS.op (u:=.int .i64 0) rfl (op_cap0 rfl rfl rfl Try.und33) rfl rfl ?_
 refine RS.op (u:=.nils) rfl (op_slice rfl em_n (em_s rfl) em_n (by simp only [sliceU,Try.und33,sizeX,Try.inf38]; rfl)) rfl rfl ?_
 refine RS.mv rfl rfl rfl rfl (RS.op (u:=.vl 0 0 0 ((IntKind.i64.wrap (p1 - 0)).toNat)) (σ':=⟨[(0,.vec (List.map cGProp (List.replicate (IntKind.i64.wrap (p1 - 0)).toNat (GProp.mk 0 [] 0 0))).flatten 38 4 0)],1⟩) rfl (op_appm cGProp (GProp.mk 0 [] 0 0) rfl rfl rfl rfl Try.und33 Try.und3 Try.inf38 rfl rfl rfl rfl h4) rfl rfl (RS.mv rfl rfl rfl rfl ?_))
 refine RS.op (u:=.int .i64 0) rfl (op_len rfl rfl rfl (by simp only [lenU,Try.und33])) rfl rfl ?_
 refine RS.op (u:=.vl 0 0 0 0) rfl (op_slice rfl em_n (em_s rfl) em_n (sl_vp cGProp Try.und33 (sz_of Try.inf38) len_cGProp (vo rfl) h5 (bnd_hi h6.1 h6.2))) rfl rfl (RS.as rfl rfl rfl rfl (RS.done ?_))
 repeat refine gq ?_
 repeat refine sq ?_
 refine WPU.region Try.tb_ok (RS.mv rfl rfl rfl rfl (RS.as rfl rfl rfl rfl (RS.done ?_)))
 repeat refine gq ?_
 repeat refine sq ?_
 refine WPU.ret ?_
 repeat refine gq ?_
 obtain ⟨h7,hF⟩:=needO_some hF
 have hr:=Option.some.inj hF
 subst hr
 exact ⟨.inr rfl,[.vl 0 0 0 0],res_t rfl res_n,.vl 0 0 0 0,⟨[(0,.vec (List.map cGProp ((List.replicate (IntKind.i64.wrap (p1 - 0)).toNat (GProp.mk 0 [] 0 0)).take 0)).flatten 38 4 0)],1⟩,(Nat.zero_le _),Gh.trans (Gh.truncL (K:=0) cGProp len_cGProp rfl 0) (Gh.trans (Gh.only (fun k=>Nat.beq k 0)) (Gh.to (n1:=1) [] rfl rfl (Nat.zero_le _) (Nat.le_of_ble_eq_true rfl) BUL.h BH.h)),0,(by rw [List.length_take_of_le h7]),rfl⟩
 replace hF:=cond_f h3 hF
 repeat refine sq ?_
 refine WPU.skip ?_
 repeat refine gq ?_
 repeat refine sq ?_
 refine WPU.region Try.tb_ok (RS.mv rfl rfl rfl rfl (RS.as rfl rfl rfl rfl (RS.done ?_)))
 repeat refine gq ?_
 repeat refine sq ?_
 refine WPU.ret ?_
 repeat refine gq ?_
 have hr:=Option.some.inj hF
 subst hr
 exact ⟨.inr rfl,[.nils],res_t rfl res_n,.vl 0 0 0 0,⟨[(0,.vec (List.map cGProp ([] : List GProp)).flatten 38 4 0)],1⟩,(Nat.zero_le _),Gh.trans (Gh.nilvec (tm:=[.nils]) 0 38 4 (by decide) (Nat.zero_le _) rfl) (Gh.trans (Gh.only (fun k=>Nat.beq k 0)) (Gh.to (n1:=1) [] rfl rfl (Nat.zero_le _) (Nat.le_of_ble_eq_true rfl) BUL.h BH.h)),0,rfl,rfl⟩
def q02g  (l21 : List GProp) : Option ((List GProp)) :=
 some l21
def q01m (p1 : List (List GProp)) : Nat→Int→(List GProp)→Option ((List GProp))
 | 0,_,_=>none
 | m2 + 1,z18,l19 =>
  cond (decide (z18 < (p1.length : Int)))
   (bindO (idxO p1 z18) fun x24 =>
   needO ((l19.length + x24.length) * 40 ≤ 140737488355328∧l19.length + x24.length ≤ 140737488355328) (
   (q01m p1 m2) (IntKind.i64.wrap (z18 + 1)) (l19 ++ x24)))
   (q02g l19)
def q02f (p1 : List (List GProp)) (n : Nat) (z9 : Int) : Option ((List GProp)) :=
 bindO (q035 n z9) fun r10 =>
 q01m p1 n 0 r10
def q01n (p1 : List (List GProp)) (n : Nat) : Nat→Int→Int→Option ((List GProp))
 | 0,_,_=>none
 | m1 + 1,z7,z8 =>
  cond (decide (z8 < (p1.length : Int)))
   (bindO (idxO p1 z8) fun x28 =>
   cond (decide ((IntKind.i64.wrap (z7 + (x28.length : Int))) < 0))
    (none)
    ((q01n p1 n m1) (IntKind.i64.wrap (z7 + (x28.length : Int))) (IntKind.i64.wrap (z8 + 1))))
   (q02f p1 n z7)
def q02j (n : Nat) (p1 : List (List GProp)) : Option ((List GProp)) :=
 q01n p1 n n 0 0
theorem slices_Concat_Prop_0 (n : Nat) (p1 : List (List GProp)) (r : (List GProp)) (hF : q02j n p1 = some r) : EvU Try.prog 87 [.isl false (List.map (cL cGProp) p1)] ⟨[],0⟩ (fun u σ'=>∃ t,u = .vl 0 t 0 r.length∧σ' = ⟨[(0,.vec (List.map cGProp r).flatten 38 4 t)],0 + 1⟩):=by
 unfold q02j at hF
 refine EvU.of_body Try.tb_ok Try.fn87 rfl ?_
 refine WPU.ghost (tm':=fr 36 [(0,.isl false (List.map (cL cGProp) p1))]) (Gh.start (Nat.le_of_ble_eq_true rfl)) (Nat.zero_le _) ?_
 repeat refine sq ?_
 refine WPU.region Try.tb_ok (RS.as rfl rfl rfl rfl (RS.done ?_))
 repeat refine gq ?_
 repeat refine sq ?_
 refine WPU.region Try.tb_ok (RS.as rfl rfl rfl rfl (RS.done ?_))
 repeat refine gq ?_
 repeat refine sq ?_
 refine WPU.region Try.tb_ok (RS.mv rfl rfl rfl rfl (RS.op rfl (op_len rfl rfl rfl (len_isl (cL cGProp) Try.und82)) rfl rfl (RS.mv rfl rfl rfl rfl (RS.done ?_))))
 repeat refine gq ?_
 repeat refine sq ?_
 refine WPU.ghost (tm':=fr 36 [(0,.isl false (List.map (cL cGProp) p1)),(3,.int .i64 0),(9,.isl false (List.map (cL cGProp) p1)),(10,.int .i64 (p1.length : Int)),(11,.int .i64 0)]) (Gh.sub ⟨rfl,rfl,rfl,rfl,rfl,trivial⟩) (Nat.zero_le _) ?_
 refine WPU.loopK (fun m tm σ=>∃ z7 : Int,∃ z8 : Int,q01n p1 n m z7 z8 = some r∧tm = fr 36 [(0,.isl false (List.map (cL cGProp) p1)),(3,.int .i64 z7),(9,.isl false (List.map (cL cGProp) p1)),(10,.int .i64 (p1.length : Int)),(11,.int .i64 z8)]∧σ = ⟨[],0⟩) (fun tm σ=>∃ z9 : Int,q02f p1 n z9 = some r∧tm = fr 36 [(0,.isl false (List.map (cL cGProp) p1)),(3,.int .i64 z9)]∧σ = ⟨[],0⟩) n ⟨0,0,hF,rfl,rfl⟩ ?_ ?_
 rintro _ _ ⟨z9,hF,rfl,rfl⟩
 unfold q02f at hF
 repeat refine gq ?_
 repeat refine sq ?_
 obtain ⟨r10,h11,hF⟩:=bindO_some hF
 refine WPU.region Try.tb_ok (RS.mv rfl rfl rfl rfl ?_)
 refine RS.callx (R:=fun u σ'=>∃ t12,u = .vl 0 t12 0 r10.length∧σ' = ⟨[(0,.vec (List.map cGProp r10).flatten 38 4 t12)],1⟩) (args:=[.nils,.int .i64 z9]) rfl (op_call rfl rfl Try.fn97 Try.hb97 rfl rfl) (EvU.own1 cGProp (slices_Grow_Prop_0 n z9 r10 h11) _ 0 rfl) rfl rfl ?_
 rintro _ _ ⟨t12,rfl,rfl⟩
 refine RS.as rfl rfl rfl rfl (RS.done ?_)
 repeat refine gq ?_
 repeat refine sq ?_
 refine WPU.region Try.tb_ok (RS.mv rfl rfl rfl rfl (RS.op rfl (op_len rfl rfl rfl (len_isl (cL cGProp) Try.und82)) rfl rfl (RS.mv rfl rfl rfl rfl (RS.done ?_))))
 repeat refine gq ?_
 repeat refine sq ?_
 refine WPU.ghost (tm':=fr 36 [(6,.vl 0 t12 0 r10.length),(25,.isl false (List.map (cL cGProp) p1)),(26,.int .i64 (p1.length : Int)),(27,.int .i64 0)]) (Gh.sub ⟨rfl,rfl,rfl,rfl,trivial⟩) (Nat.zero_le _) ?_
 refine WPU.loopK (fun m tm σ=>∃ z18 : Int,∃ l19 : List GProp,∃ t20 : Nat,q01m p1 m z18 l19 = some r∧tm = fr 36 [(6,.vl 0 t20 0 l19.length),(25,.isl false (List.map (cL cGProp) p1)),(26,.int .i64 (p1.length : Int)),(27,.int .i64 z18)]∧σ = ⟨[(0,.vec (List.map cGProp l19).flatten 38 4 t20)],1⟩) (fun tm σ=>∃ l21 : List GProp,∃ t22 : Nat,q02g l21 = some r∧tm = fr 36 [(6,.vl 0 t22 0 l21.length)]∧σ = ⟨[(0,.vec (List.map cGProp l21).flatten 38 4 t22)],1⟩) n ⟨0,r10,t12,hF,rfl,rfl⟩ ?_ ?_
 rintro _ _ ⟨l21,t22,hF,rfl,rfl⟩
 unfold q02g at hF
 repeat refine gq ?_
 repeat refine sq ?_
 refine WPU.region Try.tb_ok (RS.mv rfl rfl rfl rfl (RS.as rfl rfl rfl rfl (RS.done ?_)))
 repeat refine gq ?_
 repeat refine sq ?_
 refine WPU.ret ?_
 repeat refine gq ?_
 have hr:=Option.some.inj hF
 subst hr
 exact ⟨.inr rfl,[.vl 0 t22 0 l21.length],res_t rfl res_n,.vl 0 t22 0 l21.length,⟨[(0,.vec (List.map cGProp l21).flatten 38 4 t22)],1⟩,(Nat.zero_le _),Gh.trans (Gh.only (fun k=>Nat.beq k 0)) (Gh.to (n1:=1) [] rfl rfl (Nat.zero_le _) (Nat.le_of_ble_eq_true rfl) BUL.h BH.h),t22,rfl,rfl⟩
 rintro m2 _ _ ⟨z18,l19,t20,hF,rfl,rfl⟩
 rcases m2 with _ | m2
 cases hF
 unfold q01m at hF
 repeat refine sq ?_
 refine WPU.region Try.tb_ok (RS.op rfl (op_int rfl rfl (ix_lss _ _ _) rfl) rfl rfl (RS.done ?_))
 repeat refine gq ?_
 repeat refine sq ?_
 refine WPU.condS (t:=(decide (z18 < (p1.length : Int)))) rfl (fun h23=>?_) (fun h23=>?_)
 replace hF:=cond_t h23 hF
 repeat refine sq ?_
 refine WPU.skip ?_
 repeat refine gq ?_
 repeat refine sq ?_
 refine WPU.block ?_
 repeat refine sq ?_
 obtain ⟨x24,h25,hF⟩:=bindO_some hF
 refine WPU.region Try.tb_ok (RS.op (u:=.iptr [.isl false (List.map cGProp x24)]) rfl (op_ia rfl rfl (ia_isl (cL cGProp) Try.und82 (sz_of Try.inf33) (len_cL cGProp) h25 rfl)) rfl rfl (RS.op (u:=.isl false (List.map cGProp x24)) rfl (li_one Try.und33 rfl rfl rfl) rfl rfl (RS.as rfl rfl rfl rfl (RS.done ?_))))
 repeat refine gq ?_
 repeat refine sq ?_
 obtain ⟨h26,hF⟩:=needO_some hF
 refine WPU.region Try.tb_ok ?_
 repeat refine RS.mv rfl rfl rfl rfl ?_
 refine RS.op (u:=.vl 0 (t20 + 1) 0 ((l19 ++ x24).length)) (σ':=⟨[(0,.vec (List.map cGProp (l19 ++ x24)).flatten 38 4 (t20 + 1))],1⟩) rfl (op_app rfl rfl rfl rfl (app_vl cGProp x24 Try.und33 Try.und33 Try.inf38 rfl len_cGProp rfl (src_isl cGProp len_cGProp) h26)) rfl rfl (RS.as rfl rfl rfl rfl (RS.done ?_))
 repeat refine gq ?_
 repeat refine sq ?_
 refine WPU.region Try.tb_ok (RS.op rfl (op_int rfl rfl (ix_add _ _ _) rfl) rfl rfl (RS.mv rfl rfl rfl rfl (RS.done ?_)))
 repeat refine gq ?_
 exact ⟨m2,_,_,Nat.lt_succ_self _,⟨(IntKind.i64.wrap (z18 + 1)),(l19 ++ x24),(t20 + 1),hF,rfl,rfl⟩,(Nat.zero_le _),Gh.toC (n1:=1) ⟨rfl,rfl,rfl,rfl,trivial⟩ rfl (Nat.zero_le _) (by simp)⟩
 replace hF:=cond_f h23 hF
 repeat refine sq ?_
 refine WPU.exit ?_
 repeat refine gq ?_
 exact ⟨_,_,⟨l19,t20,hF,rfl,rfl⟩,(Nat.zero_le _),Gh.toC (n1:=1) ⟨rfl,trivial⟩ rfl (Nat.zero_le _) (by simp)⟩
 rintro m1 _ _ ⟨z7,z8,hF,rfl,rfl⟩
 rcases m1 with _ | m1
 cases hF
 unfold q01n at hF
 repeat refine sq ?_
 refine WPU.region Try.tb_ok (RS.op rfl (op_int rfl rfl (ix_lss _ _ _) rfl) rfl rfl (RS.done ?_))
 repeat refine gq ?_
 repeat refine sq ?_
 refine WPU.condS (t:=(decide (z8 < (p1.length : Int)))) rfl (fun h27=>?_) (fun h27=>?_)
 replace hF:=cond_t h27 hF
 repeat refine sq ?_
 refine WPU.skip ?_
 repeat refine gq ?_
 repeat refine sq ?_
 refine WPU.block ?_
 repeat refine sq ?_
 obtain ⟨x28,h29,hF⟩:=bindO_some hF
 refine WPU.region Try.tb_ok (RS.op (u:=.iptr [.isl false (List.map cGProp x28)]) rfl (op_ia rfl rfl (ia_isl (cL cGProp) Try.und82 (sz_of Try.inf33) (len_cL cGProp) h29 rfl)) rfl rfl (RS.op (u:=.isl false (List.map cGProp x28)) rfl (li_one Try.und33 rfl rfl rfl) rfl rfl (RS.as rfl rfl rfl rfl (RS.done ?_))))
 repeat refine gq ?_
 repeat refine sq ?_
 refine WPU.region Try.tb_ok ?_
 repeat refine RS.mv rfl rfl rfl rfl ?_
 refine RS.op rfl (op_len rfl rfl rfl (len_isl cGProp Try.und33)) rfl rfl (RS.op rfl (op_int rfl rfl (ix_add _ _ _) rfl) rfl rfl (RS.as rfl rfl rfl rfl (RS.done ?_)))
 repeat refine gq ?_
 repeat refine sq ?_
 refine WPU.region Try.tb_ok (RS.mv rfl rfl rfl rfl (RS.op rfl (op_int rfl rfl (ix_lss _ _ _) rfl) rfl rfl (RS.done ?_)))
 repeat refine gq ?_
 repeat refine sq ?_
 refine WPU.condS (t:=(decide ((IntKind.i64.wrap (z7 + (x28.length : Int))) < 0))) rfl (fun h30=>?_) (fun h30=>?_)
 replace hF:=cond_t h30 hF
 cases hF
 replace hF:=cond_f h30 hF
 repeat refine sq ?_
 refine WPU.skip ?_
 repeat refine gq ?_
 repeat refine sq ?_
 refine WPU.region Try.tb_ok (RS.op rfl (op_int rfl rfl (ix_add _ _ _) rfl) rfl rfl (RS.mv rfl rfl rfl rfl (RS.done ?_)))
 repeat refine gq ?_
 exact ⟨m1,_,_,Nat.lt_succ_self _,⟨(IntKind.i64.wrap (z7 + (x28.length : Int))),(IntKind.i64.wrap (z8 + 1)),hF,rfl,rfl⟩,(Nat.zero_le _),Gh.toC (n1:=0) ⟨rfl,rfl,rfl,rfl,rfl,trivial⟩ rfl (Nat.zero_le _) (by simp)⟩
 replace hF:=cond_f h27 hF
 repeat refine sq ?_
 refine WPU.exit ?_
 repeat refine gq ?_
 exact ⟨_,_,⟨z7,hF,rfl,rfl⟩,(Nat.zero_le _),Gh.toC (n1:=0) ⟨rfl,rfl,trivial⟩ rfl (Nat.zero_le _) (by simp)⟩
def disc_has (n : Nat) (p1 : List GProp) (p2 : GProp) : Option (Bool) :=
 bindO (q00m (disc_order n) n p1 p2) fun r3 =>
 some r3.2
theorem disc_has_0 (n : Nat) (p1 : List GProp) (p2 : GProp) (r : Bool) (hF : disc_has n p1 p2 = some r) : EvU Try.prog 46 [.isl false (List.map cGProp p1),.agg (cGProp p2)] ⟨[],0⟩ (fun u _=>u = .bool r∧Bel 0 u):=by
 unfold disc_has at hF
 refine EvU.of_body Try.tb_ok Try.fn46 rfl ?_
 refine WPU.ghost (tm':=fr 14 [(0,.isl false (List.map cGProp p1)),(1,.agg (cGProp p2))]) (Gh.start (Nat.le_of_ble_eq_true rfl)) (Nat.zero_le _) ?_
 repeat refine sq ?_
 refine WPU.region Try.tb_ok (RS.op (u:=.ptr 0 0 0) (σ':=⟨[(0,.row (cGProp p2) 38)],1⟩) rfl (op_box rfl rfl rfl) rfl rfl (RS.as rfl rfl rfl rfl (RS.done ?_)))
 repeat refine gq ?_
 repeat refine sq ?_
 obtain ⟨r3,h4,hF⟩:=bindO_some hF
 refine WPU.region Try.tb_ok (RS.mv rfl rfl rfl rfl (RS.op (u:=.agg (cGProp p2)) rfl (ld_agg Try.und38 rfl (sz_of Try.inf38) rfl rfl rfl) rfl rfl (RS.call (u:=.tup [.int .i64 r3.1,.bool r3.2]) (args:=[.isl false (List.map cGProp p1),.agg (cGProp p2),.fn (.func 35) [] []]) rfl (op_call rfl rfl Try.fn65 Try.hb65 rfl rfl) (q03r (disc_order n) (disc_order_0 n) n p1 p2 r3 h4 _) rfl rfl (RS.mv rfl rfl rfl rfl (RS.op rfl (op_ext rfl rfl) rfl rfl (RS.op rfl (op_ext rfl rfl) rfl rfl ?_))))))
 repeat refine RS.as rfl rfl rfl rfl ?_
 refine RS.done ?_
 repeat refine gq ?_
 repeat refine sq ?_
 refine WPU.region Try.tb_ok (RS.mv rfl rfl rfl rfl (RS.as rfl rfl rfl rfl (RS.done ?_)))
 repeat refine gq ?_
 repeat refine sq ?_
 refine WPU.ret ?_
 repeat refine gq ?_
 have hr:=Option.some.inj hF
 subst hr
 exact ⟨.inr rfl,[.bool r3.2],res_t rfl (res_n),.bool r3.2,⟨[],0⟩,Nat.le_refl _,Gh.toR (.bool r3.2) rfl,rfl,BU.h⟩
theorem disc_has_ok (n : Nat) (p1 : List GProp) (p2 : GProp) (r : Bool) (hF : disc_has n p1 p2 = some r) (σ : Sg) : EvU Try.prog 46 [.isl false (List.map cGProp p1),.agg (cGProp p2)] σ (fun u σ'=>u = .bool r∧σ' = σ) :=
 EvU.pure1C (disc_has_0 n p1 p2 r hF) σ
def ref28_ints (n : Nat) (p1 : Int) (p2 : Int) : Option (Int) :=
 cond (decide (p1 < p2))
  (some (-1))
  (cond (decide (p1 > p2))
   (some 1)
   (some 0))
def ref28_Compare_K1 (p1 : GDeriv) (p2 : GDeriv) (n : Nat)  : Option (Int) :=
 bindO (ref28_ints n (p1.Kids.length : Int) (p2.Kids.length : Int)) fun r26 =>
 some r26
def ref28_Compare_L1 (p1 : GDeriv) (p2 : GDeriv) (n : Nat) (self : GDeriv→GDeriv→Option (Int)) : Nat→Int→Option (Int)
 | 0,_=>none
 | m1 + 1,z25 =>
  bindO (cond (decide (z25 < (p1.Kids.length : Int)))
   (some (decide (z25 < (p2.Kids.length : Int))))
   (some false)) fun b29 =>
  cond b29
   (bindO (idxO p1.Kids z25) fun x32 =>
   bindO (idxO p2.Kids z25) fun x34 =>
   bindO (self x32 x34) fun r36 =>
   cond (r36 != 0)
    (some r36)
    ((ref28_Compare_L1 p1 p2 n self m1) (IntKind.i64.wrap (z25 + 1))))
   (ref28_Compare_K1 p1 p2 n)
def ref28_Compare_b (n : Nat) (self : GDeriv→GDeriv→Option (Int)) (p1 : GDeriv) (p2 : GDeriv) : Option (Int) :=
 cond (p1.From != p2.From)
  (bindO (ref28_ints n p1.From p2.From) fun r4 =>
  some r4)
  (cond (p1.To != p2.To)
   (bindO (ref28_ints n p1.To p2.To) fun r7 =>
   some r7)
   (cond (p1.Kind != p2.Kind)
    (bindO (ref28_ints n p1.Kind p2.Kind) fun r10 =>
    some r10)
    (cond (!bytesEq p1.Name p2.Name)
     (cond (bytesLt p1.Name p2.Name)
      (some (-1))
      (some 1))
     (ref28_Compare_L1 p1 p2 n self n 0))))
def ref28_Compare : Nat→GDeriv→GDeriv→Option (Int)
 | 0,_,_=>none
 | n + 1,p1,p2=>ref28_Compare_b n (ref28_Compare n) p1 p2
def q04b  (z13 : Int) : Option (Int) :=
 some z13
def q03d (p1 : GDeriv) (p2 : Int) (self : GDeriv→Int→Option (Int)) : Nat→Int→Int→Option (Int)
 | 0,_,_=>none
 | m1 + 1,z11,z12 =>
  bindO (cond (decide (z12 < (p1.Kids.length : Int)))
   (some (decide (z11 < p2)))
   (some false)) fun b15 =>
  cond b15
   (bindO (idxO p1.Kids z12) fun x18 =>
   bindO (self x18 (IntKind.i64.wrap (p2 - z11))) fun r20 =>
   (q03d p1 p2 self m1) (IntKind.i64.wrap (z11 + r20)) (IntKind.i64.wrap (z12 + 1)))
   (q04b z11)
def ref37_Nodes_b (n : Nat) (self : GDeriv→Int→Option (Int)) (p1 : GDeriv) (p2 : Int) : Option (Int) :=
 q03d p1 p2 self n 1 0
def ref37_Nodes : Nat→GDeriv→Int→Option (Int)
 | 0,_,_=>none
 | n + 1,p1,p2=>ref37_Nodes_b n (ref37_Nodes n) p1 p2
theorem ref37_Nodes_0 : ∀ (n : Nat) (p1 : GDeriv) (p2 : Int) (r : Int),ref37_Nodes n p1 p2 = some r→EvU Try.prog 50 [.agg (xGDeriv p1),.int .i64 p2] ⟨[],0⟩ (fun u _=>u = .int .i64 r∧Bel 0 u)
 | 0,p1,p2,r,hF=>by cases hF
 | n + 1,p1,p2,r,hF=>by
  have ih:=ref37_Nodes_0 n
  have ihS : ∀ (p1 : GDeriv) (p2 : Int) (r : Int),ref37_Nodes n p1 p2 = some r→∀ σ,EvU Try.prog 50 [.agg (xGDeriv p1),.int .i64 p2] σ (fun u σ'=>u = .int .i64 r∧σ' = σ):=fun p1 p2 r h σ=>EvU.pure1C (ih p1 p2 r h) σ
  unfold ref37_Nodes ref37_Nodes_b at hF
  refine EvU.of_body Try.tb_ok Try.fn50 rfl ?_
  refine WPU.ghost (tm':=fr 31 [(0,.agg (xGDeriv p1)),(1,.int .i64 p2)]) (Gh.start (Nat.le_of_ble_eq_true rfl)) (Nat.zero_le _) ?_
  repeat refine sq ?_
  refine WPU.region Try.tb_ok (RS.op (u:=.ptr 0 0 0) (σ':=⟨[(0,.row (xGDeriv p1) 36)],1⟩) rfl (op_box rfl rfl rfl) rfl rfl (RS.as rfl rfl rfl rfl (RS.done ?_)))
  repeat refine gq ?_
  repeat refine sq ?_
  refine WPU.region Try.tb_ok (RS.as rfl rfl rfl rfl (RS.done ?_))
  repeat refine gq ?_
  repeat refine sq ?_
  refine WPU.region Try.tb_ok (RS.as rfl rfl rfl rfl (RS.done ?_))
  repeat refine gq ?_
  repeat refine sq ?_
  refine WPU.ghost (tm':=fr 31 [(1,.int .i64 p2),(2,.ptr 0 0 0),(5,.int .i64 1),(6,.int .i64 0)]) (Gh.sub ⟨rfl,rfl,rfl,rfl,trivial⟩) (Nat.zero_le _) ?_
  refine WPU.loopK (fun m tm σ=>∃ z11 : Int,∃ z12 : Int,q03d p1 p2 (ref37_Nodes n) m z11 z12 = some r∧tm = fr 31 [(1,.int .i64 p2),(2,.ptr 0 0 0),(5,.int .i64 z11),(6,.int .i64 z12)]∧σ = ⟨[(0,.row (xGDeriv p1) 36)],1⟩) (fun tm σ=>∃ z13 : Int,q04b z13 = some r∧tm = fr 31 [(5,.int .i64 z13)]∧σ = ⟨[(0,.row (xGDeriv p1) 36)],1⟩) n ⟨1,0,hF,rfl,rfl⟩ ?_ ?_
  rintro _ _ ⟨z13,hF,rfl,rfl⟩
  unfold q04b at hF
  repeat refine gq ?_
  repeat refine sq ?_
  refine WPU.region Try.tb_ok (RS.mv rfl rfl rfl rfl (RS.as rfl rfl rfl rfl (RS.done ?_)))
  repeat refine gq ?_
  repeat refine sq ?_
  refine WPU.ret ?_
  repeat refine gq ?_
  have hr:=Option.some.inj hF
  subst hr
  exact ⟨.inr rfl,[.int .i64 z13],res_t rfl (res_n),.int .i64 z13,⟨[],0⟩,Nat.le_refl _,Gh.toR (.int .i64 z13) rfl,rfl,BU.h⟩
  rintro m1 _ _ ⟨z11,z12,hF,rfl,rfl⟩
  rcases m1 with _ | m1
  cases hF
  unfold q03d at hF
  repeat refine sq ?_
  obtain ⟨b15,h16,hF⟩:=bindO_some hF
  refine WPU.joinK (fun tm σ=>tm = fr 31 [(1,.int .i64 p2),(2,.ptr 0 0 0),(5,.int .i64 z11),(6,.int .i64 z12),(16,.bool b15)]∧σ = ⟨[(0,.row (xGDeriv p1) 36)],1⟩) ?_ ?_
  rintro _ _ ⟨rfl,rfl⟩
  repeat refine gq ?_
  repeat refine sq ?_
  refine WPU.condS (t:=b15) rfl (fun h17=>?_) (fun h17=>?_)
  replace hF:=cond_t h17 hF
  repeat refine sq ?_
  refine WPU.skip ?_
  repeat refine gq ?_
  repeat refine sq ?_
  refine WPU.block ?_
  repeat refine sq ?_
  obtain ⟨x18,h19,hF⟩:=bindO_some hF
  obtain ⟨r20,h21,hF⟩:=bindO_some hF
  refine WPU.region Try.tb_ok (RS.mv rfl rfl rfl rfl (RS.op (u:=.ptr 0 0 4) rfl (op_fa Try.und36 rfl (sz_of Try.inf22) rfl rfl rfl) rfl rfl (RS.op (u:=.isl false (List.map cGDeriv p1.Kids)) rfl (ld_one Try.und22 rfl rfl rfl rfl) rfl rfl (RS.mv rfl rfl rfl rfl (RS.op (u:=.iptr (xGDeriv x18)) rfl (op_ia rfl rfl (ia_isl cGDeriv Try.und22 (sz_of Try.inf36) len_cGDeriv h19 (cGDeriv_eq x18))) rfl rfl (RS.op (u:=.agg (xGDeriv x18)) rfl (li_agg Try.und36 rfl (sz_of Try.inf36) rfl rfl) rfl rfl ?_))))))
  repeat refine RS.mv rfl rfl rfl rfl ?_
  refine RS.op rfl (op_int rfl rfl (ix_sub _ _ _) rfl) rfl rfl (RS.call (u:=.int .i64 r20) (args:=[.agg (xGDeriv x18),.int .i64 (IntKind.i64.wrap (p2 - z11))]) rfl (op_call rfl rfl Try.fn50 Try.hb50 rfl rfl) (ihS x18 (IntKind.i64.wrap (p2 - z11)) r20 h21 _) rfl rfl (RS.op rfl (op_int rfl rfl (ix_add _ _ _) rfl) rfl rfl (RS.as rfl rfl rfl rfl (RS.done ?_))))
  repeat refine gq ?_
  repeat refine sq ?_
  refine WPU.region Try.tb_ok (RS.mv rfl rfl rfl rfl (RS.op rfl (op_int rfl rfl (ix_add _ _ _) rfl) rfl rfl (RS.as rfl rfl rfl rfl (RS.done ?_))))
  repeat refine gq ?_
  exact ⟨m1,_,_,Nat.lt_succ_self _,⟨(IntKind.i64.wrap (z11 + r20)),(IntKind.i64.wrap (z12 + 1)),hF,rfl,rfl⟩,(Nat.zero_le _),Gh.toC (n1:=1) ⟨rfl,rfl,rfl,rfl,trivial⟩ rfl (Nat.zero_le _) (by simp)⟩
  replace hF:=cond_f h17 hF
  repeat refine sq ?_
  refine WPU.exit ?_
  repeat refine gq ?_
  exact ⟨_,_,⟨z11,hF,rfl,rfl⟩,(Nat.zero_le _),Gh.toC (n1:=1) ⟨rfl,trivial⟩ rfl (Nat.zero_le _) (by simp)⟩
  rcases bool_tf (decide (z12 < (p1.Kids.length : Int))) with h14 | h14
  replace h16:=cond_t h14 h16
  replace h16:=Option.some.inj h16
  subst h16
  refine WPU.region Try.tb_ok (RS.mv rfl rfl rfl rfl (RS.op (u:=.ptr 0 0 4) rfl (op_fa Try.und36 rfl (sz_of Try.inf22) rfl rfl rfl) rfl rfl (RS.op (u:=.isl false (List.map cGDeriv p1.Kids)) rfl (ld_one Try.und22 rfl rfl rfl rfl) rfl rfl (RS.op rfl (op_len rfl rfl rfl (len_isl cGDeriv Try.und22)) rfl rfl (RS.op rfl (op_int rfl rfl (ix_lss _ _ _) rfl) rfl rfl (RS.mv rfl rfl rfl rfl (RS.op (want1 rfl rfl rfl h14) (op_move rfl) rfl rfl ?_)))))))
  refine RS.op (want1 rfl rfl rfl h14) (op_move rfl) rfl rfl (RS.op (want1 rfl rfl rfl h14) (op_int rfl rfl (ix_lss _ _ _) rfl) rfl rfl (RS.op (u:=.bool (decide (z11 < p2))) rfl (op_pick1 rfl h14 rfl) rfl rfl (RS.done ?_)))
  repeat refine gq ?_
  exact ⟨_,_,⟨rfl,rfl⟩,(Nat.zero_le _),Gh.toC (n1:=1) ⟨rfl,rfl,rfl,rfl,rfl,trivial⟩ rfl (Nat.zero_le _) (by simp)⟩
  replace h16:=cond_f h14 h16
  replace h16:=Option.some.inj h16
  subst h16
  refine WPU.region Try.tb_ok (RS.mv rfl rfl rfl rfl (RS.op (u:=.ptr 0 0 4) rfl (op_fa Try.und36 rfl (sz_of Try.inf22) rfl rfl rfl) rfl rfl (RS.op (u:=.isl false (List.map cGDeriv p1.Kids)) rfl (ld_one Try.und22 rfl rfl rfl rfl) rfl rfl (RS.op rfl (op_len rfl rfl rfl (len_isl cGDeriv Try.und22)) rfl rfl (RS.op rfl (op_int rfl rfl (ix_lss _ _ _) rfl) rfl rfl (RS.mv rfl rfl rfl rfl ?_))))))
  repeat refine RS.no (want0 rfl rfl rfl h14) rfl rfl ?_
  refine RS.op (u:=.bool false) rfl (op_pick0 rfl h14 rfl) rfl rfl (RS.done ?_)
  repeat refine gq ?_
  exact ⟨_,_,⟨rfl,rfl⟩,(Nat.zero_le _),Gh.toC (n1:=1) ⟨rfl,rfl,rfl,rfl,rfl,trivial⟩ rfl (Nat.zero_le _) (by simp)⟩
theorem ref37_Nodes_ok (n : Nat) (p1 : GDeriv) (p2 : Int) (r : Int) (hF : ref37_Nodes n p1 p2 = some r) (σ : Sg) : EvU Try.prog 50 [.agg (xGDeriv p1),.int .i64 p2] σ (fun u σ'=>u = .int .i64 r∧σ' = σ) :=
 EvU.pure1C (ref37_Nodes_0 n p1 p2 r hF) σ
def q049 (p2 : Int) (z9 : Int) : Option (Bool) :=
 some (decide (z9 ≤ p2))
def q03e (p1 : List GDeriv) (p2 : Int) (n : Nat) : Nat→Int→Int→Option (Bool)
 | 0,_,_=>none
 | m1 + 1,z7,z8 =>
  bindO (cond (decide (z8 < (p1.length : Int)))
   (some (decide (z7 ≤ p2)))
   (some false)) fun b11 =>
  cond b11
   (bindO (idxO p1 z8) fun x14 =>
   bindO (ref37_Nodes n x14 (IntKind.i64.wrap (p2 + 1))) fun r16 =>
   (q03e p1 p2 n m1) (IntKind.i64.wrap (z7 + r16)) (IntKind.i64.wrap (z8 + 1)))
   (q049 p2 z7)
def ref37_Light (n : Nat) (p1 : List GDeriv) (p2 : Int) : Option (Bool) :=
 q03e p1 p2 n n 0 0
theorem ref37_Light_0 (n : Nat) (p1 : List GDeriv) (p2 : Int) (r : Bool) (hF : ref37_Light n p1 p2 = some r) : EvU Try.prog 23 [.isl false (List.map cGDeriv p1),.int .i64 p2] ⟨[],0⟩ (fun u _=>u = .bool r∧Bel 0 u):=by
 unfold ref37_Light at hF
 refine EvU.of_body Try.tb_ok Try.fn23 rfl ?_
 refine WPU.ghost (tm':=fr 30 [(0,.isl false (List.map cGDeriv p1)),(1,.int .i64 p2)]) (Gh.start (Nat.le_of_ble_eq_true rfl)) (Nat.zero_le _) ?_
 repeat refine sq ?_
 refine WPU.region Try.tb_ok (RS.as rfl rfl rfl rfl (RS.done ?_))
 repeat refine gq ?_
 repeat refine sq ?_
 refine WPU.region Try.tb_ok (RS.as rfl rfl rfl rfl (RS.done ?_))
 repeat refine gq ?_
 repeat refine sq ?_
 refine WPU.region Try.tb_ok (RS.as rfl rfl rfl rfl (RS.done ?_))
 repeat refine gq ?_
 repeat refine sq ?_
 refine WPU.ghost (tm':=fr 30 [(0,.isl false (List.map cGDeriv p1)),(1,.int .i64 p2),(5,.int .i64 0),(6,.int .i64 0)]) (Gh.sub ⟨rfl,rfl,rfl,rfl,trivial⟩) (Nat.zero_le _) ?_
 refine WPU.loopK (fun m tm σ=>∃ z7 : Int,∃ z8 : Int,q03e p1 p2 n m z7 z8 = some r∧tm = fr 30 [(0,.isl false (List.map cGDeriv p1)),(1,.int .i64 p2),(5,.int .i64 z7),(6,.int .i64 z8)]∧σ = ⟨[],0⟩) (fun tm σ=>∃ z9 : Int,q049 p2 z9 = some r∧tm = fr 30 [(1,.int .i64 p2),(5,.int .i64 z9)]∧σ = ⟨[],0⟩) n ⟨0,0,hF,rfl,rfl⟩ ?_ ?_
 rintro _ _ ⟨z9,hF,rfl,rfl⟩
 unfold q049 at hF
 repeat refine gq ?_
 repeat refine sq ?_
 refine WPU.region Try.tb_ok ?_
 repeat refine RS.mv rfl rfl rfl rfl ?_
 refine RS.op rfl (op_int rfl rfl (ix_leq _ _ _) rfl) rfl rfl (RS.as rfl rfl rfl rfl (RS.done ?_))
 repeat refine gq ?_
 repeat refine sq ?_
 refine WPU.ret ?_
 repeat refine gq ?_
 have hr:=Option.some.inj hF
 subst hr
 exact ⟨.inr rfl,[.bool (decide (z9 ≤ p2))],res_t rfl (res_n),.bool (decide (z9 ≤ p2)),⟨[],0⟩,Nat.le_refl _,Gh.toR (.bool (decide (z9 ≤ p2))) rfl,rfl,BU.h⟩
 rintro m1 _ _ ⟨z7,z8,hF,rfl,rfl⟩
 rcases m1 with _ | m1
 cases hF
 unfold q03e at hF
 repeat refine sq ?_
 obtain ⟨b11,h12,hF⟩:=bindO_some hF
 refine WPU.joinK (fun tm σ=>tm = fr 30 [(0,.isl false (List.map cGDeriv p1)),(1,.int .i64 p2),(5,.int .i64 z7),(6,.int .i64 z8),(15,.bool b11)]∧σ = ⟨[],0⟩) ?_ ?_
 rintro _ _ ⟨rfl,rfl⟩
 repeat refine gq ?_
 repeat refine sq ?_
 refine WPU.condS (t:=b11) rfl (fun h13=>?_) (fun h13=>?_)
 replace hF:=cond_t h13 hF
 repeat refine sq ?_
 refine WPU.skip ?_
 repeat refine gq ?_
 repeat refine sq ?_
 refine WPU.block ?_
 repeat refine sq ?_
 obtain ⟨x14,h15,hF⟩:=bindO_some hF
 obtain ⟨r16,h17,hF⟩:=bindO_some hF
 refine WPU.region Try.tb_ok ?_
 repeat refine RS.mv rfl rfl rfl rfl ?_
 refine RS.op (u:=.iptr (xGDeriv x14)) rfl (op_ia rfl rfl (ia_isl cGDeriv Try.und22 (sz_of Try.inf36) len_cGDeriv h15 (cGDeriv_eq x14))) rfl rfl (RS.op (u:=.agg (xGDeriv x14)) rfl (li_agg Try.und36 rfl (sz_of Try.inf36) rfl rfl) rfl rfl (RS.mv rfl rfl rfl rfl (RS.op rfl (op_int rfl rfl (ix_add _ _ _) rfl) rfl rfl (RS.call (u:=.int .i64 r16) (args:=[.agg (xGDeriv x14),.int .i64 (IntKind.i64.wrap (p2 + 1))]) rfl (op_call rfl rfl Try.fn50 Try.hb50 rfl rfl) (ref37_Nodes_ok n x14 (IntKind.i64.wrap (p2 + 1)) r16 h17 _) rfl rfl (RS.op rfl (op_int rfl rfl (ix_add _ _ _) rfl) rfl rfl (RS.as rfl rfl rfl rfl (RS.done ?_)))))))
 repeat refine gq ?_
 repeat refine sq ?_
 refine WPU.region Try.tb_ok (RS.mv rfl rfl rfl rfl (RS.op rfl (op_int rfl rfl (ix_add _ _ _) rfl) rfl rfl (RS.as rfl rfl rfl rfl (RS.done ?_))))
 repeat refine gq ?_
 exact ⟨m1,_,_,Nat.lt_succ_self _,⟨(IntKind.i64.wrap (z7 + r16)),(IntKind.i64.wrap (z8 + 1)),hF,rfl,rfl⟩,(Nat.zero_le _),Gh.toC (n1:=0) ⟨rfl,rfl,rfl,rfl,trivial⟩ rfl (Nat.zero_le _) (by simp)⟩
 replace hF:=cond_f h13 hF
 repeat refine sq ?_
 refine WPU.exit ?_
 repeat refine gq ?_
 exact ⟨_,_,⟨z7,hF,rfl,rfl⟩,(Nat.zero_le _),Gh.toC (n1:=0) ⟨rfl,rfl,trivial⟩ rfl (Nat.zero_le _) (by simp)⟩
 rcases bool_tf (decide (z8 < (p1.length : Int))) with h10 | h10
 replace h12:=cond_t h10 h12
 replace h12:=Option.some.inj h12
 subst h12
 refine WPU.region Try.tb_ok ?_
 repeat refine RS.mv rfl rfl rfl rfl ?_
 refine RS.op rfl (op_len rfl rfl rfl (len_isl cGDeriv Try.und22)) rfl rfl (RS.op rfl (op_int rfl rfl (ix_lss _ _ _) rfl) rfl rfl (RS.mv rfl rfl rfl rfl (RS.op (want1 rfl rfl rfl h10) (op_move rfl) rfl rfl (RS.op (want1 rfl rfl rfl h10) (op_move rfl) rfl rfl (RS.op (want1 rfl rfl rfl h10) (op_int rfl rfl (ix_leq _ _ _) rfl) rfl rfl (RS.op (u:=.bool (decide (z7 ≤ p2))) rfl (op_pick1 rfl h10 rfl) rfl rfl (RS.done ?_)))))))
 repeat refine gq ?_
 exact ⟨_,_,⟨rfl,rfl⟩,(Nat.zero_le _),Gh.toC (n1:=0) ⟨rfl,rfl,rfl,rfl,rfl,trivial⟩ rfl (Nat.zero_le _) (by simp)⟩
 replace h12:=cond_f h10 h12
 replace h12:=Option.some.inj h12
 subst h12
 refine WPU.region Try.tb_ok ?_
 repeat refine RS.mv rfl rfl rfl rfl ?_
 refine RS.op rfl (op_len rfl rfl rfl (len_isl cGDeriv Try.und22)) rfl rfl (RS.op rfl (op_int rfl rfl (ix_lss _ _ _) rfl) rfl rfl (RS.mv rfl rfl rfl rfl ?_))
 repeat refine RS.no (want0 rfl rfl rfl h10) rfl rfl ?_
 refine RS.op (u:=.bool false) rfl (op_pick0 rfl h10 rfl) rfl rfl (RS.done ?_)
 repeat refine gq ?_
 exact ⟨_,_,⟨rfl,rfl⟩,(Nat.zero_le _),Gh.toC (n1:=0) ⟨rfl,rfl,rfl,rfl,rfl,trivial⟩ rfl (Nat.zero_le _) (by simp)⟩
theorem ref37_Light_ok (n : Nat) (p1 : List GDeriv) (p2 : Int) (r : Bool) (hF : ref37_Light n p1 p2 = some r) (σ : Sg) : EvU Try.prog 23 [.isl false (List.map cGDeriv p1),.int .i64 p2] σ (fun u σ'=>u = .bool r∧σ' = σ) :=
 EvU.pure1C (ref37_Light_0 n p1 p2 r hF) σ
def law46_light (n : Nat) (p1 : List GDeriv) : Option (Bool) :=
 bindO (cond (decide ((p1.length : Int) ≤ 5))
  (bindO (ref37_Light n p1 50) fun r3 =>
  some r3)
  (some false)) fun b5 =>
 some b5
theorem law46_light_0 (n : Nat) (p1 : List GDeriv) (r : Bool) (hF : law46_light n p1 = some r) : EvU Try.prog 8 [.isl false (List.map cGDeriv p1)] ⟨[],0⟩ (fun u _=>u = .bool r∧Bel 0 u):=by
 unfold law46_light at hF
 refine EvU.of_body Try.tb_ok Try.fn8 rfl ?_
 refine WPU.ghost (tm':=fr 10 [(0,.isl false (List.map cGDeriv p1))]) (Gh.start (Nat.le_of_ble_eq_true rfl)) (Nat.zero_le _) ?_
 repeat refine sq ?_
 refine WPU.region Try.tb_ok (RS.as rfl rfl rfl rfl (RS.done ?_))
 repeat refine gq ?_
 repeat refine sq ?_
 obtain ⟨b5,h6,hF⟩:=bindO_some hF
 refine WPU.joinK (fun tm σ=>tm = fr 10 [(2,.bool b5)]∧σ = ⟨[],0⟩) ?_ ?_
 rintro _ _ ⟨rfl,rfl⟩
 repeat refine gq ?_
 repeat refine sq ?_
 refine WPU.ret ?_
 repeat refine gq ?_
 have hr:=Option.some.inj hF
 subst hr
 exact ⟨.inr rfl,[.bool b5],res_t rfl (res_n),.bool b5,⟨[],0⟩,Nat.le_refl _,Gh.toR (.bool b5) rfl,rfl,BU.h⟩
 rcases bool_tf (decide ((p1.length : Int) ≤ 5)) with h2 | h2
 replace h6:=cond_t h2 h6
 obtain ⟨r3,h4,h6⟩:=bindO_some h6
 replace h6:=Option.some.inj h6
 subst h6
 refine WPU.region Try.tb_ok (RS.mv rfl rfl rfl rfl (RS.op rfl (op_len rfl rfl rfl (len_isl cGDeriv Try.und22)) rfl rfl (RS.op rfl (op_int rfl rfl (ix_leq _ _ _) rfl) rfl rfl (RS.mv rfl rfl rfl rfl (RS.op (want1 rfl rfl rfl h2) (op_move rfl) rfl rfl (RS.call (u:=.bool r3) (args:=[.isl false (List.map cGDeriv p1),.int .i64 50]) (want1 rfl rfl rfl h2) (op_call rfl rfl Try.fn23 Try.hb23 rfl rfl) (ref37_Light_ok n p1 50 r3 h4 _) rfl rfl (RS.op (u:=.bool r3) rfl (op_pick1 rfl h2 rfl) rfl rfl ?_)))))))
 refine RS.as rfl rfl rfl rfl (RS.done ?_)
 repeat refine gq ?_
 exact ⟨_,_,⟨rfl,rfl⟩,(Nat.zero_le _),Gh.toC (n1:=0) ⟨rfl,trivial⟩ rfl (Nat.zero_le _) (by simp)⟩
 replace h6:=cond_f h2 h6
 replace h6:=Option.some.inj h6
 subst h6
 refine WPU.region Try.tb_ok (RS.mv rfl rfl rfl rfl (RS.op rfl (op_len rfl rfl rfl (len_isl cGDeriv Try.und22)) rfl rfl (RS.op rfl (op_int rfl rfl (ix_leq _ _ _) rfl) rfl rfl (RS.mv rfl rfl rfl rfl ?_))))
 repeat refine RS.no (want0 rfl rfl rfl h2) rfl rfl ?_
 refine RS.op (u:=.bool false) rfl (op_pick0 rfl h2 rfl) rfl rfl (RS.as rfl rfl rfl rfl (RS.done ?_))
 repeat refine gq ?_
 exact ⟨_,_,⟨rfl,rfl⟩,(Nat.zero_le _),Gh.toC (n1:=0) ⟨rfl,trivial⟩ rfl (Nat.zero_le _) (by simp)⟩
theorem law46_light_ok (n : Nat) (p1 : List GDeriv) (r : Bool) (hF : law46_light n p1 = some r) (σ : Sg) : EvU Try.prog 8 [.isl false (List.map cGDeriv p1)] σ (fun u σ'=>u = .bool r∧σ' = σ) :=
 EvU.pure1C (law46_light_0 n p1 r hF) σ
def law46_leaf (n : Nat) (p1 : List UInt8) : Option (GDeriv) :=
 some (GDeriv.mk 0 p1 0 1 [])
theorem law46_leaf_0 (n : Nat) (p1 : List UInt8) (r : GDeriv) (hF : law46_leaf n p1 = some r) : EvU Try.prog 24 [.str p1] ⟨[],0⟩ (fun u _=>u = .agg (xGDeriv r)∧Bel 0 u):=by
 unfold law46_leaf at hF
 refine EvU.of_body Try.tb_ok Try.fn24 rfl ?_
 refine WPU.ghost (tm':=fr 5 [(0,.str p1)]) (Gh.start (Nat.le_of_ble_eq_true rfl)) (Nat.zero_le _) ?_
 repeat refine sq ?_
 refine WPU.region Try.tb_ok (RS.op (u:=.ptr 0 0 0) (σ':=⟨[(0,.row [.int .i64 0,.str [],.int .i64 0,.int .i64 0,.nils] 36)],1⟩) rfl (op_alloc Try.inf36 rfl rfl) rfl rfl (RS.done ?_))
 repeat refine gq ?_
 repeat refine sq ?_
 refine WPU.region Try.tb_ok (RS.mv rfl rfl rfl rfl (RS.op (u:=.agg [.int .i64 0,.str p1,.int .i64 0,.int .i64 1,.nils]) rfl (op_bld Try.bd36 rfl rfl rfl) rfl rfl (RS.opn (u:=.junk) (σ':=⟨[(0,.row [.int .i64 0,.str p1,.int .i64 0,.int .i64 1,.nils] 36)],1⟩) rfl (op_store (sz_of Try.inf36) rfl rfl rfl rfl rfl rfl rfl rfl) rfl (RS.done ?_))))
 repeat refine gq ?_
 repeat refine sq ?_
 refine WPU.ret ?_
 repeat refine gq ?_
 have hr:=Option.some.inj hF
 subst hr
 exact ⟨.inr rfl,[.agg [.int .i64 0,.str p1,.int .i64 0,.int .i64 1,.nils]],res_c (ld_agg Try.und36 rfl (sz_of Try.inf36) rfl rfl rfl) (res_n),.agg [.int .i64 0,.str p1,.int .i64 0,.int .i64 1,.isl false []],⟨[],0⟩,Nat.le_refl _,Gh.trans (Gh.wk (.cons (.agg (.cons (.refl _) (.cons (.refl _) (.cons (.refl _) (.cons (.refl _) (.cons (.nil false) .nil)))))) .nil)) (Gh.toR (.agg [.int .i64 0,.str p1,.int .i64 0,.int .i64 1,.isl false []]) rfl),rfl,BU.h⟩
theorem q04s (n : Nat) (p1 : List UInt8) (r : GDeriv) (hF : law46_leaf n p1 = some r) (σ : Sg) : EvU Try.prog 24 [.str p1] σ (fun u σ'=>u = .agg (xGDeriv r)∧σ' = σ) :=
 EvU.pure1C (law46_leaf_0 n p1 r hF) σ
def q00o   : Option (Int) :=
 some (-1)
def q003 (p1 : List GDecision) (c2 : List GProp) (f1 : GDecision→(List GProp)→Option (Bool)) : Nat→Int→Option (Int)
 | 0,_=>none
 | m1 + 1,z6 =>
  cond (decide (z6 < (p1.length : Int)))
   (bindO (idxO p1 z6) fun x8 =>
   bindO (f1 x8 c2) fun r10 =>
   cond r10
    (some z6)
    ((q003 p1 c2 f1 m1) (IntKind.i64.wrap (z6 + 1))))
   (q00o)
def q00e (f1 : GDecision→(List GProp)→Option (Bool)) (n : Nat) (p1 : List GDecision) (c2 : List GProp) : Option (Int) :=
 q003 p1 c2 f1 n 0
theorem q03b (f1 : GDecision→(List GProp)→Option (Bool)) (hf1 : ∀ (a0 : GDecision) (a1 : List GProp) (r : Bool),f1 a0 a1 = some r→EvU Try.prog 66 [.agg (cGDecision a0),.iptr [.isl false (List.map cGProp a1)]] ⟨[],0⟩ (fun u _=>u = .bool r∧Bel 0 u)) (n : Nat) (p1 : List GDecision) (c2 : List GProp) (r : Int) (hF : q00e f1 n p1 c2 = some r) : EvU Try.prog 63 [.isl false (List.map cGDecision p1),.fn (.func 66) [] [.iptr [.isl false (List.map cGProp c2)]]] ⟨[],0⟩ (fun u _=>u = .int .i64 r∧Bel 0 u):=by
 unfold q00e at hF
 have hf1S : ∀ (a0 : GDecision) (a1 : List GProp) (r : Bool),f1 a0 a1 = some r→∀ σ,EvU Try.prog 66 [.agg (cGDecision a0),.iptr [.isl false (List.map cGProp a1)]] σ (fun u σ'=>u = .bool r∧σ' = σ):=fun a0 a1 r h σ=>EvU.pure1C (hf1 a0 a1 r h) σ
 refine EvU.of_body Try.tb_ok Try.fn63 rfl ?_
 refine WPU.ghost (tm':=fr 19 [(0,.isl false (List.map cGDecision p1)),(1,.fn (.func 66) [] [.iptr [.isl false (List.map cGProp c2)]])]) (Gh.start (Nat.le_of_ble_eq_true rfl)) (Nat.zero_le _) ?_
 repeat refine sq ?_
 refine WPU.region Try.tb_ok (RS.as rfl rfl rfl rfl (RS.done ?_))
 repeat refine gq ?_
 repeat refine sq ?_
 refine WPU.region Try.tb_ok (RS.mv rfl rfl rfl rfl (RS.op rfl (op_len rfl rfl rfl (len_isl cGDecision Try.und25)) rfl rfl (RS.mv rfl rfl rfl rfl (RS.done ?_))))
 repeat refine gq ?_
 repeat refine sq ?_
 refine WPU.ghost (tm':=fr 19 [(0,.isl false (List.map cGDecision p1)),(1,.fn (.func 66) [] [.iptr [.isl false (List.map cGProp c2)]]),(7,.int .i64 (p1.length : Int)),(8,.int .i64 0)]) (Gh.sub ⟨rfl,rfl,rfl,rfl,trivial⟩) (Nat.zero_le _) ?_
 refine WPU.loopK (fun m tm σ=>∃ z6 : Int,q003 p1 c2 f1 m z6 = some r∧tm = fr 19 [(0,.isl false (List.map cGDecision p1)),(1,.fn (.func 66) [] [.iptr [.isl false (List.map cGProp c2)]]),(7,.int .i64 (p1.length : Int)),(8,.int .i64 z6)]∧σ = ⟨[],0⟩) (fun tm σ=>q00o = some r∧tm = fr 19 []∧σ = ⟨[],0⟩) n ⟨0,hF,rfl,rfl⟩ ?_ ?_
 rintro _ _ ⟨hF,rfl,rfl⟩
 unfold q00o at hF
 repeat refine gq ?_
 repeat refine sq ?_
 refine WPU.region Try.tb_ok (RS.as rfl rfl rfl rfl (RS.done ?_))
 repeat refine gq ?_
 repeat refine sq ?_
 refine WPU.ret ?_
 repeat refine gq ?_
 have hr:=Option.some.inj hF
 subst hr
 exact ⟨.inr rfl,[.int .i64 (-1)],res_t rfl (res_n),.int .i64 (-1),⟨[],0⟩,Nat.le_refl _,Gh.toR (.int .i64 (-1)) rfl,rfl,BU.h⟩
 rintro m1 _ _ ⟨z6,hF,rfl,rfl⟩
 rcases m1 with _ | m1
 cases hF
 unfold q003 at hF
 repeat refine sq ?_
 refine WPU.region Try.tb_ok (RS.op rfl (op_int rfl rfl (ix_lss _ _ _) rfl) rfl rfl (RS.done ?_))
 repeat refine gq ?_
 repeat refine sq ?_
 refine WPU.condS (t:=(decide (z6 < (p1.length : Int)))) rfl (fun h7=>?_) (fun h7=>?_)
 replace hF:=cond_t h7 hF
 repeat refine sq ?_
 refine WPU.skip ?_
 repeat refine gq ?_
 repeat refine sq ?_
 refine WPU.block ?_
 repeat refine sq ?_
 refine WPU.region Try.tb_ok (RS.mv rfl rfl rfl rfl (RS.as rfl rfl rfl rfl (RS.done ?_)))
 repeat refine gq ?_
 repeat refine sq ?_
 obtain ⟨x8,h9,hF⟩:=bindO_some hF
 obtain ⟨r10,h11,hF⟩:=bindO_some hF
 refine WPU.region Try.tb_ok ?_
 repeat refine RS.mv rfl rfl rfl rfl ?_
 refine RS.op (u:=.iptr (cGDecision x8)) rfl (op_ia rfl rfl (ia_isl cGDecision Try.und25 (sz_of Try.inf57) q004 h9 rfl)) rfl rfl (RS.op (u:=.agg (cGDecision x8)) rfl (li_agg Try.und57 rfl (sz_of Try.inf57) rfl rfl) rfl rfl (RS.call (u:=.bool r10) (args:=[.agg (cGDecision x8),.iptr [.isl false (List.map cGProp c2)]]) rfl (op_call rfl rfl Try.fn66 Try.hb66 rfl rfl) (hf1S x8 c2 r10 h11 _) rfl rfl (RS.done ?_)))
 repeat refine gq ?_
 repeat refine sq ?_
 refine WPU.condS (t:=r10) rfl (fun h12=>?_) (fun h12=>?_)
 replace hF:=cond_t h12 hF
 repeat refine sq ?_
 refine WPU.region Try.tb_ok (RS.mv rfl rfl rfl rfl (RS.as rfl rfl rfl rfl (RS.done ?_)))
 repeat refine gq ?_
 repeat refine sq ?_
 refine WPU.ret ?_
 repeat refine gq ?_
 have hr:=Option.some.inj hF
 subst hr
 exact ⟨.inr rfl,[.int .i64 z6],res_t rfl (res_n),.int .i64 z6,⟨[],0⟩,Nat.le_refl _,Gh.toR (.int .i64 z6) rfl,rfl,BU.h⟩
 replace hF:=cond_f h12 hF
 repeat refine sq ?_
 refine WPU.skip ?_
 repeat refine gq ?_
 repeat refine sq ?_
 refine WPU.region Try.tb_ok (RS.op rfl (op_int rfl rfl (ix_add _ _ _) rfl) rfl rfl (RS.mv rfl rfl rfl rfl (RS.done ?_)))
 repeat refine gq ?_
 exact ⟨m1,_,_,Nat.lt_succ_self _,⟨(IntKind.i64.wrap (z6 + 1)),hF,rfl,rfl⟩,(Nat.zero_le _),Gh.toC (n1:=0) ⟨rfl,rfl,rfl,rfl,trivial⟩ rfl (Nat.zero_le _) (by simp)⟩
 replace hF:=cond_f h7 hF
 repeat refine sq ?_
 refine WPU.exit ?_
 repeat refine gq ?_
 exact ⟨_,_,⟨hF,rfl,rfl⟩,(Nat.zero_le _),Gh.toC (n1:=0) trivial rfl (Nat.zero_le _) (by simp)⟩
theorem q039 (f1 : GDecision→(List GProp)→Option (Bool)) (hf1 : ∀ (a0 : GDecision) (a1 : List GProp) (r : Bool),f1 a0 a1 = some r→EvU Try.prog 66 [.agg (cGDecision a0),.iptr [.isl false (List.map cGProp a1)]] ⟨[],0⟩ (fun u _=>u = .bool r∧Bel 0 u)) (n : Nat) (p1 : List GDecision) (c2 : List GProp) (r : Int) (hF : q00e f1 n p1 c2 = some r) (σ : Sg) : EvU Try.prog 63 [.isl false (List.map cGDecision p1),.fn (.func 66) [] [.iptr [.isl false (List.map cGProp c2)]]] σ (fun u σ'=>u = .int .i64 r∧σ' = σ) :=
 EvU.pure1C (q03b f1 hf1 n p1 c2 r hF) σ
def q00a (f1 : GDecision→(List GProp)→Option (Bool)) (n : Nat) (p1 : List GDecision) (c2 : List GProp) : Option (Bool) :=
 bindO (q00e f1 n p1 c2) fun r3 =>
 some (decide (r3 ≥ 0))
theorem q030 (f1 : GDecision→(List GProp)→Option (Bool)) (hf1 : ∀ (a0 : GDecision) (a1 : List GProp) (r : Bool),f1 a0 a1 = some r→EvU Try.prog 66 [.agg (cGDecision a0),.iptr [.isl false (List.map cGProp a1)]] ⟨[],0⟩ (fun u _=>u = .bool r∧Bel 0 u)) (n : Nat) (p1 : List GDecision) (c2 : List GProp) (r : Bool) (hF : q00a f1 n p1 c2 = some r) : EvU Try.prog 41 [.isl false (List.map cGDecision p1),.fn (.func 66) [] [.iptr [.isl false (List.map cGProp c2)]]] ⟨[],0⟩ (fun u _=>u = .bool r∧Bel 0 u):=by
 unfold q00a at hF
 have hf1S : ∀ (a0 : GDecision) (a1 : List GProp) (r : Bool),f1 a0 a1 = some r→∀ σ,EvU Try.prog 66 [.agg (cGDecision a0),.iptr [.isl false (List.map cGProp a1)]] σ (fun u σ'=>u = .bool r∧σ' = σ):=fun a0 a1 r h σ=>EvU.pure1C (hf1 a0 a1 r h) σ
 refine EvU.of_body Try.tb_ok Try.fn41 rfl ?_
 refine WPU.ghost (tm':=fr 9 [(0,.isl false (List.map cGDecision p1)),(1,.fn (.func 66) [] [.iptr [.isl false (List.map cGProp c2)]])]) (Gh.start (Nat.le_of_ble_eq_true rfl)) (Nat.zero_le _) ?_
 repeat refine sq ?_
 refine WPU.region Try.tb_ok (RS.as rfl rfl rfl rfl (RS.done ?_))
 repeat refine gq ?_
 repeat refine sq ?_
 obtain ⟨r3,h4,hF⟩:=bindO_some hF
 refine WPU.region Try.tb_ok ?_
 repeat refine RS.mv rfl rfl rfl rfl ?_
 refine RS.call (u:=.int .i64 r3) (args:=[.isl false (List.map cGDecision p1),.fn (.func 66) [] [.iptr [.isl false (List.map cGProp c2)]]]) rfl (op_call rfl rfl Try.fn63 Try.hb63 rfl rfl) (q039 f1 hf1 n p1 c2 r3 h4 _) rfl rfl (RS.op rfl (op_int rfl rfl (ix_geq _ _ _) rfl) rfl rfl (RS.as rfl rfl rfl rfl (RS.done ?_)))
 repeat refine gq ?_
 repeat refine sq ?_
 refine WPU.ret ?_
 repeat refine gq ?_
 have hr:=Option.some.inj hF
 subst hr
 exact ⟨.inr rfl,[.bool (decide (r3 ≥ 0))],res_t rfl (res_n),.bool (decide (r3 ≥ 0)),⟨[],0⟩,Nat.le_refl _,Gh.toR (.bool (decide (r3 ≥ 0))) rfl,rfl,BU.h⟩
def q01x (n : Nat) (p1 : GDecision) (c2 : List GProp) : Option (Bool) :=
 bindO (disc_has n c2 p1.Propx) fun r3 =>
 some (!(r3 == p1.Yes))
theorem disc_remaining_1_0 (n : Nat) (p1 : GDecision) (c2 : List GProp) (r : Bool) (hF : q01x n p1 c2 = some r) : EvU Try.prog 66 [.agg (cGDecision p1),.iptr [.isl false (List.map cGProp c2)]] ⟨[],0⟩ (fun u _=>u = .bool r∧Bel 0 u):=by
 unfold q01x at hF
 refine EvU.of_body Try.tb_ok Try.fn66 rfl ?_
 refine WPU.ghost (tm':=fr 11 [(0,.agg (cGDecision p1)),(1,.iptr [.isl false (List.map cGProp c2)])]) (Gh.start (Nat.le_of_ble_eq_true rfl)) (Nat.zero_le _) ?_
 repeat refine sq ?_
 refine WPU.region Try.tb_ok (RS.op (u:=.ptr 0 0 0) (σ':=⟨[(0,.row (cGDecision p1) 57)],1⟩) rfl (op_box rfl rfl rfl) rfl rfl (RS.as rfl rfl rfl rfl (RS.done ?_)))
 repeat refine gq ?_
 repeat refine sq ?_
 obtain ⟨r3,h4,hF⟩:=bindO_some hF
 refine WPU.drawE Try.tb_ok [] (by kernel_rfl) ?_
 refine RD.look (u:=.isl false (List.map cGProp c2)) rfl (li_one Try.und33 rfl rfl rfl) rfl rfl (RD.look (u:=.ptr 0 0 0) rfl (op_fa Try.und57 rfl (sz_of Try.inf38) rfl rfl rfl) rfl rfl (RD.look (u:=.agg (cGProp p1.Propx)) rfl (ld_agg Try.und38 rfl (sz_of Try.inf38) rfl rfl rfl) rfl rfl (RD.free (u:=.bool r3) (args:=[.isl false (List.map cGProp c2),.agg (cGProp p1.Propx)]) rfl (op_call rfl rfl Try.fn46 Try.hb46 rfl rfl) (fun s=>disc_has_ok n c2 p1.Propx r3 h4 s) rfl rfl (RD.look (u:=.ptr 0 0 4) rfl (op_fa Try.und57 rfl (sz_of Try.inf4) rfl rfl rfl) rfl rfl (RD.look (u:=.bool p1.Yes) rfl (ld_one Try.und4 rfl rfl rfl rfl) rfl rfl ?_)))))
 refine RD.look (u:=.bool (!(r3 == p1.Yes))) rfl (op_bin rfl rfl (by simp only [g2,toV,binX,guardX,eqv,cond_true,ofV,Try.und4])) rfl rfl ?_
 refine RD.as rfl rfl rfl rfl ?_
 refine RD.done ⟨by kernel_rfl,trivial,?_⟩
 repeat refine gq ?_
 repeat refine sq ?_
 refine WPU.ret ?_
 repeat refine gq ?_
 have hr:=Option.some.inj hF
 subst hr
 exact ⟨.inr rfl,[.bool (!(r3 == p1.Yes))],res_t rfl (res_n),.bool (!(r3 == p1.Yes)),⟨[],0⟩,Nat.le_refl _,Gh.toR (.bool (!(r3 == p1.Yes))) rfl,rfl,BU.h⟩
def q02u (z9 : Int) (rc1 : Int→(List Int)→Option ((List Int))) (l20 : List Int) : Option ((List Int)) :=
 rc1 (IntKind.i64.wrap (z9 + 1)) l20
def q03u  (l12 : List Int) : Option ((List Int)) :=
 some l12
def q01o (p1 : List (List GProp)) (p2 : List GDecision) (n : Nat) : Nat→Int→(List Int)→Option ((List Int))
 | 0,_,_=>none
 | m1 + 1,z9,l10 =>
  cond (decide (z9 < (p1.length : Int)))
   (bindO (idxO p1 z9) fun x15 =>
   bindO (q00a (q01x n) n p2 x15) fun r17 =>
   cond (!r17)
    (needO ((l10.length + 1) * 8 ≤ 140737488355328∧l10.length + 1 ≤ 140737488355328) (
    q02u z9 (q01o p1 p2 n m1) (l10 ++ [z9])))
    (q02u z9 (q01o p1 p2 n m1) l10))
   (q03u l10)
def q02n (n : Nat) (p1 : List (List GProp)) (p2 : List GDecision) : Option ((List Int)) :=
 q01o p1 p2 n n 0 ([] : List Int)
theorem disc_remaining_0 (n : Nat) (p1 : List (List GProp)) (p2 : List GDecision) (r : (List Int)) (hF : q02n n p1 p2 = some r) : EvU Try.prog 47 [.isl false (List.map (cL cGProp) p1),.isl false (List.map cGDecision p2)] ⟨[],0⟩ (fun u _=>u = .isl false (List.map (cI .i64) r)∧Bel 0 u):=by
 unfold q02n at hF
 refine EvU.of_body Try.tb_ok Try.fn47 rfl ?_
 refine WPU.ghost (tm':=fr 27 [(0,.isl false (List.map (cL cGProp) p1)),(1,.isl false (List.map cGDecision p2))]) (Gh.start (Nat.le_of_ble_eq_true rfl)) (Nat.zero_le _) ?_
 repeat refine sq ?_
 refine WPU.region Try.tb_ok (RS.as rfl rfl rfl rfl (RS.done ?_))
 repeat refine gq ?_
 repeat refine sq ?_
 refine WPU.region Try.tb_ok (RS.as rfl rfl rfl rfl (RS.done ?_))
 repeat refine gq ?_
 repeat refine sq ?_
 refine WPU.region Try.tb_ok (RS.mv rfl rfl rfl rfl (RS.op rfl (op_len rfl rfl rfl (len_isl (cL cGProp) Try.und82)) rfl rfl (RS.mv rfl rfl rfl rfl (RS.done ?_))))
 repeat refine gq ?_
 repeat refine sq ?_
 refine WPU.ghost (tm':=fr 27 [(1,.isl false (List.map cGDecision p2)),(5,.vl 0 0 0 (([] : List Int).length)),(9,.isl false (List.map (cL cGProp) p1)),(10,.int .i64 (p1.length : Int)),(11,.int .i64 0)]) (σ':=⟨[(0,.vec (List.map (cI .i64) ([] : List Int)).flatten 3 1 0)],1⟩) (Gh.trans (Gh.nilS 5 3 1 (by decide) (Nat.zero_le _) rfl rfl) (Gh.eqS ⟨rfl,rfl,rfl,rfl,rfl,trivial⟩ rfl)) (Nat.zero_le _) ?_
 refine WPU.ghost (tm':=fr 27 [(1,.isl false (List.map cGDecision p2)),(5,.vl 0 0 0 (([] : List Int).length)),(9,.isl false (List.map (cL cGProp) p1)),(10,.int .i64 (p1.length : Int)),(11,.int .i64 0)]) (Gh.sub ⟨rfl,rfl,rfl,rfl,rfl,trivial⟩) (Nat.zero_le _) ?_
 refine WPU.loopK (fun m tm σ=>∃ z9 : Int,∃ l10 : List Int,∃ t11 : Nat,q01o p1 p2 n m z9 l10 = some r∧tm = fr 27 [(1,.isl false (List.map cGDecision p2)),(5,.vl 0 t11 0 l10.length),(9,.isl false (List.map (cL cGProp) p1)),(10,.int .i64 (p1.length : Int)),(11,.int .i64 z9)]∧σ = ⟨[(0,.vec (List.map (cI .i64) l10).flatten 3 1 t11)],1⟩) (fun tm σ=>∃ l12 : List Int,∃ t13 : Nat,q03u l12 = some r∧tm = fr 27 [(5,.vl 0 t13 0 l12.length)]∧σ = ⟨[(0,.vec (List.map (cI .i64) l12).flatten 3 1 t13)],1⟩) n ⟨0,([] : List Int),0,hF,rfl,rfl⟩ ?_ ?_
 rintro _ _ ⟨l12,t13,hF,rfl,rfl⟩
 unfold q03u at hF
 repeat refine gq ?_
 repeat refine sq ?_
 refine WPU.region Try.tb_ok (RS.mv rfl rfl rfl rfl (RS.as rfl rfl rfl rfl (RS.done ?_)))
 repeat refine gq ?_
 repeat refine sq ?_
 refine WPU.ret ?_
 repeat refine gq ?_
 have hr:=Option.some.inj hF
 subst hr
 exact ⟨.inr rfl,[.vl 0 t13 0 l12.length],res_t rfl (res_n),.isl false (List.map (cI .i64) l12),⟨[],0⟩,Nat.le_refl _,Gh.trans (Gh.fz (tm':=[.isl false (List.map (cI .i64) l12)]) (h':=[]) 0 (.vec (List.map (cI .i64) l12).flatten 3 1 t13) 1 rfl (by simp) (by simp only [oneU,fzL_nil,fzL_cons,fz_int,fz_bool,fz_str,fz_nils,fz_nilp,fz_nilm,fz_nilf,fz_junk,fz_isl,fz_map,fz_agg,fz_tup,fz_fn,junkT,fz_vl (len_cI .i64)]) (by simp only [fzH,fzB,ug,Nat.beq,cond_true,cond_false,oneU,fzL_nil,fzL_cons,fz_int,fz_bool,fz_str,fz_nils,fz_nilp,fz_nilm,fz_nilf,fz_junk,fz_isl,fz_map,fz_agg,fz_tup,fz_fn,junkT,fz_vl (len_cI .i64)])) (Gh.toR (.isl false (List.map (cI .i64) l12)) rfl),rfl,BU.h⟩
 rintro m1 _ _ ⟨z9,l10,t11,hF,rfl,rfl⟩
 rcases m1 with _ | m1
 cases hF
 unfold q01o at hF
 repeat refine sq ?_
 refine WPU.region Try.tb_ok (RS.op rfl (op_int rfl rfl (ix_lss _ _ _) rfl) rfl rfl (RS.done ?_))
 repeat refine gq ?_
 repeat refine sq ?_
 refine WPU.condS (t:=(decide (z9 < (p1.length : Int)))) rfl (fun h14=>?_) (fun h14=>?_)
 replace hF:=cond_t h14 hF
 repeat refine sq ?_
 refine WPU.skip ?_
 repeat refine gq ?_
 repeat refine sq ?_
 refine WPU.block ?_
 repeat refine sq ?_
 obtain ⟨x15,h16,hF⟩:=bindO_some hF
 refine WPU.region Try.tb_ok (RS.mv rfl rfl rfl rfl (RS.op (u:=.iptr [.isl false (List.map cGProp x15)]) rfl (op_ia rfl rfl (ia_isl (cL cGProp) Try.und82 (sz_of Try.inf33) (len_cL cGProp) h16 rfl)) rfl rfl (RS.op (u:=.isl false (List.map cGProp x15)) rfl (li_one Try.und33 rfl rfl rfl) rfl rfl (RS.op (u:=.ptr 1 0 0) (σ':=⟨[(1,.row [.nils] 33),(0,.vec (List.map (cI .i64) l10).flatten 3 1 t11)],2⟩) rfl (op_alloc Try.inf33 rfl rfl) rfl rfl (RS.as rfl rfl rfl rfl (RS.opn (u:=.junk) (σ':=⟨[(1,.row [.isl false (List.map cGProp x15)] 33),(0,.vec (List.map (cI .i64) l10).flatten 3 1 t11)],2⟩) rfl (op_store (sz_of Try.inf33) rfl rfl rfl rfl rfl rfl rfl rfl) rfl (RS.done ?_)))))))
 repeat refine gq ?_
 repeat refine sq ?_
 refine WPU.region Try.tb_ok (RS.op rfl (op_fun rfl rfl) rfl rfl (RS.as rfl rfl rfl rfl (RS.done ?_)))
 repeat refine gq ?_
 repeat refine sq ?_
 obtain ⟨r17,h18,hF⟩:=bindO_some hF
 refine WPU.region Try.tb_ok ?_
 repeat refine RS.mv rfl rfl rfl rfl ?_
 refine RS.call (u:=.bool r17) (args:=[.isl false (List.map cGDecision p2),.fn (.func 66) [] [.ptr 1 0 0]]) rfl (op_call rfl rfl Try.fn41 Try.hb41 rfl rfl) (EvU.view (q030 (q01x n) (disc_remaining_1_0 n) n p2 x15 r17 h18) BUL.h (by simp only [toV,toVL,okL,okC,cond_true] <;> rfl) (fun m=>by simp [ren,renL]) (Gh.fz (tm':=[.isl false (List.map cGDecision p2),.fn (.func 66) [] [.iptr [.isl false (List.map cGProp x15)]]]) (h':=[(0,.vec (List.map (cI .i64) l10).flatten 3 1 t11)]) 1 (.row [.isl false (List.map cGProp x15)] 33) 1 rfl (by simp) (by simp only [oneU,fzL_nil,fzL_cons,fz_int,fz_bool,fz_str,fz_nils,fz_nilp,fz_nilm,fz_nilf,fz_junk,fz_isl,fz_map,fz_agg,fz_tup,fz_fn,junkT,fz_sl,fz_p0,fzL_bel _ _ _ (bel_flat 1 (fun q=>bel_cI _ .i64 q) l10),Nat.reduceLeDiff,Nat.reduceMul,List.length_cons,List.length_nil,Nat.reduceAdd] <;> simp only [chunks,List.take,List.drop,List.map,cI,cB,cS,cL]) (by simp only [fzH,fzB,ug,Nat.beq,cond_true,cond_false,oneU,fzL_nil,fzL_cons,fz_int,fz_bool,fz_str,fz_nils,fz_nilp,fz_nilm,fz_nilf,fz_junk,fz_isl,fz_map,fz_agg,fz_tup,fz_fn,junkT,fz_sl,fz_p0,fzL_bel _ _ _ (bel_flat 1 (fun q=>bel_cI _ .i64 q) l10),Nat.reduceLeDiff,Nat.reduceMul,List.length_cons,List.length_nil,Nat.reduceAdd] <;> simp only [chunks,List.take,List.drop,List.map,cI,cB,cS,cL]))) rfl rfl ?_
 refine RS.op (u:=.bool (!r17)) rfl (op_un rfl rfl rfl rfl) rfl rfl (RS.done ?_)
 repeat refine gq ?_
 repeat refine sq ?_
 refine WPU.joinK (fun tm σ=>∃ l20 : List Int,∃ t21 : Nat,q02u z9 (q01o p1 p2 n m1) l20 = some r∧tm = fr 27 [(1,.isl false (List.map cGDecision p2)),(5,.vl 0 t21 0 l20.length),(9,.isl false (List.map (cL cGProp) p1)),(10,.int .i64 (p1.length : Int)),(11,.int .i64 z9)]∧σ = ⟨[(1,.row [.isl false (List.map cGProp x15)] 33),(0,.vec (List.map (cI .i64) l20).flatten 3 1 t21)],2⟩) ?_ ?_
 rintro _ _ ⟨l20,t21,hF,rfl,rfl⟩
 unfold q02u at hF
 repeat refine gq ?_
 repeat refine sq ?_
 refine WPU.region Try.tb_ok (RS.op rfl (op_int rfl rfl (ix_add _ _ _) rfl) rfl rfl (RS.mv rfl rfl rfl rfl (RS.done ?_)))
 repeat refine gq ?_
 exact ⟨m1,_,_,Nat.lt_succ_self _,⟨(IntKind.i64.wrap (z9 + 1)),l20,t21,hF,rfl,rfl⟩,(Nat.zero_le _),Gh.toC (n1:=1) ⟨rfl,rfl,rfl,rfl,rfl,trivial⟩ rfl (Nat.zero_le _) (by simp)⟩
 refine WPU.condS (t:=(!r17)) rfl (fun h19=>?_) (fun h19=>?_)
 replace hF:=cond_t h19 hF
 repeat refine sq ?_
 obtain ⟨h22,hF⟩:=needO_some hF
 refine WPU.region Try.tb_ok ?_
 repeat refine RS.mv rfl rfl rfl rfl ?_
 refine RS.op (u:=.sl 2 0 1 1) (σ':=⟨[(2,.row [.int .i64 z9] 3),(1,.row [.isl false (List.map cGProp x15)] 33),(0,.vec (List.map (cI .i64) l10).flatten 3 1 t11)],3⟩) rfl (op_bsl Try.und43 Try.inf3 rfl rfl rfl rfl rfl rfl rfl) rfl rfl (RS.op (u:=.vl 0 (t11 + 1) 0 ((l10 ++ [z9]).length)) (σ':=⟨[(2,.row [.int .i64 z9] 3),(1,.row [.isl false (List.map cGProp x15)] 33),(0,.vec (List.map (cI .i64) (l10 ++ [z9])).flatten 3 1 (t11 + 1))],3⟩) rfl (op_app rfl rfl rfl rfl (app_vl (cI .i64) ([z9]) Try.und43 Try.und43 Try.inf3 rfl (len_cI .i64) rfl (src_row (cI .i64) [z9] rfl rfl rfl rfl) h22)) rfl rfl (RS.as rfl rfl rfl rfl (RS.done ?_)))
 repeat refine gq ?_
 exact ⟨_,_,⟨(l10 ++ [z9]),(t11 + 1),hF,rfl,rfl⟩,(Nat.zero_le _),Gh.toC (n1:=2) ⟨rfl,rfl,rfl,rfl,rfl,trivial⟩ rfl (Nat.zero_le _) (by simp)⟩
 replace hF:=cond_f h19 hF
 repeat refine sq ?_
 refine WPU.skip ?_
 repeat refine gq ?_
 exact ⟨_,_,⟨l10,t11,hF,rfl,rfl⟩,(Nat.zero_le _),Gh.toC (n1:=2) ⟨rfl,rfl,rfl,rfl,rfl,trivial⟩ rfl (Nat.zero_le _) (by simp)⟩
 replace hF:=cond_f h14 hF
 repeat refine sq ?_
 refine WPU.exit ?_
 repeat refine gq ?_
 exact ⟨_,_,⟨l10,t11,hF,rfl,rfl⟩,(Nat.zero_le _),Gh.toC (n1:=1) ⟨rfl,trivial⟩ rfl (Nat.zero_le _) (by simp)⟩
theorem disc_remaining_ok (n : Nat) (p1 : List (List GProp)) (p2 : List GDecision) (r : (List Int)) (hF : q02n n p1 p2 = some r) (σ : Sg) : EvU Try.prog 47 [.isl false (List.map (cL cGProp) p1),.isl false (List.map cGDecision p2)] σ (fun u σ'=>u = .isl false (List.map (cI .i64) r)∧σ' = σ) :=
 EvU.pure1C (disc_remaining_0 n p1 p2 r hF) σ
def q00g   : Option (Int) :=
 some (-1)
def q001 (p1 : List GDecision) (c2 : GProp) (f1 : GDecision→GProp→Option (Bool)) : Nat→Int→Option (Int)
 | 0,_=>none
 | m1 + 1,z6 =>
  cond (decide (z6 < (p1.length : Int)))
   (bindO (idxO p1 z6) fun x8 =>
   bindO (f1 x8 c2) fun r10 =>
   cond r10
    (some z6)
    ((q001 p1 c2 f1 m1) (IntKind.i64.wrap (z6 + 1))))
   (q00g)
def q009 (f1 : GDecision→GProp→Option (Bool)) (n : Nat) (p1 : List GDecision) (c2 : GProp) : Option (Int) :=
 q001 p1 c2 f1 n 0
theorem q02z (f1 : GDecision→GProp→Option (Bool)) (hf1 : ∀ (a0 : GDecision) (a1 : GProp) (r : Bool),f1 a0 a1 = some r→EvU Try.prog 62 [.agg (cGDecision a0),.iptr (cGProp a1)] ⟨[],0⟩ (fun u _=>u = .bool r∧Bel 0 u)) (n : Nat) (p1 : List GDecision) (c2 : GProp) (r : Int) (hF : q009 f1 n p1 c2 = some r) : EvU Try.prog 63 [.isl false (List.map cGDecision p1),.fn (.func 62) [] [.iptr (cGProp c2)]] ⟨[],0⟩ (fun u _=>u = .int .i64 r∧Bel 0 u):=by
 unfold q009 at hF
 have hf1S : ∀ (a0 : GDecision) (a1 : GProp) (r : Bool),f1 a0 a1 = some r→∀ σ,EvU Try.prog 62 [.agg (cGDecision a0),.iptr (cGProp a1)] σ (fun u σ'=>u = .bool r∧σ' = σ):=fun a0 a1 r h σ=>EvU.pure1C (hf1 a0 a1 r h) σ
 refine EvU.of_body Try.tb_ok Try.fn63 rfl ?_
 refine WPU.ghost (tm':=fr 19 [(0,.isl false (List.map cGDecision p1)),(1,.fn (.func 62) [] [.iptr (cGProp c2)])]) (Gh.start (Nat.le_of_ble_eq_true rfl)) (Nat.zero_le _) ?_
 repeat refine sq ?_
 refine WPU.region Try.tb_ok (RS.as rfl rfl rfl rfl (RS.done ?_))
 repeat refine gq ?_
 repeat refine sq ?_
 refine WPU.region Try.tb_ok (RS.mv rfl rfl rfl rfl (RS.op rfl (op_len rfl rfl rfl (len_isl cGDecision Try.und25)) rfl rfl (RS.mv rfl rfl rfl rfl (RS.done ?_))))
 repeat refine gq ?_
 repeat refine sq ?_
 refine WPU.ghost (tm':=fr 19 [(0,.isl false (List.map cGDecision p1)),(1,.fn (.func 62) [] [.iptr (cGProp c2)]),(7,.int .i64 (p1.length : Int)),(8,.int .i64 0)]) (Gh.sub ⟨rfl,rfl,rfl,rfl,trivial⟩) (Nat.zero_le _) ?_
 refine WPU.loopK (fun m tm σ=>∃ z6 : Int,q001 p1 c2 f1 m z6 = some r∧tm = fr 19 [(0,.isl false (List.map cGDecision p1)),(1,.fn (.func 62) [] [.iptr (cGProp c2)]),(7,.int .i64 (p1.length : Int)),(8,.int .i64 z6)]∧σ = ⟨[],0⟩) (fun tm σ=>q00g = some r∧tm = fr 19 []∧σ = ⟨[],0⟩) n ⟨0,hF,rfl,rfl⟩ ?_ ?_
 rintro _ _ ⟨hF,rfl,rfl⟩
 unfold q00g at hF
 repeat refine gq ?_
 repeat refine sq ?_
 refine WPU.region Try.tb_ok (RS.as rfl rfl rfl rfl (RS.done ?_))
 repeat refine gq ?_
 repeat refine sq ?_
 refine WPU.ret ?_
 repeat refine gq ?_
 have hr:=Option.some.inj hF
 subst hr
 exact ⟨.inr rfl,[.int .i64 (-1)],res_t rfl (res_n),.int .i64 (-1),⟨[],0⟩,Nat.le_refl _,Gh.toR (.int .i64 (-1)) rfl,rfl,BU.h⟩
 rintro m1 _ _ ⟨z6,hF,rfl,rfl⟩
 rcases m1 with _ | m1
 cases hF
 unfold q001 at hF
 repeat refine sq ?_
 refine WPU.region Try.tb_ok (RS.op rfl (op_int rfl rfl (ix_lss _ _ _) rfl) rfl rfl (RS.done ?_))
 repeat refine gq ?_
 repeat refine sq ?_
 refine WPU.condS (t:=(decide (z6 < (p1.length : Int)))) rfl (fun h7=>?_) (fun h7=>?_)
 replace hF:=cond_t h7 hF
 repeat refine sq ?_
 refine WPU.skip ?_
 repeat refine gq ?_
 repeat refine sq ?_
 refine WPU.block ?_
 repeat refine sq ?_
 refine WPU.region Try.tb_ok (RS.mv rfl rfl rfl rfl (RS.as rfl rfl rfl rfl (RS.done ?_)))
 repeat refine gq ?_
 repeat refine sq ?_
 obtain ⟨x8,h9,hF⟩:=bindO_some hF
 obtain ⟨r10,h11,hF⟩:=bindO_some hF
 refine WPU.region Try.tb_ok ?_
 repeat refine RS.mv rfl rfl rfl rfl ?_
 refine RS.op (u:=.iptr (cGDecision x8)) rfl (op_ia rfl rfl (ia_isl cGDecision Try.und25 (sz_of Try.inf57) q004 h9 rfl)) rfl rfl (RS.op (u:=.agg (cGDecision x8)) rfl (li_agg Try.und57 rfl (sz_of Try.inf57) rfl rfl) rfl rfl (RS.call (u:=.bool r10) (args:=[.agg (cGDecision x8),.iptr (cGProp c2)]) rfl (op_call rfl rfl Try.fn62 Try.hb62 rfl rfl) (hf1S x8 c2 r10 h11 _) rfl rfl (RS.done ?_)))
 repeat refine gq ?_
 repeat refine sq ?_
 refine WPU.condS (t:=r10) rfl (fun h12=>?_) (fun h12=>?_)
 replace hF:=cond_t h12 hF
 repeat refine sq ?_
 refine WPU.region Try.tb_ok (RS.mv rfl rfl rfl rfl (RS.as rfl rfl rfl rfl (RS.done ?_)))
 repeat refine gq ?_
 repeat refine sq ?_
 refine WPU.ret ?_
 repeat refine gq ?_
 have hr:=Option.some.inj hF
 subst hr
 exact ⟨.inr rfl,[.int .i64 z6],res_t rfl (res_n),.int .i64 z6,⟨[],0⟩,Nat.le_refl _,Gh.toR (.int .i64 z6) rfl,rfl,BU.h⟩
 replace hF:=cond_f h12 hF
 repeat refine sq ?_
 refine WPU.skip ?_
 repeat refine gq ?_
 repeat refine sq ?_
 refine WPU.region Try.tb_ok (RS.op rfl (op_int rfl rfl (ix_add _ _ _) rfl) rfl rfl (RS.mv rfl rfl rfl rfl (RS.done ?_)))
 repeat refine gq ?_
 exact ⟨m1,_,_,Nat.lt_succ_self _,⟨(IntKind.i64.wrap (z6 + 1)),hF,rfl,rfl⟩,(Nat.zero_le _),Gh.toC (n1:=0) ⟨rfl,rfl,rfl,rfl,trivial⟩ rfl (Nat.zero_le _) (by simp)⟩
 replace hF:=cond_f h7 hF
 repeat refine sq ?_
 refine WPU.exit ?_
 repeat refine gq ?_
 exact ⟨_,_,⟨hF,rfl,rfl⟩,(Nat.zero_le _),Gh.toC (n1:=0) trivial rfl (Nat.zero_le _) (by simp)⟩
theorem q02v (f1 : GDecision→GProp→Option (Bool)) (hf1 : ∀ (a0 : GDecision) (a1 : GProp) (r : Bool),f1 a0 a1 = some r→EvU Try.prog 62 [.agg (cGDecision a0),.iptr (cGProp a1)] ⟨[],0⟩ (fun u _=>u = .bool r∧Bel 0 u)) (n : Nat) (p1 : List GDecision) (c2 : GProp) (r : Int) (hF : q009 f1 n p1 c2 = some r) (σ : Sg) : EvU Try.prog 63 [.isl false (List.map cGDecision p1),.fn (.func 62) [] [.iptr (cGProp c2)]] σ (fun u σ'=>u = .int .i64 r∧σ' = σ) :=
 EvU.pure1C (q02z f1 hf1 n p1 c2 r hF) σ
def q007 (f1 : GDecision→GProp→Option (Bool)) (n : Nat) (p1 : List GDecision) (c2 : GProp) : Option (Bool) :=
 bindO (q009 f1 n p1 c2) fun r3 =>
 some (decide (r3 ≥ 0))
theorem q02l (f1 : GDecision→GProp→Option (Bool)) (hf1 : ∀ (a0 : GDecision) (a1 : GProp) (r : Bool),f1 a0 a1 = some r→EvU Try.prog 62 [.agg (cGDecision a0),.iptr (cGProp a1)] ⟨[],0⟩ (fun u _=>u = .bool r∧Bel 0 u)) (n : Nat) (p1 : List GDecision) (c2 : GProp) (r : Bool) (hF : q007 f1 n p1 c2 = some r) : EvU Try.prog 41 [.isl false (List.map cGDecision p1),.fn (.func 62) [] [.iptr (cGProp c2)]] ⟨[],0⟩ (fun u _=>u = .bool r∧Bel 0 u):=by
 unfold q007 at hF
 have hf1S : ∀ (a0 : GDecision) (a1 : GProp) (r : Bool),f1 a0 a1 = some r→∀ σ,EvU Try.prog 62 [.agg (cGDecision a0),.iptr (cGProp a1)] σ (fun u σ'=>u = .bool r∧σ' = σ):=fun a0 a1 r h σ=>EvU.pure1C (hf1 a0 a1 r h) σ
 refine EvU.of_body Try.tb_ok Try.fn41 rfl ?_
 refine WPU.ghost (tm':=fr 9 [(0,.isl false (List.map cGDecision p1)),(1,.fn (.func 62) [] [.iptr (cGProp c2)])]) (Gh.start (Nat.le_of_ble_eq_true rfl)) (Nat.zero_le _) ?_
 repeat refine sq ?_
 refine WPU.region Try.tb_ok (RS.as rfl rfl rfl rfl (RS.done ?_))
 repeat refine gq ?_
 repeat refine sq ?_
 obtain ⟨r3,h4,hF⟩:=bindO_some hF
 refine WPU.region Try.tb_ok ?_
 repeat refine RS.mv rfl rfl rfl rfl ?_
 refine RS.call (u:=.int .i64 r3) (args:=[.isl false (List.map cGDecision p1),.fn (.func 62) [] [.iptr (cGProp c2)]]) rfl (op_call rfl rfl Try.fn63 Try.hb63 rfl rfl) (q02v f1 hf1 n p1 c2 r3 h4 _) rfl rfl (RS.op rfl (op_int rfl rfl (ix_geq _ _ _) rfl) rfl rfl (RS.as rfl rfl rfl rfl (RS.done ?_)))
 repeat refine gq ?_
 repeat refine sq ?_
 refine WPU.ret ?_
 repeat refine gq ?_
 have hr:=Option.some.inj hF
 subst hr
 exact ⟨.inr rfl,[.bool (decide (r3 ≥ 0))],res_t rfl (res_n),.bool (decide (r3 ≥ 0)),⟨[],0⟩,Nat.le_refl _,Gh.toR (.bool (decide (r3 ≥ 0))) rfl,rfl,BU.h⟩
def q011 (n : Nat) (p1 : GDecision) (c2 : GProp) : Option (Bool) :=
 some (eqGProp p1.Propx c2)
theorem q04z (n : Nat) (p1 : GDecision) (c2 : GProp) (r : Bool) (hF : q011 n p1 c2 = some r) : EvU Try.prog 62 [.agg (cGDecision p1),.iptr (cGProp c2)] ⟨[],0⟩ (fun u _=>u = .bool r∧Bel 0 u):=by
 unfold q011 at hF
 refine EvU.of_body Try.tb_ok Try.fn62 rfl ?_
 refine WPU.ghost (tm':=fr 8 [(0,.agg (cGDecision p1)),(1,.iptr (cGProp c2))]) (Gh.start (Nat.le_of_ble_eq_true rfl)) (Nat.zero_le _) ?_
 repeat refine sq ?_
 refine WPU.region Try.tb_ok (RS.op (u:=.ptr 0 0 0) (σ':=⟨[(0,.row (cGDecision p1) 57)],1⟩) rfl (op_box rfl rfl rfl) rfl rfl (RS.as rfl rfl rfl rfl (RS.done ?_)))
 repeat refine gq ?_
 repeat refine sq ?_
 refine WPU.region Try.tb_ok (RS.op (u:=.ptr 0 0 0) rfl (op_fa Try.und57 rfl (sz_of Try.inf38) rfl rfl rfl) rfl rfl (RS.op (u:=.agg (cGProp p1.Propx)) rfl (ld_agg Try.und38 rfl (sz_of Try.inf38) rfl rfl rfl) rfl rfl (RS.op (u:=.agg (cGProp c2)) rfl (li_agg Try.und38 rfl (sz_of Try.inf38) rfl rfl) rfl rfl (RS.op (u:=.bool (eqGProp p1.Propx c2)) rfl (op_bin rfl rfl (eqq38_eql p1.Propx c2)) rfl rfl (RS.as rfl rfl rfl rfl (RS.done ?_))))))
 repeat refine gq ?_
 repeat refine sq ?_
 refine WPU.ret ?_
 repeat refine gq ?_
 have hr:=Option.some.inj hF
 subst hr
 exact ⟨.inr rfl,[.bool (eqGProp p1.Propx c2)],res_t rfl (res_n),.bool (eqGProp p1.Propx c2),⟨[],0⟩,Nat.le_refl _,Gh.toR (.bool (eqGProp p1.Propx c2)) rfl,rfl,BU.h⟩
def q01c (n : Nat) (p1 : Gwork) (p2 : GProp) : Option (Bool) :=
 bindO (q007 (q011 n) n p1.Session.Decisions p2) fun r3 =>
 some r3
theorem annotate_work_decided_0 (n : Nat) (p1 : Gwork) (p2 : GProp) (r : Bool) (hF : q01c n p1 p2 = some r) : EvU Try.prog 40 [.agg (cGSession p1.Session),.agg (cGProp p2)] ⟨[],0⟩ (fun u _=>u = .bool r∧Bel 0 u):=by
 unfold q01c at hF
 refine EvU.of_body Try.tb_ok Try.fn40 rfl ?_
 refine WPU.ghost (tm':=fr 10 [(0,.agg (cGSession p1.Session)),(1,.agg (cGProp p2))]) (Gh.start (Nat.le_of_ble_eq_true rfl)) (Nat.zero_le _) ?_
 repeat refine sq ?_
 refine WPU.region Try.tb_ok (RS.op (u:=.ptr 0 0 0) (σ':=⟨[(0,.row (cGSession p1.Session) 72)],1⟩) rfl (op_box rfl rfl rfl) rfl rfl (RS.op (u:=.ptr 1 0 0) (σ':=⟨[(1,.row (cGProp p2) 38),(0,.row (cGSession p1.Session) 72)],2⟩) rfl (op_box rfl rfl rfl) rfl rfl (RS.as rfl rfl rfl rfl (RS.done ?_))))
 repeat refine gq ?_
 repeat refine sq ?_
 obtain ⟨r3,h4,hF⟩:=bindO_some hF
 refine WPU.region Try.tb_ok (RS.op (u:=.ptr 0 0 0) rfl (op_fa Try.und72 rfl (sz_of Try.inf27) rfl rfl rfl) rfl rfl (RS.op (u:=.ptr 0 0 1) rfl (op_fa Try.und27 rfl (sz_of Try.inf25) rfl rfl rfl) rfl rfl (RS.op (u:=.isl false (List.map cGDecision p1.Session.Decisions)) rfl (ld_one Try.und25 rfl rfl rfl rfl) rfl rfl (RS.op rfl (op_fun rfl rfl) rfl rfl ?_))))
 refine RS.call (u:=.bool r3) (args:=[.isl false (List.map cGDecision p1.Session.Decisions),.fn (.func 62) [] [.ptr 1 0 0]]) rfl (op_call rfl rfl Try.fn41 Try.hb41 rfl rfl) (EvU.view (q02l (q011 n) (q04z n) n p1.Session.Decisions p2 r3 h4) BUL.h (by simp only [toV,toVL,okL,okC,cond_true] <;> rfl) (fun m=>by simp [ren,renL]) (Gh.fz (tm':=[.isl false (List.map cGDecision p1.Session.Decisions),.fn (.func 62) [] [.iptr (cGProp p2)]]) (h':=[(0,.row (cGSession p1.Session) 72)]) 1 (.row [.int .i64 p2.Kind,.str p2.Name,.int .i64 p2.From,.int .i64 p2.To] 38) 4 rfl (by simp) (by simp only [oneU,fzL_nil,fzL_cons,fz_int,fz_bool,fz_str,fz_nils,fz_nilp,fz_nilm,fz_nilf,fz_junk,fz_isl,fz_map,fz_agg,fz_tup,fz_fn,junkT,fz_sl,fz_p0,fz_cGProp,q01k,Nat.reduceLeDiff,Nat.reduceMul,List.length_cons,List.length_nil,Nat.reduceAdd] <;> simp only [chunks,List.take,List.drop,List.map,cGProp]) (by simp only [fzH,fzB,ug,Nat.beq,cond_true,cond_false,oneU,fzL_nil,fzL_cons,fz_int,fz_bool,fz_str,fz_nils,fz_nilp,fz_nilm,fz_nilf,fz_junk,fz_isl,fz_map,fz_agg,fz_tup,fz_fn,junkT,fz_sl,fz_p0,fz_cGProp,q01k,Nat.reduceLeDiff,Nat.reduceMul,List.length_cons,List.length_nil,Nat.reduceAdd] <;> simp only [chunks,List.take,List.drop,List.map,cGProp]))) rfl rfl ?_
 refine RS.as rfl rfl rfl rfl (RS.done ?_)
 repeat refine gq ?_
 repeat refine sq ?_
 refine WPU.ret ?_
 repeat refine gq ?_
 have hr:=Option.some.inj hF
 subst hr
 exact ⟨.inr rfl,[.bool r3],res_t rfl (res_n),.bool r3,⟨[],0⟩,Nat.le_refl _,Gh.toR (.bool r3) rfl,rfl,BU.h⟩
theorem q02t (n : Nat) (p1 : Gwork) (p2 : GProp) (r : Bool) (hF : q01c n p1 p2 = some r) (σ : Sg) : EvU Try.prog 40 [.agg (cGSession p1.Session),.agg (cGProp p2)] σ (fun u σ'=>u = .bool r∧σ' = σ) :=
 EvU.pure1C (annotate_work_decided_0 n p1 p2 r hF) σ
def q027 (n : Nat) (p1 : Int) : Option ((List GDecision)) :=
 cond (decide (p1 < 0))
  (none)
  (cond (decide ((IntKind.i64.wrap (p1 - 0)) > 0))
   (needO (0 < (IntKind.i64.wrap (p1 - 0))∧(IntKind.i64.wrap (p1 - 0)).toNat * 48 ≤ 140737488355328∧(IntKind.i64.wrap (p1 - 0)).toNat ≤ 140737488355328) (
   needO (0 + (IntKind.i64.wrap (p1 - 0)).toNat ≤ (List.replicate (IntKind.i64.wrap (p1 - 0)).toNat (GDecision.mk (GProp.mk 0 [] 0 0) false)).length) (
   needO ((0 : Int) ≤ 0∧0 ≤ (((IntKind.i64.wrap (p1 - 0)).toNat : Nat) : Int)) (
   needO (0 ≤ (List.replicate (IntKind.i64.wrap (p1 - 0)).toNat (GDecision.mk (GProp.mk 0 [] 0 0) false)).length) (
    some ((List.replicate (IntKind.i64.wrap (p1 - 0)).toNat (GDecision.mk (GProp.mk 0 [] 0 0) false)).take 0))))))
   (some ([] : List GDecision)))
theorem slices_Grow_Decision_0 (n : Nat) (p1 : Int) (r : (List GDecision)) (hF : q027 n p1 = some r) : EvU Try.prog 88 [.nils,.int .i64 p1] ⟨[],0⟩ (fun u σ'=>∃ t,u = .vl 0 t 0 r.length∧σ' = ⟨[(0,.vec (List.map cGDecision r).flatten 57 5 t)],0 + 1⟩):=by
 unfold q027 at hF
 refine EvU.of_body Try.tb_ok Try.fn88 rfl ?_
 refine WPU.ghost (tm':=fr 27 [(0,.nils),(1,.int .i64 p1)]) (Gh.start (Nat.le_of_ble_eq_true rfl)) (Nat.zero_le _) ?_
 repeat refine sq ?_
 refine WPU.region Try.tb_ok (RS.as rfl rfl rfl rfl (RS.done ?_))
 repeat refine gq ?_
 repeat refine sq ?_
 refine WPU.region Try.tb_ok (RS.mv rfl rfl rfl rfl (RS.op rfl (op_int rfl rfl (ix_lss _ _ _) rfl) rfl rfl (RS.done ?_)))
 repeat refine gq ?_
 repeat refine sq ?_
 refine WPU.condS (t:=(decide (p1 < 0))) rfl (fun h2=>?_) (fun h2=>?_)
 replace hF:=cond_t h2 hF
 cases hF
 replace hF:=cond_f h2 hF
 repeat refine sq ?_
 refine WPU.skip ?_
 repeat refine gq ?_
 repeat refine sq ?_
 refine WPU.region Try.tb_ok ?_
 repeat refine RS.mv rfl rfl rfl rfl ?_
 refine RS.op (u:=.int .i64 0) rfl (op_cap0 rfl rfl rfl Try.und25) rfl rfl (RS.mv rfl rfl rfl rfl ?_)
 refine RS.op (u:=.int .i64 0) rfl (op_len rfl rfl rfl (by simp only [lenU,Try.und25])) rfl rfl ?_
 refine RS.op rfl (op_int rfl rfl (ix_sub _ _ _) rfl) rfl rfl (RS.op rfl (op_int rfl rfl (ix_sub _ _ _) rfl) rfl rfl (RS.as rfl rfl rfl rfl (RS.done ?_)))
 repeat refine gq ?_
 repeat refine sq ?_
 refine WPU.region Try.tb_ok (RS.mv rfl rfl rfl rfl (RS.op rfl (op_int rfl rfl (ix_gtr _ _ _) rfl) rfl rfl (RS.done ?_)))
 repeat refine gq ?_
 repeat refine sq ?_
 refine WPU.condS (t:=(decide ((IntKind.i64.wrap (p1 - 0)) > 0))) rfl (fun h3=>?_) (fun h3=>?_)
 replace hF:=cond_t h3 hF
 repeat refine sq ?_
 obtain ⟨h4,hF⟩:=needO_some hF
 obtain ⟨h5,hF⟩:=needO_some hF
 obtain ⟨h6,hF⟩:=needO_some hF
 refine WPU.region Try.tb_ok ?_
 repeat refine RS.mv rfl rfl rfl rfl ?_
 refine RS.op (u:=.int .i64 0) rfl (op_cap0 rfl rfl rfl Try.und25) rfl rfl ?_
 refine RS.op (u:=.nils) rfl (op_slice rfl em_n (em_s rfl) em_n (by simp only [sliceU,Try.und25,sizeX,Try.inf57]; rfl)) rfl rfl ?_
 refine RS.mv rfl rfl rfl rfl (RS.op (u:=.vl 0 0 0 ((IntKind.i64.wrap (p1 - 0)).toNat)) (σ':=⟨[(0,.vec (List.map cGDecision (List.replicate (IntKind.i64.wrap (p1 - 0)).toNat (GDecision.mk (GProp.mk 0 [] 0 0) false))).flatten 57 5 0)],1⟩) rfl (op_appm cGDecision (GDecision.mk (GProp.mk 0 [] 0 0) false) rfl rfl rfl rfl Try.und25 Try.und3 Try.inf57 rfl rfl rfl rfl h4) rfl rfl (RS.mv rfl rfl rfl rfl ?_))
 refine RS.op (u:=.int .i64 0) rfl (op_len rfl rfl rfl (by simp only [lenU,Try.und25])) rfl rfl ?_
 refine RS.op (u:=.vl 0 0 0 0) rfl (op_slice rfl em_n (em_s rfl) em_n (sl_vp cGDecision Try.und25 (sz_of Try.inf57) q004 (vo rfl) h5 (bnd_hi h6.1 h6.2))) rfl rfl (RS.as rfl rfl rfl rfl (RS.done ?_))
 repeat refine gq ?_
 repeat refine sq ?_
 refine WPU.region Try.tb_ok (RS.mv rfl rfl rfl rfl (RS.as rfl rfl rfl rfl (RS.done ?_)))
 repeat refine gq ?_
 repeat refine sq ?_
 refine WPU.ret ?_
 repeat refine gq ?_
 obtain ⟨h7,hF⟩:=needO_some hF
 have hr:=Option.some.inj hF
 subst hr
 exact ⟨.inr rfl,[.vl 0 0 0 0],res_t rfl res_n,.vl 0 0 0 0,⟨[(0,.vec (List.map cGDecision ((List.replicate (IntKind.i64.wrap (p1 - 0)).toNat (GDecision.mk (GProp.mk 0 [] 0 0) false)).take 0)).flatten 57 5 0)],1⟩,(Nat.zero_le _),Gh.trans (Gh.truncL (K:=0) cGDecision q004 rfl 0) (Gh.trans (Gh.only (fun k=>Nat.beq k 0)) (Gh.to (n1:=1) [] rfl rfl (Nat.zero_le _) (Nat.le_of_ble_eq_true rfl) BUL.h BH.h)),0,(by rw [List.length_take_of_le h7]),rfl⟩
 replace hF:=cond_f h3 hF
 repeat refine sq ?_
 refine WPU.skip ?_
 repeat refine gq ?_
 repeat refine sq ?_
 refine WPU.region Try.tb_ok (RS.mv rfl rfl rfl rfl (RS.as rfl rfl rfl rfl (RS.done ?_)))
 repeat refine gq ?_
 repeat refine sq ?_
 refine WPU.ret ?_
 repeat refine gq ?_
 have hr:=Option.some.inj hF
 subst hr
 exact ⟨.inr rfl,[.nils],res_t rfl res_n,.vl 0 0 0 0,⟨[(0,.vec (List.map cGDecision ([] : List GDecision)).flatten 57 5 0)],1⟩,(Nat.zero_le _),Gh.trans (Gh.nilvec (tm:=[.nils]) 0 57 5 (by decide) (Nat.zero_le _) rfl) (Gh.trans (Gh.only (fun k=>Nat.beq k 0)) (Gh.to (n1:=1) [] rfl rfl (Nat.zero_le _) (Nat.le_of_ble_eq_true rfl) BUL.h BH.h)),0,rfl,rfl⟩
def q021  (l21 : List GDecision) : Option ((List GDecision)) :=
 some l21
def q016 (p1 : List (List GDecision)) : Nat→Int→(List GDecision)→Option ((List GDecision))
 | 0,_,_=>none
 | m2 + 1,z18,l19 =>
  cond (decide (z18 < (p1.length : Int)))
   (bindO (idxO p1 z18) fun x24 =>
   needO ((l19.length + x24.length) * 48 ≤ 140737488355328∧l19.length + x24.length ≤ 140737488355328) (
   (q016 p1 m2) (IntKind.i64.wrap (z18 + 1)) (l19 ++ x24)))
   (q021 l19)
def q022 (p1 : List (List GDecision)) (n : Nat) (z9 : Int) : Option ((List GDecision)) :=
 bindO (q027 n z9) fun r10 =>
 q016 p1 n 0 r10
def q015 (p1 : List (List GDecision)) (n : Nat) : Nat→Int→Int→Option ((List GDecision))
 | 0,_,_=>none
 | m1 + 1,z7,z8 =>
  cond (decide (z8 < (p1.length : Int)))
   (bindO (idxO p1 z8) fun x28 =>
   cond (decide ((IntKind.i64.wrap (z7 + (x28.length : Int))) < 0))
    (none)
    ((q015 p1 n m1) (IntKind.i64.wrap (z7 + (x28.length : Int))) (IntKind.i64.wrap (z8 + 1))))
   (q022 p1 n z7)
def q01e (n : Nat) (p1 : List (List GDecision)) : Option ((List GDecision)) :=
 q015 p1 n n 0 0
theorem slices_Concat_Decision_0 (n : Nat) (p1 : List (List GDecision)) (r : (List GDecision)) (hF : q01e n p1 = some r) : EvU Try.prog 61 [.isl false (List.map (cL cGDecision) p1)] ⟨[],0⟩ (fun u _=>u = .isl false (List.map cGDecision r)∧Bel 0 u):=by
 unfold q01e at hF
 refine EvU.of_body Try.tb_ok Try.fn61 rfl ?_
 refine WPU.ghost (tm':=fr 36 [(0,.isl false (List.map (cL cGDecision) p1))]) (Gh.start (Nat.le_of_ble_eq_true rfl)) (Nat.zero_le _) ?_
 repeat refine sq ?_
 refine WPU.region Try.tb_ok (RS.as rfl rfl rfl rfl (RS.done ?_))
 repeat refine gq ?_
 repeat refine sq ?_
 refine WPU.region Try.tb_ok (RS.as rfl rfl rfl rfl (RS.done ?_))
 repeat refine gq ?_
 repeat refine sq ?_
 refine WPU.region Try.tb_ok (RS.mv rfl rfl rfl rfl (RS.op rfl (op_len rfl rfl rfl (len_isl (cL cGDecision) Try.und118)) rfl rfl (RS.mv rfl rfl rfl rfl (RS.done ?_))))
 repeat refine gq ?_
 repeat refine sq ?_
 refine WPU.ghost (tm':=fr 36 [(0,.isl false (List.map (cL cGDecision) p1)),(3,.int .i64 0),(9,.isl false (List.map (cL cGDecision) p1)),(10,.int .i64 (p1.length : Int)),(11,.int .i64 0)]) (Gh.sub ⟨rfl,rfl,rfl,rfl,rfl,trivial⟩) (Nat.zero_le _) ?_
 refine WPU.loopK (fun m tm σ=>∃ z7 : Int,∃ z8 : Int,q015 p1 n m z7 z8 = some r∧tm = fr 36 [(0,.isl false (List.map (cL cGDecision) p1)),(3,.int .i64 z7),(9,.isl false (List.map (cL cGDecision) p1)),(10,.int .i64 (p1.length : Int)),(11,.int .i64 z8)]∧σ = ⟨[],0⟩) (fun tm σ=>∃ z9 : Int,q022 p1 n z9 = some r∧tm = fr 36 [(0,.isl false (List.map (cL cGDecision) p1)),(3,.int .i64 z9)]∧σ = ⟨[],0⟩) n ⟨0,0,hF,rfl,rfl⟩ ?_ ?_
 rintro _ _ ⟨z9,hF,rfl,rfl⟩
 unfold q022 at hF
 repeat refine gq ?_
 repeat refine sq ?_
 obtain ⟨r10,h11,hF⟩:=bindO_some hF
 refine WPU.region Try.tb_ok (RS.mv rfl rfl rfl rfl ?_)
 refine RS.callx (R:=fun u σ'=>∃ t12,u = .vl 0 t12 0 r10.length∧σ' = ⟨[(0,.vec (List.map cGDecision r10).flatten 57 5 t12)],1⟩) (args:=[.nils,.int .i64 z9]) rfl (op_call rfl rfl Try.fn88 Try.hb88 rfl rfl) (EvU.own1 cGDecision (slices_Grow_Decision_0 n z9 r10 h11) _ 0 rfl) rfl rfl ?_
 rintro _ _ ⟨t12,rfl,rfl⟩
 refine RS.as rfl rfl rfl rfl (RS.done ?_)
 repeat refine gq ?_
 repeat refine sq ?_
 refine WPU.region Try.tb_ok (RS.mv rfl rfl rfl rfl (RS.op rfl (op_len rfl rfl rfl (len_isl (cL cGDecision) Try.und118)) rfl rfl (RS.mv rfl rfl rfl rfl (RS.done ?_))))
 repeat refine gq ?_
 repeat refine sq ?_
 refine WPU.ghost (tm':=fr 36 [(6,.vl 0 t12 0 r10.length),(25,.isl false (List.map (cL cGDecision) p1)),(26,.int .i64 (p1.length : Int)),(27,.int .i64 0)]) (Gh.sub ⟨rfl,rfl,rfl,rfl,trivial⟩) (Nat.zero_le _) ?_
 refine WPU.loopK (fun m tm σ=>∃ z18 : Int,∃ l19 : List GDecision,∃ t20 : Nat,q016 p1 m z18 l19 = some r∧tm = fr 36 [(6,.vl 0 t20 0 l19.length),(25,.isl false (List.map (cL cGDecision) p1)),(26,.int .i64 (p1.length : Int)),(27,.int .i64 z18)]∧σ = ⟨[(0,.vec (List.map cGDecision l19).flatten 57 5 t20)],1⟩) (fun tm σ=>∃ l21 : List GDecision,∃ t22 : Nat,q021 l21 = some r∧tm = fr 36 [(6,.vl 0 t22 0 l21.length)]∧σ = ⟨[(0,.vec (List.map cGDecision l21).flatten 57 5 t22)],1⟩) n ⟨0,r10,t12,hF,rfl,rfl⟩ ?_ ?_
 rintro _ _ ⟨l21,t22,hF,rfl,rfl⟩
 unfold q021 at hF
 repeat refine gq ?_
 repeat refine sq ?_
 refine WPU.region Try.tb_ok (RS.mv rfl rfl rfl rfl (RS.as rfl rfl rfl rfl (RS.done ?_)))
 repeat refine gq ?_
 repeat refine sq ?_
 refine WPU.ret ?_
 repeat refine gq ?_
 have hr:=Option.some.inj hF
 subst hr
 exact ⟨.inr rfl,[.vl 0 t22 0 l21.length],res_t rfl (res_n),.isl false (List.map cGDecision l21),⟨[],0⟩,Nat.le_refl _,Gh.trans (Gh.fz (tm':=[.isl false (List.map cGDecision l21)]) (h':=[]) 0 (.vec (List.map cGDecision l21).flatten 57 5 t22) 5 rfl (by simp) (by simp only [oneU,fzL_nil,fzL_cons,fz_int,fz_bool,fz_str,fz_nils,fz_nilp,fz_nilm,fz_nilf,fz_junk,fz_isl,fz_map,fz_agg,fz_tup,fz_fn,junkT,fz_vl q004]) (by simp only [fzH,fzB,ug,Nat.beq,cond_true,cond_false,oneU,fzL_nil,fzL_cons,fz_int,fz_bool,fz_str,fz_nils,fz_nilp,fz_nilm,fz_nilf,fz_junk,fz_isl,fz_map,fz_agg,fz_tup,fz_fn,junkT,fz_vl q004])) (Gh.toR (.isl false (List.map cGDecision l21)) rfl),rfl,BU.h⟩
 rintro m2 _ _ ⟨z18,l19,t20,hF,rfl,rfl⟩
 rcases m2 with _ | m2
 cases hF
 unfold q016 at hF
 repeat refine sq ?_
 refine WPU.region Try.tb_ok (RS.op rfl (op_int rfl rfl (ix_lss _ _ _) rfl) rfl rfl (RS.done ?_))
 repeat refine gq ?_
 repeat refine sq ?_
 refine WPU.condS (t:=(decide (z18 < (p1.length : Int)))) rfl (fun h23=>?_) (fun h23=>?_)
 replace hF:=cond_t h23 hF
 repeat refine sq ?_
 refine WPU.skip ?_
 repeat refine gq ?_
 repeat refine sq ?_
 refine WPU.block ?_
 repeat refine sq ?_
 obtain ⟨x24,h25,hF⟩:=bindO_some hF
 refine WPU.region Try.tb_ok (RS.op (u:=.iptr [.isl false (List.map cGDecision x24)]) rfl (op_ia rfl rfl (ia_isl (cL cGDecision) Try.und118 (sz_of Try.inf25) (len_cL cGDecision) h25 rfl)) rfl rfl (RS.op (u:=.isl false (List.map cGDecision x24)) rfl (li_one Try.und25 rfl rfl rfl) rfl rfl (RS.as rfl rfl rfl rfl (RS.done ?_))))
 repeat refine gq ?_
 repeat refine sq ?_
 obtain ⟨h26,hF⟩:=needO_some hF
 refine WPU.region Try.tb_ok ?_
 repeat refine RS.mv rfl rfl rfl rfl ?_
 refine RS.op (u:=.vl 0 (t20 + 1) 0 ((l19 ++ x24).length)) (σ':=⟨[(0,.vec (List.map cGDecision (l19 ++ x24)).flatten 57 5 (t20 + 1))],1⟩) rfl (op_app rfl rfl rfl rfl (app_vl cGDecision x24 Try.und25 Try.und25 Try.inf57 rfl q004 rfl (src_isl cGDecision q004) h26)) rfl rfl (RS.as rfl rfl rfl rfl (RS.done ?_))
 repeat refine gq ?_
 repeat refine sq ?_
 refine WPU.region Try.tb_ok (RS.op rfl (op_int rfl rfl (ix_add _ _ _) rfl) rfl rfl (RS.mv rfl rfl rfl rfl (RS.done ?_)))
 repeat refine gq ?_
 exact ⟨m2,_,_,Nat.lt_succ_self _,⟨(IntKind.i64.wrap (z18 + 1)),(l19 ++ x24),(t20 + 1),hF,rfl,rfl⟩,(Nat.zero_le _),Gh.toC (n1:=1) ⟨rfl,rfl,rfl,rfl,trivial⟩ rfl (Nat.zero_le _) (by simp)⟩
 replace hF:=cond_f h23 hF
 repeat refine sq ?_
 refine WPU.exit ?_
 repeat refine gq ?_
 exact ⟨_,_,⟨l19,t20,hF,rfl,rfl⟩,(Nat.zero_le _),Gh.toC (n1:=1) ⟨rfl,trivial⟩ rfl (Nat.zero_le _) (by simp)⟩
 rintro m1 _ _ ⟨z7,z8,hF,rfl,rfl⟩
 rcases m1 with _ | m1
 cases hF
 unfold q015 at hF
 repeat refine sq ?_
 refine WPU.region Try.tb_ok (RS.op rfl (op_int rfl rfl (ix_lss _ _ _) rfl) rfl rfl (RS.done ?_))
 repeat refine gq ?_
 repeat refine sq ?_
 refine WPU.condS (t:=(decide (z8 < (p1.length : Int)))) rfl (fun h27=>?_) (fun h27=>?_)
 replace hF:=cond_t h27 hF
 repeat refine sq ?_
 refine WPU.skip ?_
 repeat refine gq ?_
 repeat refine sq ?_
 refine WPU.block ?_
 repeat refine sq ?_
 obtain ⟨x28,h29,hF⟩:=bindO_some hF
 refine WPU.region Try.tb_ok (RS.op (u:=.iptr [.isl false (List.map cGDecision x28)]) rfl (op_ia rfl rfl (ia_isl (cL cGDecision) Try.und118 (sz_of Try.inf25) (len_cL cGDecision) h29 rfl)) rfl rfl (RS.op (u:=.isl false (List.map cGDecision x28)) rfl (li_one Try.und25 rfl rfl rfl) rfl rfl (RS.as rfl rfl rfl rfl (RS.done ?_))))
 repeat refine gq ?_
 repeat refine sq ?_
 refine WPU.region Try.tb_ok ?_
 repeat refine RS.mv rfl rfl rfl rfl ?_
 refine RS.op rfl (op_len rfl rfl rfl (len_isl cGDecision Try.und25)) rfl rfl (RS.op rfl (op_int rfl rfl (ix_add _ _ _) rfl) rfl rfl (RS.as rfl rfl rfl rfl (RS.done ?_)))
 repeat refine gq ?_
 repeat refine sq ?_
 refine WPU.region Try.tb_ok (RS.mv rfl rfl rfl rfl (RS.op rfl (op_int rfl rfl (ix_lss _ _ _) rfl) rfl rfl (RS.done ?_)))
 repeat refine gq ?_
 repeat refine sq ?_
 refine WPU.condS (t:=(decide ((IntKind.i64.wrap (z7 + (x28.length : Int))) < 0))) rfl (fun h30=>?_) (fun h30=>?_)
 replace hF:=cond_t h30 hF
 cases hF
 replace hF:=cond_f h30 hF
 repeat refine sq ?_
 refine WPU.skip ?_
 repeat refine gq ?_
 repeat refine sq ?_
 refine WPU.region Try.tb_ok (RS.op rfl (op_int rfl rfl (ix_add _ _ _) rfl) rfl rfl (RS.mv rfl rfl rfl rfl (RS.done ?_)))
 repeat refine gq ?_
 exact ⟨m1,_,_,Nat.lt_succ_self _,⟨(IntKind.i64.wrap (z7 + (x28.length : Int))),(IntKind.i64.wrap (z8 + 1)),hF,rfl,rfl⟩,(Nat.zero_le _),Gh.toC (n1:=0) ⟨rfl,rfl,rfl,rfl,rfl,trivial⟩ rfl (Nat.zero_le _) (by simp)⟩
 replace hF:=cond_f h27 hF
 repeat refine sq ?_
 refine WPU.exit ?_
 repeat refine gq ?_
 exact ⟨_,_,⟨z7,hF,rfl,rfl⟩,(Nat.zero_le _),Gh.toC (n1:=0) ⟨rfl,rfl,trivial⟩ rfl (Nat.zero_le _) (by simp)⟩
theorem q04y (n : Nat) (p1 : List (List GDecision)) (r : (List GDecision)) (hF : q01e n p1 = some r) (σ : Sg) : EvU Try.prog 61 [.isl false (List.map (cL cGDecision) p1)] σ (fun u σ'=>u = .isl false (List.map cGDecision r)∧σ' = σ) :=
 EvU.pure1C (slices_Concat_Decision_0 n p1 r hF) σ
def q02p   : Option (Int) :=
 some (-1)
def q01q (p1 : List GProp) (p2 : GProp) : Nat→Int→Option (Int)
 | 0,_=>none
 | m1 + 1,z10 =>
  cond (decide (z10 < (p1.length : Int)))
   (bindO (idxO p1 z10) fun x12 =>
   cond (eqGProp p2 x12)
    (some z10)
    ((q01q p1 p2 m1) (IntKind.i64.wrap (z10 + 1))))
   (q02p)
def q02w (n : Nat) (p1 : List GProp) (p2 : GProp) : Option (Int) :=
 q01q p1 p2 n 0
theorem slices_Index_Prop_0 (n : Nat) (p1 : List GProp) (p2 : GProp) (r : Int) (hF : q02w n p1 p2 = some r) : EvU Try.prog 64 [.isl false (List.map cGProp p1),.agg (cGProp p2)] ⟨[],0⟩ (fun u _=>u = .int .i64 r∧Bel 0 u):=by
 unfold q02w at hF
 refine EvU.of_body Try.tb_ok Try.fn64 rfl ?_
 refine WPU.ghost (tm':=fr 19 [(0,.isl false (List.map cGProp p1)),(1,.agg (cGProp p2))]) (Gh.start (Nat.le_of_ble_eq_true rfl)) (Nat.zero_le _) ?_
 repeat refine sq ?_
 refine WPU.region Try.tb_ok (RS.op (u:=.ptr 0 0 0) (σ':=⟨[(0,.row (cGProp p2) 38)],1⟩) rfl (op_box rfl rfl rfl) rfl rfl (RS.as rfl rfl rfl rfl (RS.done ?_)))
 repeat refine gq ?_
 repeat refine sq ?_
 refine WPU.region Try.tb_ok (RS.mv rfl rfl rfl rfl (RS.op rfl (op_len rfl rfl rfl (len_isl cGProp Try.und33)) rfl rfl (RS.mv rfl rfl rfl rfl (RS.done ?_))))
 repeat refine gq ?_
 repeat refine sq ?_
 refine WPU.ghost (tm':=fr 19 [(0,.isl false (List.map cGProp p1)),(3,.ptr 0 0 0),(7,.int .i64 (p1.length : Int)),(8,.int .i64 0)]) (Gh.sub ⟨rfl,rfl,rfl,rfl,trivial⟩) (Nat.zero_le _) ?_
 refine WPU.loopK (fun m tm σ=>∃ z10 : Int,q01q p1 p2 m z10 = some r∧tm = fr 19 [(0,.isl false (List.map cGProp p1)),(3,.ptr 0 0 0),(7,.int .i64 (p1.length : Int)),(8,.int .i64 z10)]∧σ = ⟨[(0,.row (cGProp p2) 38)],1⟩) (fun tm σ=>q02p = some r∧tm = fr 19 []∧σ = ⟨[(0,.row (cGProp p2) 38)],1⟩) n ⟨0,hF,rfl,rfl⟩ ?_ ?_
 rintro _ _ ⟨hF,rfl,rfl⟩
 unfold q02p at hF
 repeat refine gq ?_
 repeat refine sq ?_
 refine WPU.region Try.tb_ok (RS.as rfl rfl rfl rfl (RS.done ?_))
 repeat refine gq ?_
 repeat refine sq ?_
 refine WPU.ret ?_
 repeat refine gq ?_
 have hr:=Option.some.inj hF
 subst hr
 exact ⟨.inr rfl,[.int .i64 (-1)],res_t rfl (res_n),.int .i64 (-1),⟨[],0⟩,Nat.le_refl _,Gh.toR (.int .i64 (-1)) rfl,rfl,BU.h⟩
 rintro m1 _ _ ⟨z10,hF,rfl,rfl⟩
 rcases m1 with _ | m1
 cases hF
 unfold q01q at hF
 repeat refine sq ?_
 refine WPU.region Try.tb_ok (RS.op rfl (op_int rfl rfl (ix_lss _ _ _) rfl) rfl rfl (RS.done ?_))
 repeat refine gq ?_
 repeat refine sq ?_
 refine WPU.condS (t:=(decide (z10 < (p1.length : Int)))) rfl (fun h11=>?_) (fun h11=>?_)
 replace hF:=cond_t h11 hF
 repeat refine sq ?_
 refine WPU.skip ?_
 repeat refine gq ?_
 repeat refine sq ?_
 refine WPU.block ?_
 repeat refine sq ?_
 refine WPU.region Try.tb_ok (RS.mv rfl rfl rfl rfl (RS.as rfl rfl rfl rfl (RS.done ?_)))
 repeat refine gq ?_
 repeat refine sq ?_
 obtain ⟨x12,h13,hF⟩:=bindO_some hF
 refine WPU.drawE Try.tb_ok [] (by kernel_rfl) ?_
 refine RD.look (u:=.agg (cGProp p2)) rfl (ld_agg Try.und38 rfl (sz_of Try.inf38) rfl rfl rfl) rfl rfl ?_
 repeat refine RD.mv rfl rfl rfl rfl ?_
 refine RD.look (u:=.iptr (cGProp x12)) rfl (op_ia rfl rfl (ia_isl cGProp Try.und33 (sz_of Try.inf38) len_cGProp h13 rfl)) rfl rfl (RD.look (u:=.agg (cGProp x12)) rfl (li_agg Try.und38 rfl (sz_of Try.inf38) rfl rfl) rfl rfl (RD.look (u:=.bool (eqGProp p2 x12)) rfl (op_bin rfl rfl (eqq38_eql p2 x12)) rfl rfl ?_))
 refine RD.done ⟨by kernel_rfl,trivial,?_⟩
 repeat refine gq ?_
 repeat refine sq ?_
 refine WPU.condS (t:=(eqGProp p2 x12)) rfl (fun h14=>?_) (fun h14=>?_)
 replace hF:=cond_t h14 hF
 repeat refine sq ?_
 refine WPU.region Try.tb_ok (RS.mv rfl rfl rfl rfl (RS.as rfl rfl rfl rfl (RS.done ?_)))
 repeat refine gq ?_
 repeat refine sq ?_
 refine WPU.ret ?_
 repeat refine gq ?_
 have hr:=Option.some.inj hF
 subst hr
 exact ⟨.inr rfl,[.int .i64 z10],res_t rfl (res_n),.int .i64 z10,⟨[],0⟩,Nat.le_refl _,Gh.toR (.int .i64 z10) rfl,rfl,BU.h⟩
 replace hF:=cond_f h14 hF
 repeat refine sq ?_
 refine WPU.skip ?_
 repeat refine gq ?_
 repeat refine sq ?_
 refine WPU.region Try.tb_ok (RS.op rfl (op_int rfl rfl (ix_add _ _ _) rfl) rfl rfl (RS.mv rfl rfl rfl rfl (RS.done ?_)))
 repeat refine gq ?_
 exact ⟨m1,_,_,Nat.lt_succ_self _,⟨(IntKind.i64.wrap (z10 + 1)),hF,rfl,rfl⟩,(Nat.zero_le _),Gh.toC (n1:=1) ⟨rfl,rfl,rfl,rfl,trivial⟩ rfl (Nat.zero_le _) (by simp)⟩
 replace hF:=cond_f h11 hF
 repeat refine sq ?_
 refine WPU.exit ?_
 repeat refine gq ?_
 exact ⟨_,_,⟨hF,rfl,rfl⟩,(Nat.zero_le _),Gh.toC (n1:=1) trivial rfl (Nat.zero_le _) (by simp)⟩
theorem slices_Index_Prop_ok (n : Nat) (p1 : List GProp) (p2 : GProp) (r : Int) (hF : q02w n p1 p2 = some r) (σ : Sg) : EvU Try.prog 64 [.isl false (List.map cGProp p1),.agg (cGProp p2)] σ (fun u σ'=>u = .int .i64 r∧σ' = σ) :=
 EvU.pure1C (slices_Index_Prop_0 n p1 p2 r hF) σ
def q01p (n : Nat) (p1 : List GProp) (p2 : GProp) : Option (Bool) :=
 bindO (q02w n p1 p2) fun r3 =>
 some (decide (r3 ≥ 0))
theorem slices_Contains_Prop_0 (n : Nat) (p1 : List GProp) (p2 : GProp) (r : Bool) (hF : q01p n p1 p2 = some r) : EvU Try.prog 43 [.isl false (List.map cGProp p1),.agg (cGProp p2)] ⟨[],0⟩ (fun u _=>u = .bool r∧Bel 0 u):=by
 unfold q01p at hF
 refine EvU.of_body Try.tb_ok Try.fn43 rfl ?_
 refine WPU.ghost (tm':=fr 9 [(0,.isl false (List.map cGProp p1)),(1,.agg (cGProp p2))]) (Gh.start (Nat.le_of_ble_eq_true rfl)) (Nat.zero_le _) ?_
 repeat refine sq ?_
 refine WPU.region Try.tb_ok (RS.op (u:=.ptr 0 0 0) (σ':=⟨[(0,.row (cGProp p2) 38)],1⟩) rfl (op_box rfl rfl rfl) rfl rfl (RS.as rfl rfl rfl rfl (RS.done ?_)))
 repeat refine gq ?_
 repeat refine sq ?_
 obtain ⟨r3,h4,hF⟩:=bindO_some hF
 refine WPU.region Try.tb_ok (RS.mv rfl rfl rfl rfl (RS.op (u:=.agg (cGProp p2)) rfl (ld_agg Try.und38 rfl (sz_of Try.inf38) rfl rfl rfl) rfl rfl (RS.call (u:=.int .i64 r3) (args:=[.isl false (List.map cGProp p1),.agg (cGProp p2)]) rfl (op_call rfl rfl Try.fn64 Try.hb64 rfl rfl) (slices_Index_Prop_ok n p1 p2 r3 h4 _) rfl rfl (RS.op rfl (op_int rfl rfl (ix_geq _ _ _) rfl) rfl rfl (RS.as rfl rfl rfl rfl (RS.done ?_))))))
 repeat refine gq ?_
 repeat refine sq ?_
 refine WPU.ret ?_
 repeat refine gq ?_
 have hr:=Option.some.inj hF
 subst hr
 exact ⟨.inr rfl,[.bool (decide (r3 ≥ 0))],res_t rfl (res_n),.bool (decide (r3 ≥ 0)),⟨[],0⟩,Nat.le_refl _,Gh.toR (.bool (decide (r3 ≥ 0))) rfl,rfl,BU.h⟩
theorem slices_Contains_Prop_ok (n : Nat) (p1 : List GProp) (p2 : GProp) (r : Bool) (hF : q01p n p1 p2 = some r) (σ : Sg) : EvU Try.prog 43 [.isl false (List.map cGProp p1),.agg (cGProp p2)] σ (fun u σ'=>u = .bool r∧σ' = σ) :=
 EvU.pure1C (slices_Contains_Prop_0 n p1 p2 r hF) σ
def q01t (n : Nat) (p1 : List GDecision) : Option ((List GDecision)) :=
 bindO (cutF p1 (p1.length : Int)) fun l2 =>
 some l2
theorem slices_Clip_Decision_0 (n : Nat) (p1 : List GDecision) (r : (List GDecision)) (hF : q01t n p1 = some r) : EvU Try.prog 44 [.isl false (List.map cGDecision p1)] ⟨[],0⟩ (fun u _=>u = .isl true (List.map cGDecision r)∧Bel 0 u):=by
 unfold q01t at hF
 refine EvU.of_body Try.tb_ok Try.fn44 rfl ?_
 refine WPU.ghost (tm':=fr 9 [(0,.isl false (List.map cGDecision p1))]) (Gh.start (Nat.le_of_ble_eq_true rfl)) (Nat.zero_le _) ?_
 repeat refine sq ?_
 refine WPU.region Try.tb_ok (RS.as rfl rfl rfl rfl (RS.done ?_))
 repeat refine gq ?_
 repeat refine sq ?_
 obtain ⟨l2,h3,hF⟩:=bindO_some hF
 refine WPU.region Try.tb_ok ?_
 repeat refine RS.mv rfl rfl rfl rfl ?_
 refine RS.op rfl (op_len rfl rfl rfl (len_isl cGDecision Try.und25)) rfl rfl (RS.mv rfl rfl rfl rfl (RS.op rfl (op_len rfl rfl rfl (len_isl cGDecision Try.und25)) rfl rfl (RS.op (u:=.isl true (List.map cGDecision l2)) rfl (op_slice rfl em_n (em_s rfl) (em_s rfl) (sl_full cGDecision Try.und25 (sz_of Try.inf57) q004 h3)) rfl rfl (RS.as rfl rfl rfl rfl (RS.done ?_)))))
 repeat refine gq ?_
 repeat refine sq ?_
 refine WPU.ret ?_
 repeat refine gq ?_
 have hr:=Option.some.inj hF
 subst hr
 exact ⟨.inr rfl,[.isl true (List.map cGDecision l2)],res_t rfl (res_n),.isl true (List.map cGDecision l2),⟨[],0⟩,Nat.le_refl _,Gh.toR (.isl true (List.map cGDecision l2)) rfl,rfl,BU.h⟩
theorem slices_Clip_Decision_ok (n : Nat) (p1 : List GDecision) (r : (List GDecision)) (hF : q01t n p1 = some r) (σ : Sg) : EvU Try.prog 44 [.isl false (List.map cGDecision p1)] σ (fun u σ'=>u = .isl true (List.map cGDecision r)∧σ' = σ) :=
 EvU.pure1C (slices_Clip_Decision_0 n p1 r hF) σ
def q010 (p1 : List GDeriv) (p2 : List GDeriv)  : Option (Int) :=
 cond (decide ((p1.length : Int) < (p2.length : Int)))
  (some (-1))
  (some 0)
def q008 (p1 : List GDeriv) (p2 : List GDeriv) (f2 : GDeriv→GDeriv→Option (Int)) : Nat→Int→Option (Int)
 | 0,_=>none
 | m1 + 1,z8 =>
  cond (decide (z8 < (p1.length : Int)))
   (bindO (idxO p1 z8) fun x11 =>
   cond (decide (z8 ≥ (p2.length : Int)))
    (some 1)
    (bindO (idxO p2 z8) fun x14 =>
    bindO (f2 x11 x14) fun r16 =>
    cond (r16 != 0)
     (some r16)
     ((q008 p1 p2 f2 m1) (IntKind.i64.wrap (z8 + 1)))))
   (q010 p1 p2)
def q00u (f2 : GDeriv→GDeriv→Option (Int)) (n : Nat) (p1 : List GDeriv) (p2 : List GDeriv) : Option (Int) :=
 q008 p1 p2 f2 n 0
theorem q04a (f2 : GDeriv→GDeriv→Option (Int)) (hf2 : ∀ (a0 : GDeriv) (a1 : GDeriv) (r : Int),f2 a0 a1 = some r→EvU Try.prog 27 [.agg (xGDeriv a0),.agg (xGDeriv a1)] ⟨[],0⟩ (fun u _=>u = .int .i64 r∧Bel 0 u)) (n : Nat) (p1 : List GDeriv) (p2 : List GDeriv) (r : Int) (hF : q00u f2 n p1 p2 = some r) : EvU Try.prog 56 [.isl false (List.map cGDeriv p1),.isl false (List.map cGDeriv p2),.fn (.func 27) [] []] ⟨[],0⟩ (fun u _=>u = .int .i64 r∧Bel 0 u):=by
 unfold q00u at hF
 have hf2S : ∀ (a0 : GDeriv) (a1 : GDeriv) (r : Int),f2 a0 a1 = some r→∀ σ,EvU Try.prog 27 [.agg (xGDeriv a0),.agg (xGDeriv a1)] σ (fun u σ'=>u = .int .i64 r∧σ' = σ):=fun a0 a1 r h σ=>EvU.pure1C (hf2 a0 a1 r h) σ
 refine EvU.of_body Try.tb_ok Try.fn56 rfl ?_
 refine WPU.ghost (tm':=fr 39 [(0,.isl false (List.map cGDeriv p1)),(1,.isl false (List.map cGDeriv p2)),(2,.fn (.func 27) [] [])]) (Gh.start (Nat.le_of_ble_eq_true rfl)) (Nat.zero_le _) ?_
 repeat refine sq ?_
 refine WPU.region Try.tb_ok (RS.as rfl rfl rfl rfl (RS.done ?_))
 repeat refine gq ?_
 repeat refine sq ?_
 refine WPU.region Try.tb_ok (RS.mv rfl rfl rfl rfl (RS.op rfl (op_len rfl rfl rfl (len_isl cGDeriv Try.und22)) rfl rfl (RS.mv rfl rfl rfl rfl (RS.done ?_))))
 repeat refine gq ?_
 repeat refine sq ?_
 refine WPU.ghost (tm':=fr 39 [(0,.isl false (List.map cGDeriv p1)),(1,.isl false (List.map cGDeriv p2)),(2,.fn (.func 27) [] []),(11,.isl false (List.map cGDeriv p1)),(12,.int .i64 (p1.length : Int)),(13,.int .i64 0)]) (Gh.sub ⟨rfl,rfl,rfl,rfl,rfl,rfl,trivial⟩) (Nat.zero_le _) ?_
 refine WPU.loopK (fun m tm σ=>∃ z8 : Int,q008 p1 p2 f2 m z8 = some r∧tm = fr 39 [(0,.isl false (List.map cGDeriv p1)),(1,.isl false (List.map cGDeriv p2)),(2,.fn (.func 27) [] []),(11,.isl false (List.map cGDeriv p1)),(12,.int .i64 (p1.length : Int)),(13,.int .i64 z8)]∧σ = ⟨[],0⟩) (fun tm σ=>q010 p1 p2 = some r∧tm = fr 39 [(0,.isl false (List.map cGDeriv p1)),(1,.isl false (List.map cGDeriv p2))]∧σ = ⟨[],0⟩) n ⟨0,hF,rfl,rfl⟩ ?_ ?_
 rintro _ _ ⟨hF,rfl,rfl⟩
 unfold q010 at hF
 repeat refine gq ?_
 repeat refine sq ?_
 refine WPU.region Try.tb_ok (RS.mv rfl rfl rfl rfl (RS.op rfl (op_len rfl rfl rfl (len_isl cGDeriv Try.und22)) rfl rfl (RS.mv rfl rfl rfl rfl (RS.op rfl (op_len rfl rfl rfl (len_isl cGDeriv Try.und22)) rfl rfl (RS.op rfl (op_int rfl rfl (ix_lss _ _ _) rfl) rfl rfl (RS.done ?_))))))
 repeat refine gq ?_
 repeat refine sq ?_
 refine WPU.condS (t:=(decide ((p1.length : Int) < (p2.length : Int)))) rfl (fun h9=>?_) (fun h9=>?_)
 replace hF:=cond_t h9 hF
 repeat refine sq ?_
 refine WPU.region Try.tb_ok (RS.as rfl rfl rfl rfl (RS.done ?_))
 repeat refine gq ?_
 repeat refine sq ?_
 refine WPU.ret ?_
 repeat refine gq ?_
 have hr:=Option.some.inj hF
 subst hr
 exact ⟨.inr rfl,[.int .i64 (-1)],res_t rfl (res_n),.int .i64 (-1),⟨[],0⟩,Nat.le_refl _,Gh.toR (.int .i64 (-1)) rfl,rfl,BU.h⟩
 replace hF:=cond_f h9 hF
 repeat refine sq ?_
 refine WPU.skip ?_
 repeat refine gq ?_
 repeat refine sq ?_
 refine WPU.region Try.tb_ok (RS.as rfl rfl rfl rfl (RS.done ?_))
 repeat refine gq ?_
 repeat refine sq ?_
 refine WPU.ret ?_
 repeat refine gq ?_
 have hr:=Option.some.inj hF
 subst hr
 exact ⟨.inr rfl,[.int .i64 0],res_t rfl (res_n),.int .i64 0,⟨[],0⟩,Nat.le_refl _,Gh.toR (.int .i64 0) rfl,rfl,BU.h⟩
 rintro m1 _ _ ⟨z8,hF,rfl,rfl⟩
 rcases m1 with _ | m1
 cases hF
 unfold q008 at hF
 repeat refine sq ?_
 refine WPU.region Try.tb_ok (RS.op rfl (op_int rfl rfl (ix_lss _ _ _) rfl) rfl rfl (RS.done ?_))
 repeat refine gq ?_
 repeat refine sq ?_
 refine WPU.condS (t:=(decide (z8 < (p1.length : Int)))) rfl (fun h10=>?_) (fun h10=>?_)
 replace hF:=cond_t h10 hF
 repeat refine sq ?_
 refine WPU.skip ?_
 repeat refine gq ?_
 repeat refine sq ?_
 refine WPU.block ?_
 repeat refine sq ?_
 obtain ⟨x11,h12,hF⟩:=bindO_some hF
 refine WPU.region Try.tb_ok (RS.mv rfl rfl rfl rfl (RS.op (u:=.iptr (xGDeriv x11)) rfl (op_ia rfl rfl (ia_isl cGDeriv Try.und22 (sz_of Try.inf36) len_cGDeriv h12 (cGDeriv_eq x11))) rfl rfl (RS.op (u:=.agg (xGDeriv x11)) rfl (li_agg Try.und36 rfl (sz_of Try.inf36) rfl rfl) rfl rfl (RS.op (u:=.ptr 0 0 0) (σ':=⟨[(0,.row [.int .i64 0,.str [],.int .i64 0,.int .i64 0,.nils] 36)],1⟩) rfl (op_alloc Try.inf36 rfl rfl) rfl rfl (RS.as rfl rfl rfl rfl (RS.opn (u:=.junk) (σ':=⟨[(0,.row (xGDeriv x11) 36)],1⟩) rfl (op_store (sz_of Try.inf36) rfl rfl rfl rfl rfl rfl rfl rfl) rfl (RS.done ?_)))))))
 repeat refine gq ?_
 repeat refine sq ?_
 refine WPU.region Try.tb_ok ?_
 repeat refine RS.mv rfl rfl rfl rfl ?_
 refine RS.op rfl (op_len rfl rfl rfl (len_isl cGDeriv Try.und22)) rfl rfl (RS.op rfl (op_int rfl rfl (ix_geq _ _ _) rfl) rfl rfl (RS.done ?_))
 repeat refine gq ?_
 repeat refine sq ?_
 refine WPU.condS (t:=(decide (z8 ≥ (p2.length : Int)))) rfl (fun h13=>?_) (fun h13=>?_)
 replace hF:=cond_t h13 hF
 repeat refine sq ?_
 refine WPU.region Try.tb_ok (RS.as rfl rfl rfl rfl (RS.done ?_))
 repeat refine gq ?_
 repeat refine sq ?_
 refine WPU.ret ?_
 repeat refine gq ?_
 have hr:=Option.some.inj hF
 subst hr
 exact ⟨.inr rfl,[.int .i64 1],res_t rfl (res_n),.int .i64 1,⟨[],0⟩,Nat.le_refl _,Gh.toR (.int .i64 1) rfl,rfl,BU.h⟩
 replace hF:=cond_f h13 hF
 repeat refine sq ?_
 refine WPU.skip ?_
 repeat refine gq ?_
 repeat refine sq ?_
 obtain ⟨x14,h15,hF⟩:=bindO_some hF
 refine WPU.region Try.tb_ok ?_
 repeat refine RS.mv rfl rfl rfl rfl ?_
 refine RS.op (u:=.iptr (xGDeriv x14)) rfl (op_ia rfl rfl (ia_isl cGDeriv Try.und22 (sz_of Try.inf36) len_cGDeriv h15 (cGDeriv_eq x14))) rfl rfl (RS.op (u:=.agg (xGDeriv x14)) rfl (li_agg Try.und36 rfl (sz_of Try.inf36) rfl rfl) rfl rfl (RS.op (u:=.ptr 1 0 0) (σ':=⟨[(1,.row [.int .i64 0,.str [],.int .i64 0,.int .i64 0,.nils] 36),(0,.row (xGDeriv x11) 36)],2⟩) rfl (op_alloc Try.inf36 rfl rfl) rfl rfl (RS.opn (u:=.junk) (σ':=⟨[(1,.row (xGDeriv x14) 36),(0,.row (xGDeriv x11) 36)],2⟩) rfl (op_store (sz_of Try.inf36) rfl rfl rfl rfl rfl rfl rfl rfl) rfl (RS.done ?_))))
 repeat refine gq ?_
 repeat refine sq ?_
 obtain ⟨r16,h17,hF⟩:=bindO_some hF
 refine WPU.region Try.tb_ok (RS.mv rfl rfl rfl rfl (RS.op (u:=.agg (xGDeriv x11)) rfl (ld_agg Try.und36 rfl (sz_of Try.inf36) rfl rfl rfl) rfl rfl (RS.op (u:=.agg (xGDeriv x14)) rfl (ld_agg Try.und36 rfl (sz_of Try.inf36) rfl rfl rfl) rfl rfl (RS.call (u:=.int .i64 r16) (args:=[.agg (xGDeriv x11),.agg (xGDeriv x14)]) rfl (op_call rfl rfl Try.fn27 Try.hb27 rfl rfl) (hf2S x11 x14 r16 h17 _) rfl rfl (RS.as rfl rfl rfl rfl (RS.done ?_))))))
 repeat refine gq ?_
 repeat refine sq ?_
 refine WPU.region Try.tb_ok (RS.mv rfl rfl rfl rfl (RS.op rfl (op_int rfl rfl (ix_neq _ _ _) rfl) rfl rfl (RS.done ?_)))
 repeat refine gq ?_
 repeat refine sq ?_
 refine WPU.condS (t:=(r16 != 0)) rfl (fun h18=>?_) (fun h18=>?_)
 replace hF:=cond_t h18 hF
 repeat refine sq ?_
 refine WPU.region Try.tb_ok (RS.mv rfl rfl rfl rfl (RS.as rfl rfl rfl rfl (RS.done ?_)))
 repeat refine gq ?_
 repeat refine sq ?_
 refine WPU.ret ?_
 repeat refine gq ?_
 have hr:=Option.some.inj hF
 subst hr
 exact ⟨.inr rfl,[.int .i64 r16],res_t rfl (res_n),.int .i64 r16,⟨[],0⟩,Nat.le_refl _,Gh.toR (.int .i64 r16) rfl,rfl,BU.h⟩
 replace hF:=cond_f h18 hF
 repeat refine sq ?_
 refine WPU.skip ?_
 repeat refine gq ?_
 repeat refine sq ?_
 refine WPU.region Try.tb_ok (RS.op rfl (op_int rfl rfl (ix_add _ _ _) rfl) rfl rfl (RS.mv rfl rfl rfl rfl (RS.done ?_)))
 repeat refine gq ?_
 exact ⟨m1,_,_,Nat.lt_succ_self _,⟨(IntKind.i64.wrap (z8 + 1)),hF,rfl,rfl⟩,(Nat.zero_le _),Gh.toC (n1:=0) ⟨rfl,rfl,rfl,rfl,rfl,rfl,trivial⟩ rfl (Nat.zero_le _) (by simp)⟩
 replace hF:=cond_f h10 hF
 repeat refine sq ?_
 refine WPU.exit ?_
 repeat refine gq ?_
 exact ⟨_,_,⟨hF,rfl,rfl⟩,(Nat.zero_le _),Gh.toC (n1:=0) ⟨rfl,rfl,trivial⟩ rfl (Nat.zero_le _) (by simp)⟩
theorem q042 (f2 : GDeriv→GDeriv→Option (Int)) (hf2 : ∀ (a0 : GDeriv) (a1 : GDeriv) (r : Int),f2 a0 a1 = some r→EvU Try.prog 27 [.agg (xGDeriv a0),.agg (xGDeriv a1)] ⟨[],0⟩ (fun u _=>u = .int .i64 r∧Bel 0 u)) (n : Nat) (p1 : List GDeriv) (p2 : List GDeriv) (r : Int) (hF : q00u f2 n p1 p2 = some r) (σ : Sg) : EvU Try.prog 56 [.isl false (List.map cGDeriv p1),.isl false (List.map cGDeriv p2),.fn (.func 27) [] []] σ (fun u σ'=>u = .int .i64 r∧σ' = σ) :=
 EvU.pure1C (q04a f2 hf2 n p1 p2 r hF) σ
def q04w (n : Nat) (self : GDeriv→GDeriv→Option (Int)) (p1 : GDeriv) (p2 : GDeriv) : Option (Int) :=
 bindO (q01d n p1.From p2.From) fun r3 =>
 bindO (q01d n p1.To p2.To) fun r5 =>
 bindO (q01d n p1.Kind p2.Kind) fun r7 =>
 bindO (q01u n p1.Name p2.Name) fun r9 =>
 bindO (cmp_Or_int n ([r3,r5,r7,r9])) fun r11 =>
 cond (r11 != 0)
  (some r11)
  (bindO (q00u self n p1.Kids p2.Kids) fun r14 =>
  some r14)
def q020 : Nat→GDeriv→GDeriv→Option (Int)
 | 0,_,_=>none
 | n + 1,p1,p2=>q04w n (q020 n) p1 p2
theorem q04g : ∀ (n : Nat) (p1 : GDeriv) (p2 : GDeriv) (r : Int),q020 n p1 p2 = some r→EvU Try.prog 27 [.agg (xGDeriv p1),.agg (xGDeriv p2)] ⟨[],0⟩ (fun u _=>u = .int .i64 r∧Bel 0 u)
 | 0,p1,p2,r,hF=>by cases hF
 | n + 1,p1,p2,r,hF=>by
  have ih:=q04g n
  have ihS : ∀ (p1 : GDeriv) (p2 : GDeriv) (r : Int),q020 n p1 p2 = some r→∀ σ,EvU Try.prog 27 [.agg (xGDeriv p1),.agg (xGDeriv p2)] σ (fun u σ'=>u = .int .i64 r∧σ' = σ):=fun p1 p2 r h σ=>EvU.pure1C (ih p1 p2 r h) σ
  unfold q020 q04w at hF
  refine EvU.of_body Try.tb_ok Try.fn27 rfl ?_
  refine WPU.ghost (tm':=fr 36 [(0,.agg (xGDeriv p1)),(1,.agg (xGDeriv p2))]) (Gh.start (Nat.le_of_ble_eq_true rfl)) (Nat.zero_le _) ?_
  repeat refine sq ?_
  refine WPU.region Try.tb_ok (RS.op (u:=.ptr 0 0 0) (σ':=⟨[(0,.row (xGDeriv p1) 36)],1⟩) rfl (op_box rfl rfl rfl) rfl rfl (RS.op (u:=.ptr 1 0 0) (σ':=⟨[(1,.row (xGDeriv p2) 36),(0,.row (xGDeriv p1) 36)],2⟩) rfl (op_box rfl rfl rfl) rfl rfl (RS.as rfl rfl rfl rfl (RS.done ?_))))
  repeat refine gq ?_
  repeat refine sq ?_
  obtain ⟨r3,h4,hF⟩:=bindO_some hF
  obtain ⟨r5,h6,hF⟩:=bindO_some hF
  obtain ⟨r7,h8,hF⟩:=bindO_some hF
  obtain ⟨r9,h10,hF⟩:=bindO_some hF
  obtain ⟨r11,h12,hF⟩:=bindO_some hF
  refine WPU.drawE Try.tb_ok [] (by kernel_rfl) ?_
  refine RD.look (u:=.ptr 0 0 2) rfl (op_fa Try.und36 rfl (sz_of Try.inf3) rfl rfl rfl) rfl rfl (RD.look (u:=.int .i64 p1.From) rfl (ld_one Try.und3 rfl rfl rfl rfl) rfl rfl (RD.look (u:=.ptr 1 0 2) rfl (op_fa Try.und36 rfl (sz_of Try.inf3) rfl rfl rfl) rfl rfl (RD.look (u:=.int .i64 p2.From) rfl (ld_one Try.und3 rfl rfl rfl rfl) rfl rfl (RD.free (u:=.int .i64 r3) (args:=[.int .i64 p1.From,.int .i64 p2.From]) rfl (op_call rfl rfl Try.fn54 Try.hb54 rfl rfl) (fun s=>q026 n p1.From p2.From r3 h4 s) rfl rfl (RD.look (u:=.ptr 0 0 3) rfl (op_fa Try.und36 rfl (sz_of Try.inf3) rfl rfl rfl) rfl rfl (RD.look (u:=.int .i64 p1.To) rfl (ld_one Try.und3 rfl rfl rfl rfl) rfl rfl (RD.look (u:=.ptr 1 0 3) rfl (op_fa Try.und36 rfl (sz_of Try.inf3) rfl rfl rfl) rfl rfl ?_)))))))
  refine RD.look (u:=.int .i64 p2.To) rfl (ld_one Try.und3 rfl rfl rfl rfl) rfl rfl (RD.free (u:=.int .i64 r5) (args:=[.int .i64 p1.To,.int .i64 p2.To]) rfl (op_call rfl rfl Try.fn54 Try.hb54 rfl rfl) (fun s=>q026 n p1.To p2.To r5 h6 s) rfl rfl (RD.look (u:=.ptr 0 0 0) rfl (op_fa Try.und36 rfl (sz_of Try.inf3) rfl rfl rfl) rfl rfl (RD.look (u:=.int .i64 p1.Kind) rfl (ld_one Try.und3 rfl rfl rfl rfl) rfl rfl (RD.look (u:=.ptr 1 0 0) rfl (op_fa Try.und36 rfl (sz_of Try.inf3) rfl rfl rfl) rfl rfl (RD.look (u:=.int .i64 p2.Kind) rfl (ld_one Try.und3 rfl rfl rfl rfl) rfl rfl (RD.free (u:=.int .i64 r7) (args:=[.int .i64 p1.Kind,.int .i64 p2.Kind]) rfl (op_call rfl rfl Try.fn54 Try.hb54 rfl rfl) (fun s=>q026 n p1.Kind p2.Kind r7 h8 s) rfl rfl (RD.look (u:=.ptr 0 0 1) rfl (op_fa Try.und36 rfl (sz_of Try.inf9) rfl rfl rfl) rfl rfl ?_)))))))
  refine RD.look (u:=.str p1.Name) rfl (ld_one Try.und9 rfl rfl rfl rfl) rfl rfl (RD.look (u:=.ptr 1 0 1) rfl (op_fa Try.und36 rfl (sz_of Try.inf9) rfl rfl rfl) rfl rfl (RD.look (u:=.str p2.Name) rfl (ld_one Try.und9 rfl rfl rfl rfl) rfl rfl (RD.free (u:=.int .i64 r9) (args:=[.str p1.Name,.str p2.Name]) rfl (op_call rfl rfl Try.fn55 Try.hb55 rfl rfl) (fun s=>q04m n p1.Name p2.Name r9 h10 s) rfl rfl (RD.act (u:=.sl 2 0 4 4) (σ':=⟨[(2,.row [.int .i64 r3,.int .i64 r5,.int .i64 r7,.int .i64 r9] 3),(1,.row (xGDeriv p2) 36),(0,.row (xGDeriv p1) 36)],3⟩) rfl (op_bsl Try.und43 Try.inf3 rfl rfl rfl rfl rfl rfl rfl) rfl rfl ?_))))
  refine RD.call (u:=.int .i64 r11) (args:=[.sl 2 0 4 4]) rfl (op_call rfl rfl Try.fn53 Try.hb53 rfl rfl) (EvU.view (cmp_Or_int_0 n ([r3,r5,r7,r9]) r11 h12) BUL.h (by simp only [toV,toVL,okL,okC,cond_true] <;> rfl) (fun m=>by simp [ren,renL]) (Gh.fz (tm':=[.isl false (List.map (cI .i64) ([r3,r5,r7,r9]))]) (h':=[(1,.row (xGDeriv p2) 36),(0,.row (xGDeriv p1) 36)]) 2 (.row [.int .i64 r3,.int .i64 r5,.int .i64 r7,.int .i64 r9] 3) 1 rfl (by simp) (by simp only [oneU,fzL_nil,fzL_cons,fz_int,fz_bool,fz_str,fz_nils,fz_nilp,fz_nilm,fz_nilf,fz_junk,fz_isl,fz_map,fz_agg,fz_tup,fz_fn,junkT,fz_sl,fz_p0,fz_xGDeriv,Nat.reduceLeDiff,Nat.reduceMul,List.length_cons,List.length_nil,Nat.reduceAdd] <;> simp only [chunks,List.take,List.drop,List.map,cI,cB,cS,cL]) (by simp only [fzH,fzB,ug,Nat.beq,cond_true,cond_false,oneU,fzL_nil,fzL_cons,fz_int,fz_bool,fz_str,fz_nils,fz_nilp,fz_nilm,fz_nilf,fz_junk,fz_isl,fz_map,fz_agg,fz_tup,fz_fn,junkT,fz_sl,fz_p0,fz_xGDeriv,Nat.reduceLeDiff,Nat.reduceMul,List.length_cons,List.length_nil,Nat.reduceAdd] <;> simp only [chunks,List.take,List.drop,List.map,cI,cB,cS,cL]))) rfl rfl ?_
  refine RD.as rfl rfl rfl rfl ?_
  refine RD.done ⟨by kernel_rfl,trivial,?_⟩
  repeat refine gq ?_
  repeat refine sq ?_
  refine WPU.region Try.tb_ok (RS.mv rfl rfl rfl rfl (RS.op rfl (op_int rfl rfl (ix_neq _ _ _) rfl) rfl rfl (RS.done ?_)))
  repeat refine gq ?_
  repeat refine sq ?_
  refine WPU.condS (t:=(r11 != 0)) rfl (fun h13=>?_) (fun h13=>?_)
  replace hF:=cond_t h13 hF
  repeat refine sq ?_
  refine WPU.region Try.tb_ok (RS.mv rfl rfl rfl rfl (RS.as rfl rfl rfl rfl (RS.done ?_)))
  repeat refine gq ?_
  repeat refine sq ?_
  refine WPU.ret ?_
  repeat refine gq ?_
  have hr:=Option.some.inj hF
  subst hr
  exact ⟨.inr rfl,[.int .i64 r11],res_t rfl (res_n),.int .i64 r11,⟨[],0⟩,Nat.le_refl _,Gh.toR (.int .i64 r11) rfl,rfl,BU.h⟩
  replace hF:=cond_f h13 hF
  repeat refine sq ?_
  refine WPU.skip ?_
  repeat refine gq ?_
  repeat refine sq ?_
  obtain ⟨r14,h15,hF⟩:=bindO_some hF
  refine WPU.region Try.tb_ok (RS.op (u:=.ptr 0 0 4) rfl (op_fa Try.und36 rfl (sz_of Try.inf22) rfl rfl rfl) rfl rfl (RS.op (u:=.isl false (List.map cGDeriv p1.Kids)) rfl (ld_one Try.und22 rfl rfl rfl rfl) rfl rfl (RS.op (u:=.ptr 1 0 4) rfl (op_fa Try.und36 rfl (sz_of Try.inf22) rfl rfl rfl) rfl rfl (RS.op (u:=.isl false (List.map cGDeriv p2.Kids)) rfl (ld_one Try.und22 rfl rfl rfl rfl) rfl rfl (RS.call (u:=.int .i64 r14) (args:=[.isl false (List.map cGDeriv p1.Kids),.isl false (List.map cGDeriv p2.Kids),.fn (.func 27) [] []]) rfl (op_call rfl rfl Try.fn56 Try.hb56 rfl rfl) (q042 (q020 n) ih n p1.Kids p2.Kids r14 h15 _) rfl rfl (RS.as rfl rfl rfl rfl (RS.done ?_)))))))
  repeat refine gq ?_
  repeat refine sq ?_
  refine WPU.ret ?_
  repeat refine gq ?_
  have hr:=Option.some.inj hF
  subst hr
  exact ⟨.inr rfl,[.int .i64 r14],res_t rfl (res_n),.int .i64 r14,⟨[],0⟩,Nat.le_refl _,Gh.toR (.int .i64 r14) rfl,rfl,BU.h⟩
theorem deriv_Compare_ok (n : Nat) (p1 : GDeriv) (p2 : GDeriv) (r : Int) (hF : q020 n p1 p2 = some r) (σ : Sg) : EvU Try.prog 27 [.agg (xGDeriv p1),.agg (xGDeriv p2)] σ (fun u σ'=>u = .int .i64 r∧σ' = σ) :=
 EvU.pure1C (q04g n p1 p2 r hF) σ
def q03a (n : Nat) (p1 : GDeriv) (p2 : GDeriv) : Option (Bool) :=
 bindO (q020 n p1 p2) fun r3 =>
 some (r3 == 0)
theorem annotate_New_1_0 (n : Nat) (p1 : GDeriv) (p2 : GDeriv) (r : Bool) (hF : q03a n p1 p2 = some r) : EvU Try.prog 29 [.agg (xGDeriv p1),.agg (xGDeriv p2)] ⟨[],0⟩ (fun u _=>u = .bool r∧Bel 0 u):=by
 unfold q03a at hF
 refine EvU.of_body Try.tb_ok Try.fn29 rfl ?_
 refine WPU.ghost (tm':=fr 9 [(0,.agg (xGDeriv p1)),(1,.agg (xGDeriv p2))]) (Gh.start (Nat.le_of_ble_eq_true rfl)) (Nat.zero_le _) ?_
 repeat refine sq ?_
 refine WPU.region Try.tb_ok (RS.op (u:=.ptr 0 0 0) (σ':=⟨[(0,.row (xGDeriv p1) 36)],1⟩) rfl (op_box rfl rfl rfl) rfl rfl (RS.op (u:=.ptr 1 0 0) (σ':=⟨[(1,.row (xGDeriv p2) 36),(0,.row (xGDeriv p1) 36)],2⟩) rfl (op_box rfl rfl rfl) rfl rfl (RS.as rfl rfl rfl rfl (RS.done ?_))))
 repeat refine gq ?_
 repeat refine sq ?_
 obtain ⟨r3,h4,hF⟩:=bindO_some hF
 refine WPU.region Try.tb_ok (RS.op (u:=.agg (xGDeriv p1)) rfl (ld_agg Try.und36 rfl (sz_of Try.inf36) rfl rfl rfl) rfl rfl (RS.op (u:=.agg (xGDeriv p2)) rfl (ld_agg Try.und36 rfl (sz_of Try.inf36) rfl rfl rfl) rfl rfl (RS.call (u:=.int .i64 r3) (args:=[.agg (xGDeriv p1),.agg (xGDeriv p2)]) rfl (op_call rfl rfl Try.fn27 Try.hb27 rfl rfl) (deriv_Compare_ok n p1 p2 r3 h4 _) rfl rfl (RS.op rfl (op_int rfl rfl (ix_eql _ _ _) rfl) rfl rfl (RS.as rfl rfl rfl rfl (RS.done ?_))))))
 repeat refine gq ?_
 repeat refine sq ?_
 refine WPU.ret ?_
 repeat refine gq ?_
 have hr:=Option.some.inj hF
 subst hr
 exact ⟨.inr rfl,[.bool (r3 == 0)],res_t rfl (res_n),.bool (r3 == 0),⟨[],0⟩,Nat.le_refl _,Gh.toR (.bool (r3 == 0)) rfl,rfl,BU.h⟩
def q02h (n : Nat) (p1 : List GDeriv) : Option ((List GDeriv)) :=
 bothL p1 fun b2 =>
 cond b2
  (some ([] : List GDeriv))
  (needO (p1.length * 64 ≤ 140737488355328∧p1.length ≤ 140737488355328) (
  some p1))
theorem slices_Clone_Deriv_0 (n : Nat) (p1 : List GDeriv) (r : (List GDeriv)) (hF : q02h n p1 = some r) : EvU Try.prog 25 [.isl false (List.map cGDeriv p1)] ⟨[],0⟩ (fun u σ'=>∃ t,u = .vl 1 t 0 r.length∧σ' = ⟨[(1,.vec (List.map cGDeriv r).flatten 36 5 t)],1 + 1⟩):=by
 unfold q02h at hF
 refine EvU.of_body Try.tb_ok Try.fn25 rfl ?_
 refine WPU.ghost (tm':=fr 8 [(0,.isl false (List.map cGDeriv p1))]) (Gh.start (Nat.le_of_ble_eq_true rfl)) (Nat.zero_le _) ?_
 repeat refine sq ?_
 refine WPU.region Try.tb_ok (RS.as rfl rfl rfl rfl (RS.done ?_))
 repeat refine gq ?_
 repeat refine sq ?_
 refine WPU.region Try.tb_ok (RS.mv rfl rfl rfl rfl (RS.nilq rfl rfl Try.und22 rfl rfl rfl rfl ?_))
 intro b2 h3
 replace hF:=bothL_some hF b2 fun h=>List.map_eq_nil_iff.1 (h3 h)
 refine RS.done ?_
 repeat refine gq ?_
 repeat refine sq ?_
 refine WPU.condS (t:=b2) rfl (fun h4=>?_) (fun h4=>?_)
 replace hF:=cond_t h4 hF
 repeat refine sq ?_
 refine WPU.region Try.tb_ok (RS.as rfl rfl rfl rfl (RS.done ?_))
 repeat refine gq ?_
 repeat refine sq ?_
 refine WPU.ret ?_
 repeat refine gq ?_
 have hr:=Option.some.inj hF
 subst hr
 exact ⟨.inr rfl,[.nils],res_t rfl res_n,.vl 1 0 0 0,⟨[(1,.vec (List.map cGDeriv ([] : List GDeriv)).flatten 36 5 0)],2⟩,(Nat.zero_le _),Gh.trans (Gh.fresh (tm:=[.nils]) 36 5 (by decide) (Nat.zero_le _)) (Gh.trans (Gh.nilvec (tm:=[.nils]) 0 36 5 (by decide) (Nat.zero_le _) rfl) (Gh.trans (Gh.only (fun k=>Nat.beq k 1)) (Gh.to (n1:=2) [] rfl rfl (Nat.zero_le _) (Nat.le_of_ble_eq_true rfl) BUL.h BH.h))),0,rfl,rfl⟩
 replace hF:=cond_f h4 hF
 repeat refine sq ?_
 refine WPU.skip ?_
 repeat refine gq ?_
 repeat refine sq ?_
 obtain ⟨h5,hF⟩:=needO_some hF
 refine WPU.region Try.tb_ok (RS.op (u:=.sl 0 0 0 0) (σ':=⟨[(0,.row [] 36)],1⟩) rfl (op_bsl Try.und22 Try.inf36 rfl rfl rfl rfl rfl rfl rfl) rfl rfl (RS.mv rfl rfl rfl rfl (RS.op (u:=.vl 1 0 0 p1.length) (σ':=⟨[(1,.vec (List.map cGDeriv p1).flatten 36 5 0),(0,.row [] 36)],2⟩) rfl (op_app rfl rfl rfl rfl (app_emp cGDeriv p1 Try.und22 Try.und22 Try.inf36 rfl rfl rfl (src_isl cGDeriv len_cGDeriv) h5)) rfl rfl (RS.as rfl rfl rfl rfl (RS.done ?_)))))
 repeat refine gq ?_
 repeat refine sq ?_
 refine WPU.ret ?_
 repeat refine gq ?_
 have hr:=Option.some.inj hF
 subst hr
 exact ⟨.inr rfl,[.vl 1 0 0 p1.length],res_t rfl res_n,.vl 1 0 0 p1.length,⟨[(1,.vec (List.map cGDeriv p1).flatten 36 5 0)],2⟩,(Nat.zero_le _),Gh.trans (Gh.only (fun k=>Nat.beq k 1)) (Gh.to (n1:=2) [] rfl rfl (Nat.zero_le _) (Nat.le_of_ble_eq_true rfl) BUL.h BH.h),0,rfl,rfl⟩
def q01b (n : Nat) (p1 : List GDecision) : Option ((List GDecision)) :=
 bothL p1 fun b2 =>
 cond b2
  (some [])
  (needO (p1.length * 48 ≤ 140737488355328∧p1.length ≤ 140737488355328) (
  some p1))
theorem slices_Clone_Decision_0 (n : Nat) (p1 : List GDecision) (r : (List GDecision)) (hF : q01b n p1 = some r) : EvU Try.prog 45 [.isl false (List.map cGDecision p1)] ⟨[],0⟩ (fun u _=>u = .isl false (List.map cGDecision r)∧Bel 0 u):=by
 unfold q01b at hF
 refine EvU.of_body Try.tb_ok Try.fn45 rfl ?_
 refine WPU.ghost (tm':=fr 8 [(0,.isl false (List.map cGDecision p1))]) (Gh.start (Nat.le_of_ble_eq_true rfl)) (Nat.zero_le _) ?_
 repeat refine sq ?_
 refine WPU.region Try.tb_ok (RS.as rfl rfl rfl rfl (RS.done ?_))
 repeat refine gq ?_
 repeat refine sq ?_
 refine WPU.region Try.tb_ok (RS.mv rfl rfl rfl rfl (RS.nilq rfl rfl Try.und25 rfl rfl rfl rfl ?_))
 intro b2 h3
 replace hF:=bothL_some hF b2 fun h=>List.map_eq_nil_iff.1 (h3 h)
 refine RS.done ?_
 repeat refine gq ?_
 repeat refine sq ?_
 refine WPU.condS (t:=b2) rfl (fun h4=>?_) (fun h4=>?_)
 replace hF:=cond_t h4 hF
 repeat refine sq ?_
 refine WPU.region Try.tb_ok (RS.as rfl rfl rfl rfl (RS.done ?_))
 repeat refine gq ?_
 repeat refine sq ?_
 refine WPU.ret ?_
 repeat refine gq ?_
 have hr:=Option.some.inj hF
 subst hr
 exact ⟨.inr rfl,[.nils],res_t rfl (res_n),.isl false [],⟨[],0⟩,Nat.le_refl _,Gh.trans (Gh.wk (.cons (.nil false) .nil)) (Gh.toR (.isl false []) rfl),rfl,BU.h⟩
 replace hF:=cond_f h4 hF
 repeat refine sq ?_
 refine WPU.skip ?_
 repeat refine gq ?_
 repeat refine sq ?_
 obtain ⟨h5,hF⟩:=needO_some hF
 refine WPU.region Try.tb_ok (RS.op (u:=.sl 0 0 0 0) (σ':=⟨[(0,.row [] 57)],1⟩) rfl (op_bsl Try.und25 Try.inf57 rfl rfl rfl rfl rfl rfl rfl) rfl rfl (RS.mv rfl rfl rfl rfl (RS.op (u:=.vl 1 0 0 p1.length) (σ':=⟨[(1,.vec (List.map cGDecision p1).flatten 57 5 0),(0,.row [] 57)],2⟩) rfl (op_app rfl rfl rfl rfl (app_emp cGDecision p1 Try.und25 Try.und25 Try.inf57 rfl rfl rfl (src_isl cGDecision q004) h5)) rfl rfl (RS.as rfl rfl rfl rfl (RS.done ?_)))))
 repeat refine gq ?_
 repeat refine sq ?_
 refine WPU.ret ?_
 repeat refine gq ?_
 have hr:=Option.some.inj hF
 subst hr
 exact ⟨.inr rfl,[.vl 1 0 0 p1.length],res_t rfl (res_n),.isl false (List.map cGDecision p1),⟨[],0⟩,Nat.le_refl _,Gh.trans (Gh.fz (tm':=[.isl false (List.map cGDecision p1)]) (h':=[(0,.row [] 57)]) 1 (.vec (List.map cGDecision p1).flatten 57 5 0) 5 rfl (by simp) (by simp only [oneU,fzL_nil,fzL_cons,fz_int,fz_bool,fz_str,fz_nils,fz_nilp,fz_nilm,fz_nilf,fz_junk,fz_isl,fz_map,fz_agg,fz_tup,fz_fn,junkT,fz_vl q004]) (by simp only [fzH,fzB,ug,Nat.beq,cond_true,cond_false,oneU,fzL_nil,fzL_cons,fz_int,fz_bool,fz_str,fz_nils,fz_nilp,fz_nilm,fz_nilf,fz_junk,fz_isl,fz_map,fz_agg,fz_tup,fz_fn,junkT,fz_vl q004])) (Gh.toR (.isl false (List.map cGDecision p1)) rfl),rfl,BU.h⟩
theorem q047 (n : Nat) (p1 : List GDecision) (r : (List GDecision)) (hF : q01b n p1 = some r) (σ : Sg) : EvU Try.prog 45 [.isl false (List.map cGDecision p1)] σ (fun u σ'=>u = .isl false (List.map cGDecision r)∧σ' = σ) :=
 EvU.pure1C (slices_Clone_Decision_0 n p1 r hF) σ
def q00q (z23 : Int) (rc2 : Int→Int→(List GDeriv)→Option ((List GDeriv))) (z39 : Int) (l40 : List GDeriv) : Option ((List GDeriv)) :=
 rc2 z39 (IntKind.i64.wrap (z23 + 1)) l40
def q017  (z25 : Int) (l26 : List GDeriv) : Option ((List GDeriv)) :=
 needO ((0 : Int) ≤ z25∧z25 ≤ ((l26.length : Nat) : Int)) (
 needO ((0 + z25.toNat) + (l26.length - z25.toNat) ≤ l26.length) (
 needO ((0 : Int) ≤ z25∧z25 ≤ (((clrV l26 (0 + z25.toNat) (l26.length - z25.toNat) (GDeriv.mk 0 [] 0 0 [])).length : Nat) : Int)) (
 needO (z25.toNat ≤ (clrV l26 (0 + z25.toNat) (l26.length - z25.toNat) (GDeriv.mk 0 [] 0 0 [])).length) (
  some ((clrV l26 (0 + z25.toNat) (l26.length - z25.toNat) (GDeriv.mk 0 [] 0 0 [])).take z25.toNat)))))
def q002 (p1 : List GDeriv) (f1 : GDeriv→GDeriv→Option (Bool)) (z6 : Int) : Nat→Int→Int→(List GDeriv)→Option ((List GDeriv))
 | 0,_,_,_=>none
 | m2 + 1,z22,z23,l24 =>
  cond (decide (z23 < (((p1.length - z6.toNat) : Nat) : Int)))
   (bindO (idxV l24 (0 + z6.toNat) (p1.length - z6.toNat) z23) fun x32 =>
   bindO (idxV l24 (0 + z6.toNat) (p1.length - z6.toNat) (IntKind.i64.wrap (z23 - 1))) fun x34 =>
   bindO (f1 x32 x34) fun r36 =>
   cond (!r36)
    (bindO (idxV l24 (0 + z6.toNat) (p1.length - z6.toNat) z23) fun x41 =>
    bindO (idxO l24 z22) fun x43 =>
    q00q z23 (q002 p1 f1 z6 m2) (IntKind.i64.wrap (z22 + 1)) (l24.set (0 + z22.toNat) x41))
    (q00q z23 (q002 p1 f1 z6 m2) z22 l24))
   (q017 z22 l24)
def q018 (p1 : List GDeriv)  : Option ((List GDeriv)) :=
 some p1
def q00d (p1 : List GDeriv) (f1 : GDeriv→GDeriv→Option (Bool)) (n : Nat) : Nat→Int→Option ((List GDeriv))
 | 0,_=>none
 | m1 + 1,z6 =>
  cond (decide (z6 < (p1.length : Int)))
   (bindO (idxO p1 z6) fun x8 =>
   bindO (idxO p1 (IntKind.i64.wrap (z6 - 1))) fun x10 =>
   bindO (f1 x8 x10) fun r12 =>
   cond r12
    (needO ((0 : Int) ≤ z6∧z6 ≤ ((p1.length : Nat) : Int)) (
    q002 p1 f1 z6 n z6 1 p1))
    ((q00d p1 f1 n m1) (IntKind.i64.wrap (z6 + 1))))
   (q018 p1)
def q00l (f1 : GDeriv→GDeriv→Option (Bool)) (n : Nat) (p1 : List GDeriv) : Option ((List GDeriv)) :=
 cond (decide ((p1.length : Int) < 2))
  (some p1)
  (q00d p1 f1 n n 1)
theorem q04e (f1 : GDeriv→GDeriv→Option (Bool)) (hf1 : ∀ (a0 : GDeriv) (a1 : GDeriv) (r : Bool),f1 a0 a1 = some r→EvU Try.prog 29 [.agg (xGDeriv a0),.agg (xGDeriv a1)] ⟨[],0⟩ (fun u _=>u = .bool r∧Bel 0 u)) (n : Nat) (p1 : List GDeriv) (r : (List GDeriv)) (hF : q00l f1 n p1 = some r) : ∀ t0,EvU Try.prog 28 [.vl 0 t0 0 p1.length,.fn (.func 29) [] []] ⟨[(0,.vec (List.map cGDeriv p1).flatten 36 5 t0)],1⟩ (fun u σ'=>∃ t,u = .vl 0 t 0 r.length∧σ' = ⟨[(0,.vec (List.map cGDeriv r).flatten 36 5 t)],1⟩):=by
 unfold q00l at hF
 have hf1S : ∀ (a0 : GDeriv) (a1 : GDeriv) (r : Bool),f1 a0 a1 = some r→∀ σ,EvU Try.prog 29 [.agg (xGDeriv a0),.agg (xGDeriv a1)] σ (fun u σ'=>u = .bool r∧σ' = σ):=fun a0 a1 r h σ=>EvU.pure1C (hf1 a0 a1 r h) σ
 intro t0
 refine EvU.of_body Try.tb_ok Try.fn28 rfl ?_
 refine WPU.ghost (tm':=fr 66 [(0,.vl 0 t0 0 p1.length),(1,.fn (.func 29) [] [])]) (Gh.start (Nat.le_of_ble_eq_true rfl)) (Nat.le_refl _) ?_
 repeat refine sq ?_
 refine WPU.region Try.tb_ok (RS.as rfl rfl rfl rfl (RS.done ?_))
 repeat refine gq ?_
 repeat refine sq ?_
 refine WPU.region Try.tb_ok (RS.mv rfl rfl rfl rfl (RS.op rfl (op_len rfl rfl rfl (len_vl Try.und22 rfl)) rfl rfl (RS.op rfl (op_int rfl rfl (ix_lss _ _ _) rfl) rfl rfl (RS.done ?_))))
 repeat refine gq ?_
 repeat refine sq ?_
 refine WPU.condS (t:=(decide ((p1.length : Int) < 2))) rfl (fun h2=>?_) (fun h2=>?_)
 replace hF:=cond_t h2 hF
 repeat refine sq ?_
 refine WPU.region Try.tb_ok (RS.mv rfl rfl rfl rfl (RS.as rfl rfl rfl rfl (RS.done ?_)))
 repeat refine gq ?_
 repeat refine sq ?_
 refine WPU.ret ?_
 repeat refine gq ?_
 have hr:=Option.some.inj hF
 subst hr
 exact ⟨.inr rfl,[.vl 0 t0 0 p1.length],res_t rfl res_n,.vl 0 t0 0 p1.length,⟨[(0,.vec (List.map cGDeriv p1).flatten 36 5 t0)],1⟩,Nat.le_refl _,Gh.to (n1:=1) [] rfl rfl (Nat.le_refl _) (Nat.le_of_ble_eq_true rfl) BUL.h BH.h,t0,rfl,rfl⟩
 replace hF:=cond_f h2 hF
 repeat refine sq ?_
 refine WPU.skip ?_
 repeat refine gq ?_
 repeat refine sq ?_
 refine WPU.region Try.tb_ok (RS.as rfl rfl rfl rfl (RS.done ?_))
 repeat refine gq ?_
 repeat refine sq ?_
 refine WPU.ghost (tm':=fr 66 [(0,.vl 0 t0 0 p1.length),(1,.fn (.func 29) [] []),(5,.int .i64 1)]) (Gh.sub ⟨rfl,rfl,rfl,trivial⟩) (Nat.le_of_ble_eq_true rfl) ?_
 refine WPU.loopK (fun m tm σ=>∃ z6 : Int,q00d p1 f1 n m z6 = some r∧tm = fr 66 [(0,.vl 0 t0 0 p1.length),(1,.fn (.func 29) [] []),(5,.int .i64 z6)]∧σ = ⟨[(0,.vec (List.map cGDeriv p1).flatten 36 5 t0)],1⟩) (fun tm σ=>q018 p1 = some r∧tm = fr 66 [(0,.vl 0 t0 0 p1.length)]∧σ = ⟨[(0,.vec (List.map cGDeriv p1).flatten 36 5 t0)],1⟩) n ⟨1,hF,rfl,rfl⟩ ?_ ?_
 rintro _ _ ⟨hF,rfl,rfl⟩
 unfold q018 at hF
 repeat refine gq ?_
 repeat refine sq ?_
 refine WPU.region Try.tb_ok (RS.mv rfl rfl rfl rfl (RS.as rfl rfl rfl rfl (RS.done ?_)))
 repeat refine gq ?_
 repeat refine sq ?_
 refine WPU.ret ?_
 repeat refine gq ?_
 have hr:=Option.some.inj hF
 subst hr
 exact ⟨.inr rfl,[.vl 0 t0 0 p1.length],res_t rfl res_n,.vl 0 t0 0 p1.length,⟨[(0,.vec (List.map cGDeriv p1).flatten 36 5 t0)],1⟩,Nat.le_refl _,Gh.to (n1:=1) [] rfl rfl (Nat.le_refl _) (Nat.le_of_ble_eq_true rfl) BUL.h BH.h,t0,rfl,rfl⟩
 rintro m1 _ _ ⟨z6,hF,rfl,rfl⟩
 rcases m1 with _ | m1
 cases hF
 unfold q00d at hF
 repeat refine sq ?_
 refine WPU.region Try.tb_ok ?_
 repeat refine RS.mv rfl rfl rfl rfl ?_
 refine RS.op rfl (op_len rfl rfl rfl (len_vl Try.und22 rfl)) rfl rfl (RS.op rfl (op_int rfl rfl (ix_lss _ _ _) rfl) rfl rfl (RS.done ?_))
 repeat refine gq ?_
 repeat refine sq ?_
 refine WPU.condS (t:=(decide (z6 < (p1.length : Int)))) rfl (fun h7=>?_) (fun h7=>?_)
 replace hF:=cond_t h7 hF
 repeat refine sq ?_
 refine WPU.skip ?_
 repeat refine gq ?_
 repeat refine sq ?_
 refine WPU.block ?_
 repeat refine sq ?_
 obtain ⟨x8,h9,hF⟩:=bindO_some hF
 obtain ⟨x10,h11,hF⟩:=bindO_some hF
 obtain ⟨r12,h13,hF⟩:=bindO_some hF
 refine WPU.drawE Try.tb_ok [] (by kernel_rfl) ?_
 repeat refine RD.mv rfl rfl rfl rfl ?_
 refine RD.look (u:=.ptr 0 t0 (0 * 5 + z6.toNat * 5)) rfl (op_ia rfl rfl (ia_vl cGDeriv Try.und22 (sz_of Try.inf36) (by decide) len_cGDeriv (vo rfl) h9)) rfl rfl ?_
 refine RD.look (u:=.agg (xGDeriv x8)) rfl (ld_vec cGDeriv Try.und36 rfl (sz_of Try.inf36) len_cGDeriv rfl rfl h9 (cGDeriv_eq x8)) rfl rfl ?_
 repeat refine RD.mv rfl rfl rfl rfl ?_
 refine RD.look rfl (op_int rfl rfl (ix_sub _ _ _) rfl) rfl rfl ?_
 refine RD.look (u:=.ptr 0 t0 (0 * 5 + (IntKind.i64.wrap (z6 - 1)).toNat * 5)) rfl (op_ia rfl rfl (ia_vl cGDeriv Try.und22 (sz_of Try.inf36) (by decide) len_cGDeriv (vo rfl) h11)) rfl rfl ?_
 refine RD.look (u:=.agg (xGDeriv x10)) rfl (ld_vec cGDeriv Try.und36 rfl (sz_of Try.inf36) len_cGDeriv rfl rfl h11 (cGDeriv_eq x10)) rfl rfl (RD.free (u:=.bool r12) (args:=[.agg (xGDeriv x8),.agg (xGDeriv x10)]) rfl (op_call rfl rfl Try.fn29 Try.hb29 rfl rfl) (fun s=>hf1S x8 x10 r12 h13 s) rfl rfl ?_)
 refine RD.done ⟨by kernel_rfl,trivial,?_⟩
 repeat refine gq ?_
 repeat refine sq ?_
 refine WPU.condS (t:=r12) rfl (fun h14=>?_) (fun h14=>?_)
 replace hF:=cond_t h14 hF
 repeat refine sq ?_
 obtain ⟨h15,hF⟩:=needO_some hF
 refine WPU.region Try.tb_ok ?_
 repeat refine RS.mv rfl rfl rfl rfl ?_
 refine RS.op (u:=.vl 0 t0 (0 + z6.toNat) (p1.length - z6.toNat)) rfl (op_slice rfl (em_s rfl) em_n em_n (sl_vp cGDeriv Try.und22 (sz_of Try.inf36) len_cGDeriv (vo rfl) (Nat.le_of_eq (Nat.zero_add _)) (bnd_lo h15.1 h15.2))) rfl rfl (RS.as rfl rfl rfl rfl (RS.done ?_))
 repeat refine gq ?_
 repeat refine sq ?_
 refine WPU.region Try.tb_ok (RS.as rfl rfl rfl rfl (RS.done ?_))
 repeat refine gq ?_
 repeat refine sq ?_
 refine WPU.ghost (tm':=fr 66 [(0,.vl 0 t0 0 p1.length),(1,.fn (.func 29) [] []),(5,.int .i64 z6),(6,.vl 0 t0 (0 + z6.toNat) (p1.length - z6.toNat)),(7,.int .i64 1)]) (Gh.sub ⟨rfl,rfl,rfl,rfl,rfl,trivial⟩) (Nat.le_of_ble_eq_true rfl) ?_
 refine WPU.loopK (fun m tm σ=>∃ z22 : Int,∃ z23 : Int,∃ l24 : List GDeriv,q002 p1 f1 z6 m z22 z23 l24 = some r∧tm = fr 66 [(0,.vl 0 t0 0 l24.length),(1,.fn (.func 29) [] []),(5,.int .i64 z22),(6,.vl 0 t0 (0 + z6.toNat) (p1.length - z6.toNat)),(7,.int .i64 z23)]∧σ = ⟨[(0,.vec (List.map cGDeriv l24).flatten 36 5 t0)],1⟩) (fun tm σ=>∃ z25 : Int,∃ l26 : List GDeriv,q017 z25 l26 = some r∧tm = fr 66 [(0,.vl 0 t0 0 l26.length),(5,.int .i64 z25)]∧σ = ⟨[(0,.vec (List.map cGDeriv l26).flatten 36 5 t0)],1⟩) n ⟨z6,1,p1,hF,rfl,rfl⟩ ?_ ?_
 rintro _ _ ⟨z25,l26,hF,rfl,rfl⟩
 unfold q017 at hF
 repeat refine gq ?_
 repeat refine sq ?_
 obtain ⟨h27,hF⟩:=needO_some hF
 obtain ⟨h28,hF⟩:=needO_some hF
 refine WPU.joinK (fun tm σ=>tm = fr 66 [(0,.vl 0 t0 0 ((clrV l26 (0 + z25.toNat) (l26.length - z25.toNat) (GDeriv.mk 0 [] 0 0 [])).length)),(5,.int .i64 z25)]∧σ = ⟨[(0,.vec (List.map cGDeriv (clrV l26 (0 + z25.toNat) (l26.length - z25.toNat) (GDeriv.mk 0 [] 0 0 []))).flatten 36 5 t0)],1⟩) ?_ ?_
 rintro _ _ ⟨rfl,rfl⟩
 repeat refine gq ?_
 repeat refine sq ?_
 obtain ⟨h29,hF⟩:=needO_some hF
 refine WPU.region Try.tb_ok ?_
 repeat refine RS.mv rfl rfl rfl rfl ?_
 refine RS.op (u:=.vl 0 t0 0 z25.toNat) rfl (op_slice rfl em_n (em_s rfl) em_n (sl_vp cGDeriv Try.und22 (sz_of Try.inf36) len_cGDeriv (vo rfl) (Nat.le_of_eq (Nat.zero_add _)) (bnd_hi h29.1 h29.2))) rfl rfl (RS.as rfl rfl rfl rfl (RS.done ?_))
 repeat refine gq ?_
 repeat refine sq ?_
 refine WPU.ret ?_
 repeat refine gq ?_
 obtain ⟨h30,hF⟩:=needO_some hF
 have hr:=Option.some.inj hF
 subst hr
 exact ⟨.inr rfl,[.vl 0 t0 0 z25.toNat],res_t rfl res_n,.vl 0 t0 0 z25.toNat,⟨[(0,.vec (List.map cGDeriv ((clrV l26 (0 + z25.toNat) (l26.length - z25.toNat) (GDeriv.mk 0 [] 0 0 [])).take z25.toNat)).flatten 36 5 t0)],1⟩,Nat.le_refl _,Gh.trans (Gh.truncL (K:=0) cGDeriv len_cGDeriv rfl z25.toNat) (Gh.to (n1:=1) [] rfl rfl (Nat.le_refl _) (Nat.le_of_ble_eq_true rfl) BUL.h BH.h),t0,by rw [List.length_take_of_le h30],rfl⟩
 refine WPU.region Try.tb_ok ?_
 repeat refine RS.mv rfl rfl rfl rfl ?_
 refine RS.op (u:=.vl 0 t0 (0 + z25.toNat) (l26.length - z25.toNat)) rfl (op_slice rfl (em_s rfl) em_n em_n (sl_vp cGDeriv Try.und22 (sz_of Try.inf36) len_cGDeriv (vo rfl) (Nat.le_of_eq (Nat.zero_add _)) (bnd_lo h27.1 h27.2))) rfl rfl (RS.opn (u:=.junk) (σ':=⟨[(0,.vec (List.map cGDeriv (clrV l26 (0 + z25.toNat) (l26.length - z25.toNat) (GDeriv.mk 0 [] 0 0 []))).flatten 36 5 t0)],1⟩) rfl (op_clr cGDeriv rfl rfl rfl Try.und22 Try.inf36 rfl rfl rfl rfl len_cGDeriv rfl h28 rfl) rfl (RS.done ?_))
 repeat refine gq ?_
 exact ⟨_,_,⟨rfl,rfl⟩,(Nat.le_of_ble_eq_true rfl),Gh.eqS ⟨(by simp only [clrV_len h28]; rfl),rfl,trivial⟩ rfl⟩
 rintro m2 _ _ ⟨z22,z23,l24,hF,rfl,rfl⟩
 rcases m2 with _ | m2
 cases hF
 unfold q002 at hF
 repeat refine sq ?_
 refine WPU.region Try.tb_ok ?_
 repeat refine RS.mv rfl rfl rfl rfl ?_
 refine RS.op rfl (op_len rfl rfl rfl (len_vp Try.und22 rfl)) rfl rfl (RS.op rfl (op_int rfl rfl (ix_lss _ _ _) rfl) rfl rfl (RS.done ?_))
 repeat refine gq ?_
 repeat refine sq ?_
 refine WPU.condS (t:=(decide (z23 < (((p1.length - z6.toNat) : Nat) : Int)))) rfl (fun h31=>?_) (fun h31=>?_)
 replace hF:=cond_t h31 hF
 repeat refine sq ?_
 refine WPU.skip ?_
 repeat refine gq ?_
 repeat refine sq ?_
 refine WPU.block ?_
 repeat refine sq ?_
 obtain ⟨x32,h33,hF⟩:=bindO_some hF
 obtain ⟨x34,h35,hF⟩:=bindO_some hF
 obtain ⟨r36,h37,hF⟩:=bindO_some hF
 refine WPU.drawE Try.tb_ok [] (by kernel_rfl) ?_
 repeat refine RD.mv rfl rfl rfl rfl ?_
 refine RD.look (u:=.ptr 0 t0 ((0 + z6.toNat) * 5 + z23.toNat * 5)) rfl (op_ia rfl rfl (ia_vp cGDeriv Try.und22 (sz_of Try.inf36) (by decide) len_cGDeriv (vo rfl) h33)) rfl rfl ?_
 refine RD.look (u:=.agg (xGDeriv x32)) rfl (ld_vp cGDeriv Try.und36 rfl (sz_of Try.inf36) len_cGDeriv rfl rfl h33 (cGDeriv_eq x32)) rfl rfl ?_
 repeat refine RD.mv rfl rfl rfl rfl ?_
 refine RD.look rfl (op_int rfl rfl (ix_sub _ _ _) rfl) rfl rfl ?_
 refine RD.look (u:=.ptr 0 t0 ((0 + z6.toNat) * 5 + (IntKind.i64.wrap (z23 - 1)).toNat * 5)) rfl (op_ia rfl rfl (ia_vp cGDeriv Try.und22 (sz_of Try.inf36) (by decide) len_cGDeriv (vo rfl) h35)) rfl rfl ?_
 refine RD.look (u:=.agg (xGDeriv x34)) rfl (ld_vp cGDeriv Try.und36 rfl (sz_of Try.inf36) len_cGDeriv rfl rfl h35 (cGDeriv_eq x34)) rfl rfl (RD.free (u:=.bool r36) (args:=[.agg (xGDeriv x32),.agg (xGDeriv x34)]) rfl (op_call rfl rfl Try.fn29 Try.hb29 rfl rfl) (fun s=>hf1S x32 x34 r36 h37 s) rfl rfl (RD.look (u:=.bool (!r36)) rfl (op_un rfl rfl rfl rfl) rfl rfl ?_))
 refine RD.done ⟨by kernel_rfl,trivial,?_⟩
 repeat refine gq ?_
 repeat refine sq ?_
 refine WPU.joinK (fun tm σ=>∃ z39 : Int,∃ l40 : List GDeriv,q00q z23 (q002 p1 f1 z6 m2) z39 l40 = some r∧tm = fr 66 [(0,.vl 0 t0 0 l40.length),(1,.fn (.func 29) [] []),(5,.int .i64 z39),(6,.vl 0 t0 (0 + z6.toNat) (p1.length - z6.toNat)),(7,.int .i64 z23)]∧σ = ⟨[(0,.vec (List.map cGDeriv l40).flatten 36 5 t0)],1⟩) ?_ ?_
 rintro _ _ ⟨z39,l40,hF,rfl,rfl⟩
 unfold q00q at hF
 repeat refine gq ?_
 repeat refine sq ?_
 refine WPU.region Try.tb_ok (RS.mv rfl rfl rfl rfl (RS.op rfl (op_int rfl rfl (ix_add _ _ _) rfl) rfl rfl (RS.as rfl rfl rfl rfl (RS.done ?_))))
 repeat refine gq ?_
 exact ⟨m2,_,_,Nat.lt_succ_self _,⟨z39,(IntKind.i64.wrap (z23 + 1)),l40,hF,rfl,rfl⟩,(Nat.le_of_ble_eq_true rfl),Gh.toC (n1:=1) ⟨rfl,rfl,rfl,rfl,rfl,trivial⟩ rfl (Nat.le_of_ble_eq_true rfl) (by simp)⟩
 refine WPU.condS (t:=(!r36)) rfl (fun h38=>?_) (fun h38=>?_)
 replace hF:=cond_t h38 hF
 repeat refine sq ?_
 obtain ⟨x41,h42,hF⟩:=bindO_some hF
 obtain ⟨x43,h44,hF⟩:=bindO_some hF
 refine WPU.joinK (fun tm σ=>tm = fr 66 [(0,.vl 0 t0 0 ((l24.set (0 + z22.toNat) x41).length)),(1,.fn (.func 29) [] []),(5,.int .i64 z22),(6,.vl 0 t0 (0 + z6.toNat) (p1.length - z6.toNat)),(7,.int .i64 z23)]∧σ = ⟨[(0,.vec (List.map cGDeriv (l24.set (0 + z22.toNat) x41)).flatten 36 5 t0)],1⟩) ?_ ?_
 rintro _ _ ⟨rfl,rfl⟩
 repeat refine gq ?_
 repeat refine sq ?_
 refine WPU.region Try.tb_ok (RS.mv rfl rfl rfl rfl (RS.op rfl (op_int rfl rfl (ix_add _ _ _) rfl) rfl rfl (RS.as rfl rfl rfl rfl (RS.done ?_))))
 repeat refine gq ?_
 exact ⟨_,_,⟨(IntKind.i64.wrap (z22 + 1)),(l24.set (0 + z22.toNat) x41),hF,rfl,rfl⟩,(Nat.le_of_ble_eq_true rfl),Gh.toC (n1:=1) ⟨rfl,rfl,rfl,rfl,rfl,trivial⟩ rfl (Nat.le_of_ble_eq_true rfl) (by simp)⟩
 refine WPU.region Try.tb_ok ?_
 repeat refine RS.mv rfl rfl rfl rfl ?_
 refine RS.op (u:=.ptr 0 t0 ((0 + z6.toNat) * 5 + z23.toNat * 5)) rfl (op_ia rfl rfl (ia_vp cGDeriv Try.und22 (sz_of Try.inf36) (by decide) len_cGDeriv (vo rfl) h42)) rfl rfl ?_
 refine RS.op (u:=.agg (xGDeriv x41)) rfl (ld_vp cGDeriv Try.und36 rfl (sz_of Try.inf36) len_cGDeriv rfl rfl h42 (cGDeriv_eq x41)) rfl rfl ?_
 refine RS.op (u:=.ptr 0 t0 (0 * 5 + z22.toNat * 5)) rfl (op_ia rfl rfl (ia_vl cGDeriv Try.und22 (sz_of Try.inf36) (by decide) len_cGDeriv (vo rfl) h44)) rfl rfl ?_
 refine RS.opn (u:=.junk) (σ':=⟨[(0,.vec (List.map cGDeriv (l24.set (0 + z22.toNat) x41)).flatten 36 5 t0)],1⟩) rfl (st_vp cGDeriv (sz_of Try.inf36) len_cGDeriv rfl rfl rfl rfl rfl (by simp only [cGDeriv_eq,xGDeriv,GDeriv.Kind,GDeriv.Name,GDeriv.From,GDeriv.To,GDeriv.Kids]; rfl) rfl (idxO_V h44) rfl) rfl ?_
 refine RS.done ?_
 repeat refine gq ?_
 exact ⟨_,_,⟨rfl,rfl⟩,(Nat.le_of_ble_eq_true rfl),Gh.eqS ⟨(by simp only [List.length_set]; rfl),rfl,rfl,rfl,rfl,trivial⟩ rfl⟩
 replace hF:=cond_f h38 hF
 repeat refine sq ?_
 refine WPU.skip ?_
 repeat refine gq ?_
 exact ⟨_,_,⟨z22,l24,hF,rfl,rfl⟩,(Nat.le_of_ble_eq_true rfl),Gh.toC (n1:=1) ⟨rfl,rfl,rfl,rfl,rfl,trivial⟩ rfl (Nat.le_of_ble_eq_true rfl) (by simp)⟩
 replace hF:=cond_f h31 hF
 repeat refine sq ?_
 refine WPU.exit ?_
 repeat refine gq ?_
 exact ⟨_,_,⟨z22,l24,hF,rfl,rfl⟩,(Nat.le_of_ble_eq_true rfl),Gh.toC (n1:=1) ⟨rfl,rfl,trivial⟩ rfl (Nat.le_of_ble_eq_true rfl) (by simp)⟩
 replace hF:=cond_f h14 hF
 repeat refine sq ?_
 refine WPU.skip ?_
 repeat refine gq ?_
 repeat refine sq ?_
 refine WPU.region Try.tb_ok (RS.mv rfl rfl rfl rfl (RS.op rfl (op_int rfl rfl (ix_add _ _ _) rfl) rfl rfl (RS.as rfl rfl rfl rfl (RS.done ?_))))
 repeat refine gq ?_
 exact ⟨m1,_,_,Nat.lt_succ_self _,⟨(IntKind.i64.wrap (z6 + 1)),hF,rfl,rfl⟩,(Nat.le_of_ble_eq_true rfl),Gh.toC (n1:=1) ⟨rfl,rfl,rfl,trivial⟩ rfl (Nat.le_of_ble_eq_true rfl) (by simp)⟩
 replace hF:=cond_f h7 hF
 repeat refine sq ?_
 refine WPU.exit ?_
 repeat refine gq ?_
 exact ⟨_,_,⟨hF,rfl,rfl⟩,(Nat.le_of_ble_eq_true rfl),Gh.toC (n1:=1) ⟨rfl,trivial⟩ rfl (Nat.le_of_ble_eq_true rfl) (by simp)⟩
theorem q04d (f1 : GDeriv→GDeriv→Option (Bool)) (hf1 : ∀ (a0 : GDeriv) (a1 : GDeriv) (r : Bool),f1 a0 a1 = some r→EvU Try.prog 29 [.agg (xGDeriv a0),.agg (xGDeriv a1)] ⟨[],0⟩ (fun u _=>u = .bool r∧Bel 0 u)) (n : Nat) (p1 : List GDeriv) (r : (List GDeriv)) (hF : q00l f1 n p1 = some r) : ∀ (σ : Sg) {K t0 : Nat},Nat.blt K σ.nx = true→gt σ.h K = some (.vec (List.map cGDeriv p1).flatten 36 5 t0)→EvU Try.prog 28 [.vl K t0 0 p1.length,.fn (.func 29) [] []] σ (fun u σ'=>∃ t,u = .vl K t 0 r.length∧σ' = ⟨ug σ.h K (.vec (List.map cGDeriv r).flatten 36 5 t),σ.nx⟩):=fun σ K t0 hK hg =>
 EvU.acc1 cGDeriv (BF.h 0) (BUL.h) (q04e f1 hf1 n p1 r hF) σ hK hg
def q03y (n : Nat) (p1 : GSession) : Option (GSession × Int) :=
 cond (p1.State != 0)
  (some ((GSession.mk p1.Readings p1.Decisions 0),0))
  (cond ((p1.Decisions.length : Int) == 0)
   (some (p1,16))
   (bindO (cutO p1.Decisions 0 (IntKind.i64.wrap ((p1.Decisions.length : Int) - 1))) fun l4 =>
   bindO (q01b n l4) fun r8 =>
   some ((GSession.mk p1.Readings r8 p1.State),0)))
theorem annotate_Undo_0 (n : Nat) (p1 : GSession) (r : GSession × Int) (hF : q03y n p1 = some r) : EvU Try.prog 22 [.agg (cGSession p1)] ⟨[],0⟩ (fun u _=>u = .tup [.agg (cGSession r.1),.int .i64 r.2]∧Bel 0 u):=by
 unfold q03y at hF
 refine EvU.of_body Try.tb_ok Try.fn22 rfl ?_
 refine WPU.ghost (tm':=fr 34 [(0,.agg (cGSession p1))]) (Gh.start (Nat.le_of_ble_eq_true rfl)) (Nat.zero_le _) ?_
 repeat refine sq ?_
 refine WPU.region Try.tb_ok (RS.op (u:=.ptr 0 0 0) (σ':=⟨[(0,.row (cGSession p1) 27)],1⟩) rfl (op_box rfl rfl rfl) rfl rfl (RS.op (u:=.ptr 1 0 0) (σ':=⟨[(1,.row [.nils,.nils,.int .i64 0] 27),(0,.row (cGSession p1) 27)],2⟩) rfl (op_alloc Try.inf27 rfl rfl) rfl rfl (RS.as rfl rfl rfl rfl (RS.done ?_))))
 repeat refine gq ?_
 repeat refine sq ?_
 refine WPU.region Try.tb_ok (RS.op (u:=.agg (cGSession p1)) rfl (ld_agg Try.und27 rfl (sz_of Try.inf27) rfl rfl rfl) rfl rfl (RS.op (u:=.agg (cGSession p1)) rfl (op_bld Try.bd72 rfl rfl rfl) rfl rfl (RS.op (u:=.ptr 2 0 0) (σ':=⟨[(2,.row [.nils,.nils,.int .i64 0] 72),(1,.row [.nils,.nils,.int .i64 0] 27),(0,.row (cGSession p1) 27)],3⟩) rfl (op_alloc Try.inf72 rfl rfl) rfl rfl (RS.opn (u:=.junk) (σ':=⟨[(2,.row (cGSession p1) 72),(1,.row [.nils,.nils,.int .i64 0] 27),(0,.row (cGSession p1) 27)],3⟩) rfl (op_store (sz_of Try.inf72) rfl rfl rfl rfl rfl rfl rfl rfl) rfl (RS.done ?_)))))
 repeat refine gq ?_
 repeat refine sq ?_
 refine WPU.region Try.tb_ok (RS.op (u:=.ptr 2 0 0) rfl (op_fa Try.und72 rfl (sz_of Try.inf27) rfl rfl rfl) rfl rfl (RS.op (u:=.ptr 2 0 2) rfl (op_fa Try.und27 rfl (sz_of Try.inf3) rfl rfl rfl) rfl rfl (RS.op (u:=.int .i64 p1.State) rfl (ld_one Try.und3 rfl rfl rfl rfl) rfl rfl (RS.op rfl (op_int rfl rfl (ix_neq _ _ _) rfl) rfl rfl (RS.done ?_)))))
 repeat refine gq ?_
 repeat refine sq ?_
 refine WPU.condS (t:=(p1.State != 0)) rfl (fun h2=>?_) (fun h2=>?_)
 replace hF:=cond_t h2 hF
 repeat refine sq ?_
 refine WPU.region Try.tb_ok (RS.op (u:=.ptr 2 0 0) rfl (op_fa Try.und72 rfl (sz_of Try.inf27) rfl rfl rfl) rfl rfl (RS.op (u:=.ptr 2 0 2) rfl (op_fa Try.und27 rfl (sz_of Try.inf3) rfl rfl rfl) rfl rfl (RS.opn (u:=.junk) (σ':=⟨[(2,.row [.isl false (List.map cGDeriv p1.Readings),.isl false (List.map cGDecision p1.Decisions),.int .i64 0] 72),(1,.row [.nils,.nils,.int .i64 0] 27),(0,.row (cGSession p1) 27)],3⟩) rfl (op_store (sz_of Try.inf3) rfl rfl rfl rfl rfl rfl rfl rfl) rfl (RS.done ?_))))
 repeat refine gq ?_
 repeat refine sq ?_
 refine WPU.region Try.tb_ok (RS.op (u:=.ptr 2 0 0) rfl (op_fa Try.und72 rfl (sz_of Try.inf27) rfl rfl rfl) rfl rfl (RS.op (u:=.agg [.isl false (List.map cGDeriv p1.Readings),.isl false (List.map cGDecision p1.Decisions),.int .i64 0]) rfl (ld_agg Try.und27 rfl (sz_of Try.inf27) rfl rfl rfl) rfl rfl (RS.opn (u:=.junk) (σ':=⟨[(2,.row [.isl false (List.map cGDeriv p1.Readings),.isl false (List.map cGDecision p1.Decisions),.int .i64 0] 72),(1,.row [.isl false (List.map cGDeriv p1.Readings),.isl false (List.map cGDecision p1.Decisions),.int .i64 0] 27),(0,.row (cGSession p1) 27)],3⟩) rfl (op_store (sz_of Try.inf27) rfl rfl rfl rfl rfl rfl rfl rfl) rfl (RS.as rfl rfl rfl rfl (RS.done ?_)))))
 repeat refine gq ?_
 repeat refine sq ?_
 refine WPU.ret ?_
 repeat refine gq ?_
 have hr:=Option.some.inj hF
 subst hr
 exact ⟨.inr rfl,[.agg [.isl false (List.map cGDeriv p1.Readings),.isl false (List.map cGDecision p1.Decisions),.int .i64 0],.int .i64 0],res_c (ld_agg Try.und27 rfl (sz_of Try.inf27) rfl rfl rfl) (res_t rfl (res_n)),.tup [.agg [.isl false (List.map cGDeriv p1.Readings),.isl false (List.map cGDecision p1.Decisions),.int .i64 0],.int .i64 0],⟨[],0⟩,Nat.le_refl _,Gh.toR (.tup [.agg [.isl false (List.map cGDeriv p1.Readings),.isl false (List.map cGDecision p1.Decisions),.int .i64 0],.int .i64 0]) rfl,rfl,BU.h⟩
 replace hF:=cond_f h2 hF
 repeat refine sq ?_
 refine WPU.skip ?_
 repeat refine gq ?_
 repeat refine sq ?_
 refine WPU.region Try.tb_ok (RS.op (u:=.ptr 2 0 0) rfl (op_fa Try.und72 rfl (sz_of Try.inf27) rfl rfl rfl) rfl rfl (RS.op (u:=.ptr 2 0 1) rfl (op_fa Try.und27 rfl (sz_of Try.inf25) rfl rfl rfl) rfl rfl (RS.op (u:=.isl false (List.map cGDecision p1.Decisions)) rfl (ld_one Try.und25 rfl rfl rfl rfl) rfl rfl (RS.op rfl (op_len rfl rfl rfl (len_isl cGDecision Try.und25)) rfl rfl (RS.as rfl rfl rfl rfl (RS.done ?_))))))
 repeat refine gq ?_
 repeat refine sq ?_
 refine WPU.region Try.tb_ok (RS.mv rfl rfl rfl rfl (RS.op rfl (op_int rfl rfl (ix_eql _ _ _) rfl) rfl rfl (RS.done ?_)))
 repeat refine gq ?_
 repeat refine sq ?_
 refine WPU.condS (t:=((p1.Decisions.length : Int) == 0)) rfl (fun h3=>?_) (fun h3=>?_)
 replace hF:=cond_t h3 hF
 repeat refine sq ?_
 refine WPU.region Try.tb_ok (RS.op (u:=.agg (cGSession p1)) rfl (ld_agg Try.und27 rfl (sz_of Try.inf27) rfl rfl rfl) rfl rfl (RS.opn (u:=.junk) (σ':=⟨[(2,.row (cGSession p1) 72),(1,.row (cGSession p1) 27),(0,.row (cGSession p1) 27)],3⟩) rfl (op_store (sz_of Try.inf27) rfl rfl rfl rfl rfl rfl rfl rfl) rfl (RS.as rfl rfl rfl rfl (RS.done ?_))))
 repeat refine gq ?_
 repeat refine sq ?_
 refine WPU.ret ?_
 repeat refine gq ?_
 have hr:=Option.some.inj hF
 subst hr
 exact ⟨.inr rfl,[.agg (cGSession p1),.int .i64 16],res_c (ld_agg Try.und27 rfl (sz_of Try.inf27) rfl rfl rfl) (res_t rfl (res_n)),.tup [.agg (cGSession p1),.int .i64 16],⟨[],0⟩,Nat.le_refl _,Gh.toR (.tup [.agg (cGSession p1),.int .i64 16]) rfl,rfl,BU.h⟩
 replace hF:=cond_f h3 hF
 repeat refine sq ?_
 refine WPU.skip ?_
 repeat refine gq ?_
 repeat refine sq ?_
 obtain ⟨l4,h5,hF⟩:=bindO_some hF
 obtain ⟨h6,h7⟩:=cut_hi cGDecision .i64 h5
 obtain ⟨r8,h9,hF⟩:=bindO_some hF
 refine WPU.region Try.tb_ok (RS.op (u:=.ptr 2 0 0) rfl (op_fa Try.und72 rfl (sz_of Try.inf27) rfl rfl rfl) rfl rfl (RS.op (u:=.ptr 2 0 1) rfl (op_fa Try.und27 rfl (sz_of Try.inf25) rfl rfl rfl) rfl rfl (RS.op (u:=.isl false (List.map cGDecision p1.Decisions)) rfl (ld_one Try.und25 rfl rfl rfl rfl) rfl rfl (RS.mv rfl rfl rfl rfl (RS.op rfl (op_int rfl rfl (ix_sub _ _ _) rfl) rfl rfl (RS.op (u:=.isl false (List.map cGDecision l4)) rfl (op_slice rfl em_n (em_s rfl) em_n (sl_isl cGDecision Try.und25 (sz_of Try.inf57) q004 h6 h7)) rfl rfl (RS.call (u:=.isl false (List.map cGDecision r8)) (args:=[.isl false (List.map cGDecision l4)]) rfl (op_call rfl rfl Try.fn45 Try.hb45 rfl rfl) (q047 n l4 r8 h9 _) rfl rfl ?_)))))))
 refine RS.op (u:=.ptr 2 0 0) rfl (op_fa Try.und72 rfl (sz_of Try.inf27) rfl rfl rfl) rfl rfl (RS.op (u:=.ptr 2 0 1) rfl (op_fa Try.und27 rfl (sz_of Try.inf25) rfl rfl rfl) rfl rfl (RS.opn (u:=.junk) (σ':=⟨[(2,.row [.isl false (List.map cGDeriv p1.Readings),.isl false (List.map cGDecision r8),.int .i64 p1.State] 72),(1,.row [.nils,.nils,.int .i64 0] 27),(0,.row (cGSession p1) 27)],3⟩) rfl (op_store (sz_of Try.inf25) rfl rfl rfl rfl rfl rfl rfl rfl) rfl (RS.done ?_)))
 repeat refine gq ?_
 repeat refine sq ?_
 refine WPU.region Try.tb_ok (RS.op (u:=.ptr 2 0 0) rfl (op_fa Try.und72 rfl (sz_of Try.inf27) rfl rfl rfl) rfl rfl (RS.op (u:=.agg [.isl false (List.map cGDeriv p1.Readings),.isl false (List.map cGDecision r8),.int .i64 p1.State]) rfl (ld_agg Try.und27 rfl (sz_of Try.inf27) rfl rfl rfl) rfl rfl (RS.opn (u:=.junk) (σ':=⟨[(2,.row [.isl false (List.map cGDeriv p1.Readings),.isl false (List.map cGDecision r8),.int .i64 p1.State] 72),(1,.row [.isl false (List.map cGDeriv p1.Readings),.isl false (List.map cGDecision r8),.int .i64 p1.State] 27),(0,.row (cGSession p1) 27)],3⟩) rfl (op_store (sz_of Try.inf27) rfl rfl rfl rfl rfl rfl rfl rfl) rfl (RS.as rfl rfl rfl rfl (RS.done ?_)))))
 repeat refine gq ?_
 repeat refine sq ?_
 refine WPU.ret ?_
 repeat refine gq ?_
 have hr:=Option.some.inj hF
 subst hr
 exact ⟨.inr rfl,[.agg [.isl false (List.map cGDeriv p1.Readings),.isl false (List.map cGDecision r8),.int .i64 p1.State],.int .i64 0],res_c (ld_agg Try.und27 rfl (sz_of Try.inf27) rfl rfl rfl) (res_t rfl (res_n)),.tup [.agg [.isl false (List.map cGDeriv p1.Readings),.isl false (List.map cGDecision r8),.int .i64 p1.State],.int .i64 0],⟨[],0⟩,Nat.le_refl _,Gh.toR (.tup [.agg [.isl false (List.map cGDeriv p1.Readings),.isl false (List.map cGDecision r8),.int .i64 p1.State],.int .i64 0]) rfl,rfl,BU.h⟩
theorem annotate_Undo_ok (n : Nat) (p1 : GSession) (r : GSession × Int) (hF : q03y n p1 = some r) (σ : Sg) : EvU Try.prog 22 [.agg (cGSession p1)] σ (fun u σ'=>u = .tup [.agg (cGSession r.1),.int .i64 r.2]∧σ' = σ) :=
 EvU.pure1C (annotate_Undo_0 n p1 r hF) σ
def q02y (n : Nat) (p1 : GSession) : Option (GSession × Int) :=
 cond (p1.State != 0)
  (some (p1,15))
  (some ((GSession.mk p1.Readings p1.Decisions 2),0))
theorem annotate_Reject_0 (n : Nat) (p1 : GSession) (r : GSession × Int) (hF : q02y n p1 = some r) : EvU Try.prog 49 [.agg (cGSession p1)] ⟨[],0⟩ (fun u _=>u = .tup [.agg (cGSession r.1),.int .i64 r.2]∧Bel 0 u):=by
 unfold q02y at hF
 refine EvU.of_body Try.tb_ok Try.fn49 rfl ?_
 refine WPU.ghost (tm':=fr 16 [(0,.agg (cGSession p1))]) (Gh.start (Nat.le_of_ble_eq_true rfl)) (Nat.zero_le _) ?_
 repeat refine sq ?_
 refine WPU.region Try.tb_ok (RS.op (u:=.ptr 0 0 0) (σ':=⟨[(0,.row (cGSession p1) 27)],1⟩) rfl (op_box rfl rfl rfl) rfl rfl (RS.op (u:=.ptr 1 0 0) (σ':=⟨[(1,.row [.nils,.nils,.int .i64 0] 27),(0,.row (cGSession p1) 27)],2⟩) rfl (op_alloc Try.inf27 rfl rfl) rfl rfl (RS.as rfl rfl rfl rfl (RS.done ?_))))
 repeat refine gq ?_
 repeat refine sq ?_
 refine WPU.region Try.tb_ok (RS.op (u:=.agg (cGSession p1)) rfl (ld_agg Try.und27 rfl (sz_of Try.inf27) rfl rfl rfl) rfl rfl (RS.op (u:=.agg (cGSession p1)) rfl (op_bld Try.bd72 rfl rfl rfl) rfl rfl (RS.op (u:=.ptr 2 0 0) (σ':=⟨[(2,.row [.nils,.nils,.int .i64 0] 72),(1,.row [.nils,.nils,.int .i64 0] 27),(0,.row (cGSession p1) 27)],3⟩) rfl (op_alloc Try.inf72 rfl rfl) rfl rfl (RS.opn (u:=.junk) (σ':=⟨[(2,.row (cGSession p1) 72),(1,.row [.nils,.nils,.int .i64 0] 27),(0,.row (cGSession p1) 27)],3⟩) rfl (op_store (sz_of Try.inf72) rfl rfl rfl rfl rfl rfl rfl rfl) rfl (RS.done ?_)))))
 repeat refine gq ?_
 repeat refine sq ?_
 refine WPU.region Try.tb_ok (RS.op (u:=.ptr 2 0 0) rfl (op_fa Try.und72 rfl (sz_of Try.inf27) rfl rfl rfl) rfl rfl (RS.op (u:=.ptr 2 0 2) rfl (op_fa Try.und27 rfl (sz_of Try.inf3) rfl rfl rfl) rfl rfl (RS.op (u:=.int .i64 p1.State) rfl (ld_one Try.und3 rfl rfl rfl rfl) rfl rfl (RS.op rfl (op_int rfl rfl (ix_neq _ _ _) rfl) rfl rfl (RS.done ?_)))))
 repeat refine gq ?_
 repeat refine sq ?_
 refine WPU.condS (t:=(p1.State != 0)) rfl (fun h2=>?_) (fun h2=>?_)
 replace hF:=cond_t h2 hF
 repeat refine sq ?_
 refine WPU.region Try.tb_ok (RS.op (u:=.agg (cGSession p1)) rfl (ld_agg Try.und27 rfl (sz_of Try.inf27) rfl rfl rfl) rfl rfl (RS.opn (u:=.junk) (σ':=⟨[(2,.row (cGSession p1) 72),(1,.row (cGSession p1) 27),(0,.row (cGSession p1) 27)],3⟩) rfl (op_store (sz_of Try.inf27) rfl rfl rfl rfl rfl rfl rfl rfl) rfl (RS.as rfl rfl rfl rfl (RS.done ?_))))
 repeat refine gq ?_
 repeat refine sq ?_
 refine WPU.ret ?_
 repeat refine gq ?_
 have hr:=Option.some.inj hF
 subst hr
 exact ⟨.inr rfl,[.agg (cGSession p1),.int .i64 15],res_c (ld_agg Try.und27 rfl (sz_of Try.inf27) rfl rfl rfl) (res_t rfl (res_n)),.tup [.agg (cGSession p1),.int .i64 15],⟨[],0⟩,Nat.le_refl _,Gh.toR (.tup [.agg (cGSession p1),.int .i64 15]) rfl,rfl,BU.h⟩
 replace hF:=cond_f h2 hF
 repeat refine sq ?_
 refine WPU.skip ?_
 repeat refine gq ?_
 repeat refine sq ?_
 refine WPU.region Try.tb_ok (RS.op (u:=.ptr 2 0 0) rfl (op_fa Try.und72 rfl (sz_of Try.inf27) rfl rfl rfl) rfl rfl (RS.op (u:=.ptr 2 0 2) rfl (op_fa Try.und27 rfl (sz_of Try.inf3) rfl rfl rfl) rfl rfl (RS.opn (u:=.junk) (σ':=⟨[(2,.row [.isl false (List.map cGDeriv p1.Readings),.isl false (List.map cGDecision p1.Decisions),.int .i64 2] 72),(1,.row [.nils,.nils,.int .i64 0] 27),(0,.row (cGSession p1) 27)],3⟩) rfl (op_store (sz_of Try.inf3) rfl rfl rfl rfl rfl rfl rfl rfl) rfl (RS.done ?_))))
 repeat refine gq ?_
 repeat refine sq ?_
 refine WPU.region Try.tb_ok (RS.op (u:=.ptr 2 0 0) rfl (op_fa Try.und72 rfl (sz_of Try.inf27) rfl rfl rfl) rfl rfl (RS.op (u:=.agg [.isl false (List.map cGDeriv p1.Readings),.isl false (List.map cGDecision p1.Decisions),.int .i64 2]) rfl (ld_agg Try.und27 rfl (sz_of Try.inf27) rfl rfl rfl) rfl rfl (RS.opn (u:=.junk) (σ':=⟨[(2,.row [.isl false (List.map cGDeriv p1.Readings),.isl false (List.map cGDecision p1.Decisions),.int .i64 2] 72),(1,.row [.isl false (List.map cGDeriv p1.Readings),.isl false (List.map cGDecision p1.Decisions),.int .i64 2] 27),(0,.row (cGSession p1) 27)],3⟩) rfl (op_store (sz_of Try.inf27) rfl rfl rfl rfl rfl rfl rfl rfl) rfl (RS.as rfl rfl rfl rfl (RS.done ?_)))))
 repeat refine gq ?_
 repeat refine sq ?_
 refine WPU.ret ?_
 repeat refine gq ?_
 have hr:=Option.some.inj hF
 subst hr
 exact ⟨.inr rfl,[.agg [.isl false (List.map cGDeriv p1.Readings),.isl false (List.map cGDecision p1.Decisions),.int .i64 2],.int .i64 0],res_c (ld_agg Try.und27 rfl (sz_of Try.inf27) rfl rfl rfl) (res_t rfl (res_n)),.tup [.agg [.isl false (List.map cGDeriv p1.Readings),.isl false (List.map cGDecision p1.Decisions),.int .i64 2],.int .i64 0],⟨[],0⟩,Nat.le_refl _,Gh.toR (.tup [.agg [.isl false (List.map cGDeriv p1.Readings),.isl false (List.map cGDecision p1.Decisions),.int .i64 2],.int .i64 0]) rfl,rfl,BU.h⟩
theorem annotate_Reject_ok (n : Nat) (p1 : GSession) (r : GSession × Int) (hF : q02y n p1 = some r) (σ : Sg) : EvU Try.prog 49 [.agg (cGSession p1)] σ (fun u σ'=>u = .tup [.agg (cGSession r.1),.int .i64 r.2]∧σ' = σ) :=
 EvU.pure1C (annotate_Reject_0 n p1 r hF) σ
end Go.Proofs
end
