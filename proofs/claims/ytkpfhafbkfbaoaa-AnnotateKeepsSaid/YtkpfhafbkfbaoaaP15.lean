/-
  Texts of the walk: A5.
-/
import Derived.Test.YtkpfhafbkfbaoaaP14
section
namespace Go.Proofs
open Go Go.Rx Go.Vx
set_option maxRecDepth 10000
set_option linter.unusedSimpArgs false
set_option linter.unusedVariables false
structure GStep where
 Op : Int
 Propx : GProp
 Yes : Bool
def cGStep (x : GStep) : List U:=[.int .u8 x.Op,.int .i64 x.Propx.Kind,.str x.Propx.Name,.int .i64 x.Propx.From,.int .i64 x.Propx.To,.bool x.Yes]
theorem bel_cGStep (n : Nat) (x : GStep) : BelL n (cGStep x):=by
 simp only [cGStep,BelL,Bel,true_and,and_true]
theorem len_cGStep (x : GStep) : (cGStep x).length = 6:=rfl
instance : BF cGStep:=⟨bel_cGStep⟩
instance (n : Nat) (x : GStep) : BUL n (cGStep x):=⟨bel_cGStep n x⟩
theorem Try.bd57 : BdT Try.tb 57 [.int .i64 0,.str [],.int .i64 0,.int .i64 0,.bool false] [(0,4),(4,1)]:=bdT Try.und57 Try.inf57 rfl (by kernel_rfl)
def disc_Props (n : Nat) (p1 : GDeriv) : Option ((List GProp)) :=
 bindO (q01l n ([] : List GProp) p1) fun r2 =>
 needO (r2.length < 4611686018427387904) (
 bindO (q023 n (srtP r2)) fun r6 =>
 some r6)
theorem disc_Props_0 (n : Nat) (p1 : GDeriv) (r : (List GProp)) (hF : disc_Props n p1 = some r) : EvU Try.prog 14 [.agg (xGDeriv p1)] ⟨[],0⟩ (fun u _=>u = .isl false (List.map cGProp r)∧Bel 0 u):=by
 unfold disc_Props at hF
 refine EvU.of_body Try.tb_ok Try.fn14 rfl ?_
 refine WPU.ghost (tm':=fr 10 [(0,.agg (xGDeriv p1))]) (Gh.start (Nat.le_of_ble_eq_true rfl)) (Nat.zero_le _) ?_
 repeat refine sq ?_
 refine WPU.region Try.tb_ok (RS.op (u:=.ptr 0 0 0) (σ':=⟨[(0,.row (xGDeriv p1) 36)],1⟩) rfl (op_box rfl rfl rfl) rfl rfl (RS.as rfl rfl rfl rfl (RS.done ?_)))
 repeat refine gq ?_
 repeat refine sq ?_
 obtain ⟨r2,h3,hF⟩:=bindO_some hF
 refine WPU.region Try.tb_ok (RS.op (u:=.agg (xGDeriv p1)) rfl (ld_agg Try.und36 rfl (sz_of Try.inf36) rfl rfl rfl) rfl rfl ?_)
 refine RS.callx (args:=[.nils,.agg (xGDeriv p1)]) rfl (op_call rfl rfl Try.fn33 Try.hb33 rfl rfl) (EvU.nil1 38 4 (by decide) (disc_collect_ok n ([] : List GProp) p1 r2 h3 _ rfl rfl)) rfl rfl ?_
 rintro _ _ ⟨t4,rfl,rfl⟩
 refine RS.as rfl rfl rfl rfl (RS.done ?_)
 repeat refine gq ?_
 repeat refine sq ?_
 obtain ⟨h5,hF⟩:=needO_some hF
 refine WPU.joinK (fun tm σ=>tm = fr 10 [(3,.vl 1 t4 0 ((srtP r2).length))]∧σ = ⟨[(1,.vec (List.map cGProp (srtP r2)).flatten 38 4 t4),(0,.row (xGDeriv p1) 36)],2⟩) ?_ ?_
 rintro _ _ ⟨rfl,rfl⟩
 repeat refine gq ?_
 repeat refine sq ?_
 obtain ⟨r6,h7,hF⟩:=bindO_some hF
 refine WPU.region Try.tb_ok (RS.mv rfl rfl rfl rfl (RS.callx (args:=[.vl 1 t4 0 ((srtP r2).length)]) rfl (op_call rfl rfl Try.fn36 Try.hb36 rfl rfl) (slices_Compact_Prop_ok n (srtP r2) r6 h7 _ rfl rfl) rfl rfl ?_))
 rintro _ _ ⟨t8,rfl,rfl⟩
 refine RS.as rfl rfl rfl rfl (RS.done ?_)
 repeat refine gq ?_
 repeat refine sq ?_
 refine WPU.ret ?_
 repeat refine gq ?_
 have hr:=Option.some.inj hF
 subst hr
 exact ⟨.inr rfl,[.vl 1 t8 0 r6.length],res_t rfl (res_n),.isl false (List.map cGProp r6),⟨[],0⟩,Nat.le_refl _,Gh.trans (Gh.fz (tm':=[.isl false (List.map cGProp r6)]) (h':=[(0,.row (xGDeriv p1) 36)]) 1 (.vec (List.map cGProp r6).flatten 38 4 t8) 4 rfl (by simp) (by simp only [oneU,fzL_nil,fzL_cons,fz_int,fz_bool,fz_str,fz_nils,fz_nilp,fz_nilm,fz_nilf,fz_junk,fz_isl,fz_map,fz_agg,fz_tup,fz_fn,junkT,fz_vl len_cGProp,fz_xGDeriv]) (by simp only [fzH,fzB,ug,Nat.beq,cond_true,cond_false,oneU,fzL_nil,fzL_cons,fz_int,fz_bool,fz_str,fz_nils,fz_nilp,fz_nilm,fz_nilf,fz_junk,fz_isl,fz_map,fz_agg,fz_tup,fz_fn,junkT,fz_vl len_cGProp,fz_xGDeriv])) (Gh.toR (.isl false (List.map cGProp r6)) rfl),rfl,BU.h⟩
 refine WPU.region Try.tb_ok (RS.mv rfl rfl rfl rfl (RS.callx (args:=[.vl 1 t4 0 r2.length,.fn (.func 35) [] []]) rfl (op_call rfl rfl Try.fn34 Try.hb34 rfl rfl) (srtP_ok r2 h5 _ rfl rfl) rfl rfl ?_))
 rintro _ _ ⟨rfl,rfl⟩
 refine RS.done ?_
 repeat refine gq ?_
 exact ⟨_,_,⟨rfl,rfl⟩,(Nat.zero_le _),Gh.eqS ⟨(by simp only [srtP_len r2]; rfl),trivial⟩ rfl⟩
theorem disc_Props_ok (n : Nat) (p1 : GDeriv) (r : (List GProp)) (hF : disc_Props n p1 = some r) (σ : Sg) : EvU Try.prog 14 [.agg (xGDeriv p1)] σ (fun u σ'=>u = .isl false (List.map cGProp r)∧σ' = σ) :=
 EvU.pure1C (disc_Props_0 n p1 r hF) σ
def disc_Holds (n : Nat) (p1 : GDeriv) (p2 : GProp) : Option (Bool) :=
 bindO (disc_Props n p1) fun r3 =>
 bindO (disc_has n r3 p2) fun r5 =>
 some r5
theorem disc_Holds_0 (n : Nat) (p1 : GDeriv) (p2 : GProp) (r : Bool) (hF : disc_Holds n p1 p2 = some r) : EvU Try.prog 17 [.agg (xGDeriv p1),.agg (cGProp p2)] ⟨[],0⟩ (fun u _=>u = .bool r∧Bel 0 u):=by
 unfold disc_Holds at hF
 refine EvU.of_body Try.tb_ok Try.fn17 rfl ?_
 refine WPU.ghost (tm':=fr 9 [(0,.agg (xGDeriv p1)),(1,.agg (cGProp p2))]) (Gh.start (Nat.le_of_ble_eq_true rfl)) (Nat.zero_le _) ?_
 repeat refine sq ?_
 refine WPU.region Try.tb_ok (RS.op (u:=.ptr 0 0 0) (σ':=⟨[(0,.row (xGDeriv p1) 36)],1⟩) rfl (op_box rfl rfl rfl) rfl rfl (RS.op (u:=.ptr 1 0 0) (σ':=⟨[(1,.row (cGProp p2) 38),(0,.row (xGDeriv p1) 36)],2⟩) rfl (op_box rfl rfl rfl) rfl rfl (RS.as rfl rfl rfl rfl (RS.done ?_))))
 repeat refine gq ?_
 repeat refine sq ?_
 obtain ⟨r3,h4,hF⟩:=bindO_some hF
 obtain ⟨r5,h6,hF⟩:=bindO_some hF
 refine WPU.drawE Try.tb_ok [] (by kernel_rfl) ?_
 refine RD.look (u:=.agg (xGDeriv p1)) rfl (ld_agg Try.und36 rfl (sz_of Try.inf36) rfl rfl rfl) rfl rfl (RD.free (u:=.isl false (List.map cGProp r3)) (args:=[.agg (xGDeriv p1)]) rfl (op_call rfl rfl Try.fn14 Try.hb14 rfl rfl) (fun s=>disc_Props_ok n p1 r3 h4 s) rfl rfl (RD.look (u:=.agg (cGProp p2)) rfl (ld_agg Try.und38 rfl (sz_of Try.inf38) rfl rfl rfl) rfl rfl (RD.free (u:=.bool r5) (args:=[.isl false (List.map cGProp r3),.agg (cGProp p2)]) rfl (op_call rfl rfl Try.fn46 Try.hb46 rfl rfl) (fun s=>disc_has_ok n r3 p2 r5 h6 s) rfl rfl (RD.as rfl rfl rfl rfl ?_))))
 refine RD.done ⟨by kernel_rfl,trivial,?_⟩
 repeat refine gq ?_
 repeat refine sq ?_
 refine WPU.ret ?_
 repeat refine gq ?_
 have hr:=Option.some.inj hF
 subst hr
 exact ⟨.inr rfl,[.bool r5],res_t rfl (res_n),.bool r5,⟨[],0⟩,Nat.le_refl _,Gh.toR (.bool r5) rfl,rfl,BU.h⟩
theorem disc_Holds_ok (n : Nat) (p1 : GDeriv) (p2 : GProp) (r : Bool) (hF : disc_Holds n p1 p2 = some r) (σ : Sg) : EvU Try.prog 17 [.agg (xGDeriv p1),.agg (cGProp p2)] σ (fun u σ'=>u = .bool r∧σ' = σ) :=
 EvU.pure1C (disc_Holds_0 n p1 p2 r hF) σ
def disc_all_K1 (p1 : List GDeriv) (l9 : List (List GProp)) : Option ((List (List GProp))) :=
 needO ((p1.length : Int).toNat = l9.length) (
 some l9)
def disc_all_L1 (p1 : List GDeriv) (n : Nat) : Nat→Int→(List (List GProp))→Option ((List (List GProp)))
 | 0,_,_=>none
 | m1 + 1,z7,l8 =>
  cond (decide (z7 < (p1.length : Int)))
   (bindO (idxO p1 z7) fun x12 =>
   bindO (disc_Props n x12) fun r14 =>
   bindO (idxV l8 0 ((p1.length : Int).toNat) z7) fun x16 =>
   (disc_all_L1 p1 n m1) (IntKind.i64.wrap (z7 + 1)) (l8.set z7.toNat r14))
   (disc_all_K1 p1 l8)
def disc_all (n : Nat) (p1 : List GDeriv) : Option ((List (List GProp))) :=
 needO (0 ≤ (p1.length : Int)∧24 * (p1.length : Int).toNat ≤ 281474976710656∧(p1.length : Int) ≤ 281474976710656) (
 disc_all_L1 p1 n n 0 (List.replicate (p1.length : Int).toNat []))
theorem disc_all_0 (n : Nat) (p1 : List GDeriv) (r : (List (List GProp))) (hF : disc_all n p1 = some r) : EvU Try.prog 48 [.isl false (List.map cGDeriv p1)] ⟨[],0⟩ (fun u _=>u = .isl false (List.map (cL cGProp) r)∧Bel 0 u):=by
 unfold disc_all at hF
 refine EvU.of_body Try.tb_ok Try.fn48 rfl ?_
 refine WPU.ghost (tm':=fr 23 [(0,.isl false (List.map cGDeriv p1))]) (Gh.start (Nat.le_of_ble_eq_true rfl)) (Nat.zero_le _) ?_
 repeat refine sq ?_
 refine WPU.region Try.tb_ok (RS.as rfl rfl rfl rfl (RS.done ?_))
 repeat refine gq ?_
 repeat refine sq ?_
 obtain ⟨h2,hF⟩:=needO_some hF
 refine WPU.region Try.tb_ok (RS.mv rfl rfl rfl rfl (RS.op rfl (op_len rfl rfl rfl (len_isl cGDeriv Try.und22)) rfl rfl (RS.op (u:=.sl 0 0 ((p1.length : Int).toNat) ((p1.length : Int).toNat)) (σ':=⟨[(0,.row (List.map (cL cGProp) (List.replicate (p1.length : Int).toNat [])).flatten 33)],1⟩) rfl (op_mks (cL cGProp) [] rfl rfl Try.und82 Try.inf33 rfl rfl rfl rfl h2) rfl rfl (RS.as rfl rfl rfl rfl (RS.done ?_)))))
 repeat refine gq ?_
 repeat refine sq ?_
 refine WPU.region Try.tb_ok (RS.mv rfl rfl rfl rfl (RS.op rfl (op_len rfl rfl rfl (len_isl cGDeriv Try.und22)) rfl rfl (RS.mv rfl rfl rfl rfl (RS.done ?_))))
 repeat refine gq ?_
 repeat refine sq ?_
 refine WPU.ghost (tm':=fr 23 [(3,.sl 0 0 ((p1.length : Int).toNat) ((p1.length : Int).toNat)),(9,.isl false (List.map cGDeriv p1)),(10,.int .i64 (p1.length : Int)),(11,.int .i64 0)]) (Gh.sub ⟨rfl,rfl,rfl,rfl,trivial⟩) (Nat.zero_le _) ?_
 refine WPU.loopK (fun m tm σ=>∃ z7 : Int,∃ l8 : List (List GProp),disc_all_L1 p1 n m z7 l8 = some r∧tm = fr 23 [(3,.sl 0 0 ((p1.length : Int).toNat) ((p1.length : Int).toNat)),(9,.isl false (List.map cGDeriv p1)),(10,.int .i64 (p1.length : Int)),(11,.int .i64 z7)]∧σ = ⟨[(0,.row (List.map (cL cGProp) l8).flatten 33)],1⟩) (fun tm σ=>∃ l9 : List (List GProp),disc_all_K1 p1 l9 = some r∧tm = fr 23 [(3,.sl 0 0 ((p1.length : Int).toNat) ((p1.length : Int).toNat))]∧σ = ⟨[(0,.row (List.map (cL cGProp) l9).flatten 33)],1⟩) n ⟨0,(List.replicate (p1.length : Int).toNat []),hF,rfl,rfl⟩ ?_ ?_
 rintro _ _ ⟨l9,hF,rfl,rfl⟩
 unfold disc_all_K1 at hF
 repeat refine gq ?_
 repeat refine sq ?_
 refine WPU.region Try.tb_ok (RS.mv rfl rfl rfl rfl (RS.as rfl rfl rfl rfl (RS.done ?_)))
 repeat refine gq ?_
 repeat refine sq ?_
 refine WPU.ret ?_
 repeat refine gq ?_
 obtain ⟨h10,hF⟩:=needO_some hF
 have hr:=Option.some.inj hF
 subst hr
 exact ⟨.inr rfl,[.sl 0 0 ((p1.length : Int).toNat) ((p1.length : Int).toNat)],res_t rfl (res_n),.isl false (List.map (cL cGProp) l9),⟨[],0⟩,Nat.le_refl _,Gh.trans (Gh.fz (tm':=[.isl false (List.map (cL cGProp) l9)]) (h':=[]) 0 (.row (List.map (cL cGProp) l9).flatten 33) 1 rfl (by simp) (by simp only [oneU,fzL_nil,fzL_cons,fz_int,fz_bool,fz_str,fz_nils,fz_nilp,fz_nilm,fz_nilf,fz_junk,fz_isl,fz_map,fz_agg,fz_tup,fz_fn,junkT,fz_rl (len_cL cGProp) h10]) (by simp only [fzH,fzB,ug,Nat.beq,cond_true,cond_false,oneU,fzL_nil,fzL_cons,fz_int,fz_bool,fz_str,fz_nils,fz_nilp,fz_nilm,fz_nilf,fz_junk,fz_isl,fz_map,fz_agg,fz_tup,fz_fn,junkT,fz_rl (len_cL cGProp) h10])) (Gh.toR (.isl false (List.map (cL cGProp) l9)) rfl),rfl,BU.h⟩
 rintro m1 _ _ ⟨z7,l8,hF,rfl,rfl⟩
 rcases m1 with _ | m1
 cases hF
 unfold disc_all_L1 at hF
 repeat refine sq ?_
 refine WPU.region Try.tb_ok (RS.op rfl (op_int rfl rfl (ix_lss _ _ _) rfl) rfl rfl (RS.done ?_))
 repeat refine gq ?_
 repeat refine sq ?_
 refine WPU.condS (t:=(decide (z7 < (p1.length : Int)))) rfl (fun h11=>?_) (fun h11=>?_)
 replace hF:=cond_t h11 hF
 repeat refine sq ?_
 refine WPU.skip ?_
 repeat refine gq ?_
 repeat refine sq ?_
 refine WPU.block ?_
 repeat refine sq ?_
 obtain ⟨x12,h13,hF⟩:=bindO_some hF
 refine WPU.region Try.tb_ok (RS.mv rfl rfl rfl rfl (RS.op (u:=.iptr (xGDeriv x12)) rfl (op_ia rfl rfl (ia_isl cGDeriv Try.und22 (sz_of Try.inf36) len_cGDeriv h13 (cGDeriv_eq x12))) rfl rfl (RS.op (u:=.agg (xGDeriv x12)) rfl (li_agg Try.und36 rfl (sz_of Try.inf36) rfl rfl) rfl rfl (RS.op (u:=.ptr 1 0 0) (σ':=⟨[(1,.row [.int .i64 0,.str [],.int .i64 0,.int .i64 0,.nils] 36),(0,.row (List.map (cL cGProp) l8).flatten 33)],2⟩) rfl (op_alloc Try.inf36 rfl rfl) rfl rfl (RS.as rfl rfl rfl rfl (RS.opn (u:=.junk) (σ':=⟨[(1,.row (xGDeriv x12) 36),(0,.row (List.map (cL cGProp) l8).flatten 33)],2⟩) rfl (op_store (sz_of Try.inf36) rfl rfl rfl rfl rfl rfl rfl rfl) rfl (RS.done ?_)))))))
 repeat refine gq ?_
 repeat refine sq ?_
 obtain ⟨r14,h15,hF⟩:=bindO_some hF
 obtain ⟨x16,h17,hF⟩:=bindO_some hF
 refine WPU.region Try.tb_ok ?_
 repeat refine RS.mv rfl rfl rfl rfl ?_
 refine RS.op (u:=.agg (xGDeriv x12)) rfl (ld_agg Try.und36 rfl (sz_of Try.inf36) rfl rfl rfl) rfl rfl (RS.call (u:=.isl false (List.map cGProp r14)) (args:=[.agg (xGDeriv x12)]) rfl (op_call rfl rfl Try.fn14 Try.hb14 rfl rfl) (disc_Props_ok n x12 r14 h15 _) rfl rfl (RS.op (u:=.ptr 0 0 (0 * 1 + z7.toNat * 1)) rfl (op_ia rfl rfl (ia_rl Try.und82 (sz_of Try.inf33) rfl h17)) rfl rfl (RS.opn (u:=.junk) (σ':=⟨[(1,.row (xGDeriv x12) 36),(0,.row (List.map (cL cGProp) (l8.set z7.toNat r14)).flatten 33)],2⟩) rfl (st_rl (cL cGProp) (sz_of Try.inf33) (len_cL cGProp) rfl rfl rfl rfl rfl rfl h17 rfl) rfl (RS.done ?_))))
 repeat refine gq ?_
 repeat refine sq ?_
 refine WPU.region Try.tb_ok (RS.op rfl (op_int rfl rfl (ix_add _ _ _) rfl) rfl rfl (RS.mv rfl rfl rfl rfl (RS.done ?_)))
 repeat refine gq ?_
 exact ⟨m1,_,_,Nat.lt_succ_self _,⟨(IntKind.i64.wrap (z7 + 1)),(l8.set z7.toNat r14),hF,rfl,rfl⟩,(Nat.zero_le _),Gh.toC (n1:=1) ⟨rfl,rfl,rfl,rfl,trivial⟩ rfl (Nat.zero_le _) (by simp)⟩
 replace hF:=cond_f h11 hF
 repeat refine sq ?_
 refine WPU.exit ?_
 repeat refine gq ?_
 exact ⟨_,_,⟨l8,hF,rfl,rfl⟩,(Nat.zero_le _),Gh.toC (n1:=1) ⟨rfl,trivial⟩ rfl (Nat.zero_le _) (by simp)⟩
theorem disc_all_ok (n : Nat) (p1 : List GDeriv) (r : (List (List GProp))) (hF : disc_all n p1 = some r) (σ : Sg) : EvU Try.prog 48 [.isl false (List.map cGDeriv p1)] σ (fun u σ'=>u = .isl false (List.map (cL cGProp) r)∧σ' = σ) :=
 EvU.pure1C (disc_all_0 n p1 r hF) σ
def q02q (n : Nat) (p1 : List GDeriv) (p2 : List GDecision) : Option ((List Int)) :=
 bindO (disc_all n p1) fun r3 =>
 bindO (q02n n r3 p2) fun r5 =>
 some r5
theorem disc_Remaining_0 (n : Nat) (p1 : List GDeriv) (p2 : List GDecision) (r : (List Int)) (hF : q02q n p1 p2 = some r) : EvU Try.prog 18 [.isl false (List.map cGDeriv p1),.isl false (List.map cGDecision p2)] ⟨[],0⟩ (fun u _=>u = .isl false (List.map (cI .i64) r)∧Bel 0 u):=by
 unfold q02q at hF
 refine EvU.of_body Try.tb_ok Try.fn18 rfl ?_
 refine WPU.ghost (tm':=fr 9 [(0,.isl false (List.map cGDeriv p1)),(1,.isl false (List.map cGDecision p2))]) (Gh.start (Nat.le_of_ble_eq_true rfl)) (Nat.zero_le _) ?_
 repeat refine sq ?_
 refine WPU.region Try.tb_ok (RS.as rfl rfl rfl rfl (RS.done ?_))
 repeat refine gq ?_
 repeat refine sq ?_
 obtain ⟨r3,h4,hF⟩:=bindO_some hF
 obtain ⟨r5,h6,hF⟩:=bindO_some hF
 refine WPU.region Try.tb_ok (RS.mv rfl rfl rfl rfl (RS.call (u:=.isl false (List.map (cL cGProp) r3)) (args:=[.isl false (List.map cGDeriv p1)]) rfl (op_call rfl rfl Try.fn48 Try.hb48 rfl rfl) (disc_all_ok n p1 r3 h4 _) rfl rfl (RS.mv rfl rfl rfl rfl (RS.call (u:=.isl false (List.map (cI .i64) r5)) (args:=[.isl false (List.map (cL cGProp) r3),.isl false (List.map cGDecision p2)]) rfl (op_call rfl rfl Try.fn47 Try.hb47 rfl rfl) (disc_remaining_ok n r3 p2 r5 h6 _) rfl rfl (RS.as rfl rfl rfl rfl (RS.done ?_))))))
 repeat refine gq ?_
 repeat refine sq ?_
 refine WPU.ret ?_
 repeat refine gq ?_
 have hr:=Option.some.inj hF
 subst hr
 exact ⟨.inr rfl,[.isl false (List.map (cI .i64) r5)],res_t rfl (res_n),.isl false (List.map (cI .i64) r5),⟨[],0⟩,Nat.le_refl _,Gh.toR (.isl false (List.map (cI .i64) r5)) rfl,rfl,BU.h⟩
theorem disc_Remaining_ok (n : Nat) (p1 : List GDeriv) (p2 : List GDecision) (r : (List Int)) (hF : q02q n p1 p2 = some r) (σ : Sg) : EvU Try.prog 18 [.isl false (List.map cGDeriv p1),.isl false (List.map cGDecision p2)] σ (fun u σ'=>u = .isl false (List.map (cI .i64) r)∧σ' = σ) :=
 EvU.pure1C (disc_Remaining_0 n p1 p2 r hF) σ
def q00t   : Option (Int) :=
 some (-1)
def q005 (p1 : List GDecision) (c2 : GProp) (f1 : GDecision→GProp→Option (Bool)) : Nat→Int→Option (Int)
 | 0,_=>none
 | m1 + 1,z6 =>
  cond (decide (z6 < (p1.length : Int)))
   (bindO (idxO p1 z6) fun x8 =>
   bindO (f1 x8 c2) fun r10 =>
   cond r10
    (some z6)
    ((q005 p1 c2 f1 m1) (IntKind.i64.wrap (z6 + 1))))
   (q00t)
def q00i (f1 : GDecision→GProp→Option (Bool)) (n : Nat) (p1 : List GDecision) (c2 : GProp) : Option (Int) :=
 q005 p1 c2 f1 n 0
theorem q03o (f1 : GDecision→GProp→Option (Bool)) (hf1 : ∀ (a0 : GDecision) (a1 : GProp) (r : Bool),f1 a0 a1 = some r→EvU Try.prog 60 [.agg (cGDecision a0),.iptr (cGProp a1)] ⟨[],0⟩ (fun u _=>u = .bool r∧Bel 0 u)) (n : Nat) (p1 : List GDecision) (c2 : GProp) (r : Int) (hF : q00i f1 n p1 c2 = some r) : EvU Try.prog 63 [.isl false (List.map cGDecision p1),.fn (.func 60) [] [.iptr (cGProp c2)]] ⟨[],0⟩ (fun u _=>u = .int .i64 r∧Bel 0 u):=by
 unfold q00i at hF
 have hf1S : ∀ (a0 : GDecision) (a1 : GProp) (r : Bool),f1 a0 a1 = some r→∀ σ,EvU Try.prog 60 [.agg (cGDecision a0),.iptr (cGProp a1)] σ (fun u σ'=>u = .bool r∧σ' = σ):=fun a0 a1 r h σ=>EvU.pure1C (hf1 a0 a1 r h) σ
 refine EvU.of_body Try.tb_ok Try.fn63 rfl ?_
 refine WPU.ghost (tm':=fr 19 [(0,.isl false (List.map cGDecision p1)),(1,.fn (.func 60) [] [.iptr (cGProp c2)])]) (Gh.start (Nat.le_of_ble_eq_true rfl)) (Nat.zero_le _) ?_
 repeat refine sq ?_
 refine WPU.region Try.tb_ok (RS.as rfl rfl rfl rfl (RS.done ?_))
 repeat refine gq ?_
 repeat refine sq ?_
 refine WPU.region Try.tb_ok (RS.mv rfl rfl rfl rfl (RS.op rfl (op_len rfl rfl rfl (len_isl cGDecision Try.und25)) rfl rfl (RS.mv rfl rfl rfl rfl (RS.done ?_))))
 repeat refine gq ?_
 repeat refine sq ?_
 refine WPU.ghost (tm':=fr 19 [(0,.isl false (List.map cGDecision p1)),(1,.fn (.func 60) [] [.iptr (cGProp c2)]),(7,.int .i64 (p1.length : Int)),(8,.int .i64 0)]) (Gh.sub ⟨rfl,rfl,rfl,rfl,trivial⟩) (Nat.zero_le _) ?_
 refine WPU.loopK (fun m tm σ=>∃ z6 : Int,q005 p1 c2 f1 m z6 = some r∧tm = fr 19 [(0,.isl false (List.map cGDecision p1)),(1,.fn (.func 60) [] [.iptr (cGProp c2)]),(7,.int .i64 (p1.length : Int)),(8,.int .i64 z6)]∧σ = ⟨[],0⟩) (fun tm σ=>q00t = some r∧tm = fr 19 []∧σ = ⟨[],0⟩) n ⟨0,hF,rfl,rfl⟩ ?_ ?_
 rintro _ _ ⟨hF,rfl,rfl⟩
 unfold q00t at hF
 repeat refine gq ?_
 repeat refine sq ?_
 refine WPU.region Try.tb_ok (RS.as rfl rfl rfl rfl (RS.done ?_))
 repeat refine gq ?_
 repeat refine sq ?_
 refine WPU.ret ?_
 repeat refine gq ?_
 have hr:=Option.some.inj hF
 subst hr
 exact ⟨.inr rfl,[.int .i64 (-1)],res_t rfl (res_n),.int .i64 (-1),⟨[],0⟩,Nat.le_refl _,Gh.toR (.int .i64 (-1)) rfl,rfl,BU.h⟩
 rintro m1 _ _ ⟨z6,hF,rfl,rfl⟩
 rcases m1 with _ | m1
 cases hF
 unfold q005 at hF
 repeat refine sq ?_
 refine WPU.region Try.tb_ok (RS.op rfl (op_int rfl rfl (ix_lss _ _ _) rfl) rfl rfl (RS.done ?_))
 repeat refine gq ?_
 repeat refine sq ?_
 refine WPU.condS (t:=(decide (z6 < (p1.length : Int)))) rfl (fun h7=>?_) (fun h7=>?_)
 replace hF:=cond_t h7 hF
 repeat refine sq ?_
 refine WPU.skip ?_
 repeat refine gq ?_
 repeat refine sq ?_
 refine WPU.block ?_
 repeat refine sq ?_
 refine WPU.region Try.tb_ok (RS.mv rfl rfl rfl rfl (RS.as rfl rfl rfl rfl (RS.done ?_)))
 repeat refine gq ?_
 repeat refine sq ?_
 obtain ⟨x8,h9,hF⟩:=bindO_some hF
 obtain ⟨r10,h11,hF⟩:=bindO_some hF
 refine WPU.region Try.tb_ok ?_
 repeat refine RS.mv rfl rfl rfl rfl ?_
 refine RS.op (u:=.iptr (cGDecision x8)) rfl (op_ia rfl rfl (ia_isl cGDecision Try.und25 (sz_of Try.inf57) q004 h9 rfl)) rfl rfl (RS.op (u:=.agg (cGDecision x8)) rfl (li_agg Try.und57 rfl (sz_of Try.inf57) rfl rfl) rfl rfl (RS.call (u:=.bool r10) (args:=[.agg (cGDecision x8),.iptr (cGProp c2)]) rfl (op_call rfl rfl Try.fn60 Try.hb60 rfl rfl) (hf1S x8 c2 r10 h11 _) rfl rfl (RS.done ?_)))
 repeat refine gq ?_
 repeat refine sq ?_
 refine WPU.condS (t:=r10) rfl (fun h12=>?_) (fun h12=>?_)
 replace hF:=cond_t h12 hF
 repeat refine sq ?_
 refine WPU.region Try.tb_ok (RS.mv rfl rfl rfl rfl (RS.as rfl rfl rfl rfl (RS.done ?_)))
 repeat refine gq ?_
 repeat refine sq ?_
 refine WPU.ret ?_
 repeat refine gq ?_
 have hr:=Option.some.inj hF
 subst hr
 exact ⟨.inr rfl,[.int .i64 z6],res_t rfl (res_n),.int .i64 z6,⟨[],0⟩,Nat.le_refl _,Gh.toR (.int .i64 z6) rfl,rfl,BU.h⟩
 replace hF:=cond_f h12 hF
 repeat refine sq ?_
 refine WPU.skip ?_
 repeat refine gq ?_
 repeat refine sq ?_
 refine WPU.region Try.tb_ok (RS.op rfl (op_int rfl rfl (ix_add _ _ _) rfl) rfl rfl (RS.mv rfl rfl rfl rfl (RS.done ?_)))
 repeat refine gq ?_
 exact ⟨m1,_,_,Nat.lt_succ_self _,⟨(IntKind.i64.wrap (z6 + 1)),hF,rfl,rfl⟩,(Nat.zero_le _),Gh.toC (n1:=0) ⟨rfl,rfl,rfl,rfl,trivial⟩ rfl (Nat.zero_le _) (by simp)⟩
 replace hF:=cond_f h7 hF
 repeat refine sq ?_
 refine WPU.exit ?_
 repeat refine gq ?_
 exact ⟨_,_,⟨hF,rfl,rfl⟩,(Nat.zero_le _),Gh.toC (n1:=0) trivial rfl (Nat.zero_le _) (by simp)⟩
theorem q03g (f1 : GDecision→GProp→Option (Bool)) (hf1 : ∀ (a0 : GDecision) (a1 : GProp) (r : Bool),f1 a0 a1 = some r→EvU Try.prog 60 [.agg (cGDecision a0),.iptr (cGProp a1)] ⟨[],0⟩ (fun u _=>u = .bool r∧Bel 0 u)) (n : Nat) (p1 : List GDecision) (c2 : GProp) (r : Int) (hF : q00i f1 n p1 c2 = some r) (σ : Sg) : EvU Try.prog 63 [.isl false (List.map cGDecision p1),.fn (.func 60) [] [.iptr (cGProp c2)]] σ (fun u σ'=>u = .int .i64 r∧σ' = σ) :=
 EvU.pure1C (q03o f1 hf1 n p1 c2 r hF) σ
def q00b (f1 : GDecision→GProp→Option (Bool)) (n : Nat) (p1 : List GDecision) (c2 : GProp) : Option (Bool) :=
 bindO (q00i f1 n p1 c2) fun r3 =>
 some (decide (r3 ≥ 0))
theorem q038 (f1 : GDecision→GProp→Option (Bool)) (hf1 : ∀ (a0 : GDecision) (a1 : GProp) (r : Bool),f1 a0 a1 = some r→EvU Try.prog 60 [.agg (cGDecision a0),.iptr (cGProp a1)] ⟨[],0⟩ (fun u _=>u = .bool r∧Bel 0 u)) (n : Nat) (p1 : List GDecision) (c2 : GProp) (r : Bool) (hF : q00b f1 n p1 c2 = some r) : EvU Try.prog 41 [.isl false (List.map cGDecision p1),.fn (.func 60) [] [.iptr (cGProp c2)]] ⟨[],0⟩ (fun u _=>u = .bool r∧Bel 0 u):=by
 unfold q00b at hF
 have hf1S : ∀ (a0 : GDecision) (a1 : GProp) (r : Bool),f1 a0 a1 = some r→∀ σ,EvU Try.prog 60 [.agg (cGDecision a0),.iptr (cGProp a1)] σ (fun u σ'=>u = .bool r∧σ' = σ):=fun a0 a1 r h σ=>EvU.pure1C (hf1 a0 a1 r h) σ
 refine EvU.of_body Try.tb_ok Try.fn41 rfl ?_
 refine WPU.ghost (tm':=fr 9 [(0,.isl false (List.map cGDecision p1)),(1,.fn (.func 60) [] [.iptr (cGProp c2)])]) (Gh.start (Nat.le_of_ble_eq_true rfl)) (Nat.zero_le _) ?_
 repeat refine sq ?_
 refine WPU.region Try.tb_ok (RS.as rfl rfl rfl rfl (RS.done ?_))
 repeat refine gq ?_
 repeat refine sq ?_
 obtain ⟨r3,h4,hF⟩:=bindO_some hF
 refine WPU.region Try.tb_ok ?_
 repeat refine RS.mv rfl rfl rfl rfl ?_
 refine RS.call (u:=.int .i64 r3) (args:=[.isl false (List.map cGDecision p1),.fn (.func 60) [] [.iptr (cGProp c2)]]) rfl (op_call rfl rfl Try.fn63 Try.hb63 rfl rfl) (q03g f1 hf1 n p1 c2 r3 h4 _) rfl rfl (RS.op rfl (op_int rfl rfl (ix_geq _ _ _) rfl) rfl rfl (RS.as rfl rfl rfl rfl (RS.done ?_)))
 repeat refine gq ?_
 repeat refine sq ?_
 refine WPU.ret ?_
 repeat refine gq ?_
 have hr:=Option.some.inj hF
 subst hr
 exact ⟨.inr rfl,[.bool (decide (r3 ≥ 0))],res_t rfl (res_n),.bool (decide (r3 ≥ 0)),⟨[],0⟩,Nat.le_refl _,Gh.toR (.bool (decide (r3 ≥ 0))) rfl,rfl,BU.h⟩
def q04c (rc1 : Int→(List GProp)→Option ((List GProp))) (z26 : Int) (l28 : List GProp) : Option ((List GProp)) :=
 rc1 z26 l28
def q043 (p1 : List (List GProp)) (r2 : List GProp) (z12 : Int) (l13 : List GProp) (rc1 : Int→(List GProp)→Option ((List GProp))) (z26 : Int) : Option ((List GProp)) :=
 cond (decide ((IntKind.i64.wrap (z26 - z12)) < (p1.length : Int)))
  (bindO (idxO (srtP r2) z12) fun x30 =>
  needO ((l13.length + 1) * 40 ≤ 140737488355328∧l13.length + 1 ≤ 140737488355328) (
  q04c rc1 z26 (l13 ++ [x30])))
  (q04c rc1 z26 l13)
def q03c (p1 : List (List GProp)) (r2 : List GProp) (z12 : Int) (l13 : List GProp) (rc1 : Int→(List GProp)→Option ((List GProp))) : Nat→Int→Option ((List GProp))
 | 0,_=>none
 | m2 + 1,z25 =>
  bindO (cond (decide (z25 < ((srtP r2).length : Int)))
   (bindO (idxO (srtP r2) z25) fun x34 =>
   bindO (idxO (srtP r2) z12) fun x36 =>
   some (eqGProp x34 x36))
   (some false)) fun b38 =>
  cond b38
   ((q03c p1 r2 z12 l13 rc1 m2) (IntKind.i64.wrap (z25 + 1)))
   (q043 p1 r2 z12 l13 rc1 z25)
def q04n  (l15 : List GProp) : Option ((List GProp)) :=
 some l15
def q024 (p1 : List (List GProp)) (n : Nat) (r2 : List GProp) : Nat→Int→(List GProp)→Option ((List GProp))
 | 0,_,_=>none
 | m1 + 1,z12,l13 =>
  cond (decide (z12 < ((srtP r2).length : Int)))
   (q03c p1 r2 z12 l13 (q024 p1 n r2 m1) n (IntKind.i64.wrap (z12 + 1)))
   (q04n l13)
def disc_differ (n : Nat) (p1 : List (List GProp)) : Option ((List GProp)) :=
 bindO (q02j n p1) fun r2 =>
 needO (r2.length < 4611686018427387904) (
 q024 p1 n r2 n 0 ([] : List GProp))
theorem disc_differ_0 (n : Nat) (p1 : List (List GProp)) (r : (List GProp)) (hF : disc_differ n p1 = some r) : EvU Try.prog 59 [.isl false (List.map (cL cGProp) p1)] ⟨[],0⟩ (fun u _=>u = .isl false (List.map cGProp r)∧Bel 0 u):=by
 unfold disc_differ at hF
 refine EvU.of_body Try.tb_ok Try.fn59 rfl ?_
 refine WPU.ghost (tm':=fr 49 [(0,.isl false (List.map (cL cGProp) p1))]) (Gh.start (Nat.le_of_ble_eq_true rfl)) (Nat.zero_le _) ?_
 repeat refine sq ?_
 refine WPU.region Try.tb_ok (RS.as rfl rfl rfl rfl (RS.done ?_))
 repeat refine gq ?_
 repeat refine sq ?_
 obtain ⟨r2,h3,hF⟩:=bindO_some hF
 refine WPU.region Try.tb_ok (RS.mv rfl rfl rfl rfl ?_)
 refine RS.callx (R:=fun u σ'=>∃ t4,u = .vl 0 t4 0 r2.length∧σ' = ⟨[(0,.vec (List.map cGProp r2).flatten 38 4 t4)],1⟩) (args:=[.isl false (List.map (cL cGProp) p1)]) rfl (op_call rfl rfl Try.fn87 Try.hb87 rfl rfl) (EvU.own1 cGProp (slices_Concat_Prop_0 n p1 r2 h3) _ 0 rfl) rfl rfl ?_
 rintro _ _ ⟨t4,rfl,rfl⟩
 refine RS.as rfl rfl rfl rfl (RS.done ?_)
 repeat refine gq ?_
 repeat refine sq ?_
 obtain ⟨h5,hF⟩:=needO_some hF
 refine WPU.joinK (fun tm σ=>tm = fr 49 [(0,.isl false (List.map (cL cGProp) p1)),(3,.vl 0 t4 0 ((srtP r2).length))]∧σ = ⟨[(0,.vec (List.map cGProp (srtP r2)).flatten 38 4 t4)],1⟩) ?_ ?_
 rintro _ _ ⟨rfl,rfl⟩
 repeat refine gq ?_
 repeat refine sq ?_
 refine WPU.region Try.tb_ok (RS.as rfl rfl rfl rfl (RS.done ?_))
 repeat refine gq ?_
 repeat refine sq ?_
 refine WPU.region Try.tb_ok (RS.as rfl rfl rfl rfl (RS.done ?_))
 repeat refine gq ?_
 repeat refine sq ?_
 refine WPU.ghost (tm':=fr 49 [(0,.isl false (List.map (cL cGProp) p1)),(3,.vl 0 t4 0 ((srtP r2).length)),(4,.vl 1 0 0 (([] : List GProp).length)),(5,.int .i64 0)]) (σ':=⟨[(1,.vec (List.map cGProp ([] : List GProp)).flatten 38 4 0),(0,.vec (List.map cGProp (srtP r2)).flatten 38 4 t4)],2⟩) (Gh.trans (Gh.nilS 4 38 4 (by decide) (Nat.zero_le _) rfl rfl) (Gh.eqS ⟨rfl,rfl,rfl,rfl,trivial⟩ rfl)) (Nat.zero_le _) ?_
 refine WPU.ghost (tm':=fr 49 [(0,.isl false (List.map (cL cGProp) p1)),(3,.vl 0 t4 0 ((srtP r2).length)),(4,.vl 1 0 0 (([] : List GProp).length)),(5,.int .i64 0)]) (Gh.sub ⟨rfl,rfl,rfl,rfl,trivial⟩) (Nat.zero_le _) ?_
 refine WPU.loopK (fun m tm σ=>∃ z12 : Int,∃ l13 : List GProp,∃ t14 : Nat,q024 p1 n r2 m z12 l13 = some r∧tm = fr 49 [(0,.isl false (List.map (cL cGProp) p1)),(3,.vl 0 t4 0 ((srtP r2).length)),(4,.vl 1 t14 0 l13.length),(5,.int .i64 z12)]∧σ = ⟨[(1,.vec (List.map cGProp l13).flatten 38 4 t14),(0,.vec (List.map cGProp (srtP r2)).flatten 38 4 t4)],2⟩) (fun tm σ=>∃ l15 : List GProp,∃ t16 : Nat,q04n l15 = some r∧tm = fr 49 [(4,.vl 1 t16 0 l15.length)]∧σ = ⟨[(1,.vec (List.map cGProp l15).flatten 38 4 t16),(0,.vec (List.map cGProp (srtP r2)).flatten 38 4 t4)],2⟩) n ⟨0,([] : List GProp),0,hF,rfl,rfl⟩ ?_ ?_
 rintro _ _ ⟨l15,t16,hF,rfl,rfl⟩
 unfold q04n at hF
 repeat refine gq ?_
 repeat refine sq ?_
 refine WPU.region Try.tb_ok (RS.mv rfl rfl rfl rfl (RS.as rfl rfl rfl rfl (RS.done ?_)))
 repeat refine gq ?_
 repeat refine sq ?_
 refine WPU.ret ?_
 repeat refine gq ?_
 have hr:=Option.some.inj hF
 subst hr
 exact ⟨.inr rfl,[.vl 1 t16 0 l15.length],res_t rfl (res_n),.isl false (List.map cGProp l15),⟨[],0⟩,Nat.le_refl _,Gh.trans (Gh.fz (tm':=[.isl false (List.map cGProp l15)]) (h':=[(0,.vec (List.map cGProp (srtP r2)).flatten 38 4 t4)]) 1 (.vec (List.map cGProp l15).flatten 38 4 t16) 4 rfl (by simp) (by simp only [oneU,fzL_nil,fzL_cons,fz_int,fz_bool,fz_str,fz_nils,fz_nilp,fz_nilm,fz_nilf,fz_junk,fz_isl,fz_map,fz_agg,fz_tup,fz_fn,junkT,fz_vl len_cGProp,fzL_bel _ _ _ (bel_flat 1 (fun q=>bel_cGProp _ q) (srtP r2))]) (by simp only [fzH,fzB,ug,Nat.beq,cond_true,cond_false,oneU,fzL_nil,fzL_cons,fz_int,fz_bool,fz_str,fz_nils,fz_nilp,fz_nilm,fz_nilf,fz_junk,fz_isl,fz_map,fz_agg,fz_tup,fz_fn,junkT,fz_vl len_cGProp,fzL_bel _ _ _ (bel_flat 1 (fun q=>bel_cGProp _ q) (srtP r2))])) (Gh.toR (.isl false (List.map cGProp l15)) rfl),rfl,BU.h⟩
 rintro m1 _ _ ⟨z12,l13,t14,hF,rfl,rfl⟩
 rcases m1 with _ | m1
 cases hF
 unfold q024 at hF
 repeat refine sq ?_
 refine WPU.region Try.tb_ok ?_
 repeat refine RS.mv rfl rfl rfl rfl ?_
 refine RS.op rfl (op_len rfl rfl rfl (len_vl Try.und33 rfl)) rfl rfl (RS.op rfl (op_int rfl rfl (ix_lss _ _ _) rfl) rfl rfl (RS.done ?_))
 repeat refine gq ?_
 repeat refine sq ?_
 refine WPU.condS (t:=(decide (z12 < ((srtP r2).length : Int)))) rfl (fun h17=>?_) (fun h17=>?_)
 replace hF:=cond_t h17 hF
 repeat refine sq ?_
 refine WPU.skip ?_
 repeat refine gq ?_
 repeat refine sq ?_
 refine WPU.block ?_
 repeat refine sq ?_
 refine WPU.region Try.tb_ok (RS.mv rfl rfl rfl rfl (RS.op rfl (op_int rfl rfl (ix_add _ _ _) rfl) rfl rfl (RS.as rfl rfl rfl rfl (RS.done ?_))))
 repeat refine gq ?_
 repeat refine sq ?_
 refine WPU.ghost (tm':=fr 49 [(0,.isl false (List.map (cL cGProp) p1)),(3,.vl 0 t4 0 ((srtP r2).length)),(4,.vl 1 t14 0 l13.length),(5,.int .i64 z12),(6,.int .i64 (IntKind.i64.wrap (z12 + 1)))]) (Gh.sub ⟨rfl,rfl,rfl,rfl,rfl,trivial⟩) (Nat.zero_le _) ?_
 refine WPU.loopK (fun m tm σ=>∃ z25 : Int,q03c p1 r2 z12 l13 (q024 p1 n r2 m1) m z25 = some r∧tm = fr 49 [(0,.isl false (List.map (cL cGProp) p1)),(3,.vl 0 t4 0 ((srtP r2).length)),(4,.vl 1 t14 0 l13.length),(5,.int .i64 z12),(6,.int .i64 z25)]∧σ = ⟨[(1,.vec (List.map cGProp l13).flatten 38 4 t14),(0,.vec (List.map cGProp (srtP r2)).flatten 38 4 t4)],2⟩) (fun tm σ=>∃ z26 : Int,q043 p1 r2 z12 l13 (q024 p1 n r2 m1) z26 = some r∧tm = fr 49 [(0,.isl false (List.map (cL cGProp) p1)),(3,.vl 0 t4 0 ((srtP r2).length)),(4,.vl 1 t14 0 l13.length),(5,.int .i64 z12),(6,.int .i64 z26)]∧σ = ⟨[(1,.vec (List.map cGProp l13).flatten 38 4 t14),(0,.vec (List.map cGProp (srtP r2)).flatten 38 4 t4)],2⟩) n ⟨(IntKind.i64.wrap (z12 + 1)),hF,rfl,rfl⟩ ?_ ?_
 rintro _ _ ⟨z26,hF,rfl,rfl⟩
 unfold q043 at hF
 repeat refine gq ?_
 repeat refine sq ?_
 refine WPU.region Try.tb_ok ?_
 repeat refine RS.mv rfl rfl rfl rfl ?_
 refine RS.op rfl (op_int rfl rfl (ix_sub _ _ _) rfl) rfl rfl (RS.mv rfl rfl rfl rfl (RS.op rfl (op_len rfl rfl rfl (len_isl (cL cGProp) Try.und82)) rfl rfl (RS.op rfl (op_int rfl rfl (ix_lss _ _ _) rfl) rfl rfl (RS.done ?_))))
 repeat refine gq ?_
 repeat refine sq ?_
 refine WPU.joinK (fun tm σ=>∃ l28 : List GProp,∃ t29 : Nat,q04c (q024 p1 n r2 m1) z26 l28 = some r∧tm = fr 49 [(0,.isl false (List.map (cL cGProp) p1)),(3,.vl 0 t4 0 ((srtP r2).length)),(4,.vl 1 t29 0 l28.length),(6,.int .i64 z26)]∧σ = ⟨[(1,.vec (List.map cGProp l28).flatten 38 4 t29),(0,.vec (List.map cGProp (srtP r2)).flatten 38 4 t4)],2⟩) ?_ ?_
 rintro _ _ ⟨l28,t29,hF,rfl,rfl⟩
 unfold q04c at hF
 repeat refine gq ?_
 repeat refine sq ?_
 refine WPU.region Try.tb_ok (RS.mv rfl rfl rfl rfl (RS.as rfl rfl rfl rfl (RS.done ?_)))
 repeat refine gq ?_
 exact ⟨m1,_,_,Nat.lt_succ_self _,⟨z26,l28,t29,hF,rfl,rfl⟩,(Nat.zero_le _),Gh.toC (n1:=2) ⟨rfl,rfl,rfl,rfl,trivial⟩ rfl (Nat.zero_le _) (by simp)⟩
 refine WPU.condS (t:=(decide ((IntKind.i64.wrap (z26 - z12)) < (p1.length : Int)))) rfl (fun h27=>?_) (fun h27=>?_)
 replace hF:=cond_t h27 hF
 repeat refine sq ?_
 obtain ⟨x30,h31,hF⟩:=bindO_some hF
 obtain ⟨h32,hF⟩:=needO_some hF
 refine WPU.region Try.tb_ok ?_
 repeat refine RS.mv rfl rfl rfl rfl ?_
 refine RS.op (u:=.ptr 0 t4 (0 * 4 + z12.toNat * 4)) rfl (op_ia rfl rfl (ia_vl cGProp Try.und33 (sz_of Try.inf38) (by decide) len_cGProp (vo rfl) h31)) rfl rfl ?_
 refine RS.op (u:=.agg (cGProp x30)) rfl (ld_vec cGProp Try.und38 rfl (sz_of Try.inf38) len_cGProp rfl rfl h31 rfl) rfl rfl (RS.op (u:=.sl 2 0 1 1) (σ':=⟨[(2,.row (cGProp x30) 38),(1,.vec (List.map cGProp l13).flatten 38 4 t14),(0,.vec (List.map cGProp (srtP r2)).flatten 38 4 t4)],3⟩) rfl (op_bsl Try.und33 Try.inf38 rfl rfl rfl rfl rfl rfl rfl) rfl rfl (RS.op (u:=.vl 1 (t14 + 1) 0 ((l13 ++ [x30]).length)) (σ':=⟨[(2,.row (cGProp x30) 38),(1,.vec (List.map cGProp (l13 ++ [x30])).flatten 38 4 (t14 + 1)),(0,.vec (List.map cGProp (srtP r2)).flatten 38 4 t4)],3⟩) rfl (op_app rfl rfl rfl rfl (app_vl cGProp ([x30]) Try.und33 Try.und33 Try.inf38 rfl len_cGProp rfl (src_row cGProp [x30] rfl rfl rfl rfl) h32)) rfl rfl (RS.as rfl rfl rfl rfl (RS.done ?_))))
 repeat refine gq ?_
 exact ⟨_,_,⟨(l13 ++ [x30]),(t14 + 1),hF,rfl,rfl⟩,(Nat.zero_le _),Gh.toC (n1:=2) ⟨rfl,rfl,rfl,rfl,trivial⟩ rfl (Nat.zero_le _) (by simp)⟩
 replace hF:=cond_f h27 hF
 repeat refine sq ?_
 refine WPU.skip ?_
 repeat refine gq ?_
 exact ⟨_,_,⟨l13,t14,hF,rfl,rfl⟩,(Nat.zero_le _),Gh.toC (n1:=2) ⟨rfl,rfl,rfl,rfl,trivial⟩ rfl (Nat.zero_le _) (by simp)⟩
 rintro m2 _ _ ⟨z25,hF,rfl,rfl⟩
 rcases m2 with _ | m2
 cases hF
 unfold q03c at hF
 repeat refine sq ?_
 obtain ⟨b38,h39,hF⟩:=bindO_some hF
 refine WPU.joinK (fun tm σ=>tm = fr 49 [(0,.isl false (List.map (cL cGProp) p1)),(3,.vl 0 t4 0 ((srtP r2).length)),(4,.vl 1 t14 0 l13.length),(5,.int .i64 z12),(6,.int .i64 z25),(31,.bool b38)]∧σ = ⟨[(1,.vec (List.map cGProp l13).flatten 38 4 t14),(0,.vec (List.map cGProp (srtP r2)).flatten 38 4 t4)],2⟩) ?_ ?_
 rintro _ _ ⟨rfl,rfl⟩
 repeat refine gq ?_
 repeat refine sq ?_
 refine WPU.condS (t:=b38) rfl (fun h40=>?_) (fun h40=>?_)
 replace hF:=cond_t h40 hF
 repeat refine sq ?_
 refine WPU.skip ?_
 repeat refine gq ?_
 repeat refine sq ?_
 refine WPU.block ?_
 repeat refine sq ?_
 refine WPU.region Try.tb_ok (RS.mv rfl rfl rfl rfl (RS.op rfl (op_int rfl rfl (ix_add _ _ _) rfl) rfl rfl (RS.as rfl rfl rfl rfl (RS.done ?_))))
 repeat refine gq ?_
 exact ⟨m2,_,_,Nat.lt_succ_self _,⟨(IntKind.i64.wrap (z25 + 1)),hF,rfl,rfl⟩,(Nat.zero_le _),Gh.toC (n1:=2) ⟨rfl,rfl,rfl,rfl,rfl,trivial⟩ rfl (Nat.zero_le _) (by simp)⟩
 replace hF:=cond_f h40 hF
 repeat refine sq ?_
 refine WPU.exit ?_
 repeat refine gq ?_
 exact ⟨_,_,⟨z25,hF,rfl,rfl⟩,(Nat.zero_le _),Gh.toC (n1:=2) ⟨rfl,rfl,rfl,rfl,rfl,trivial⟩ rfl (Nat.zero_le _) (by simp)⟩
 rcases bool_tf (decide (z25 < ((srtP r2).length : Int))) with h33 | h33
 replace h39:=cond_t h33 h39
 obtain ⟨x34,h35,h39⟩:=bindO_some h39
 obtain ⟨x36,h37,h39⟩:=bindO_some h39
 replace h39:=Option.some.inj h39
 subst h39
 refine WPU.drawE Try.tb_ok [] (by kernel_rfl) ?_
 repeat refine RD.mv rfl rfl rfl rfl ?_
 refine RD.look rfl (op_len rfl rfl rfl (len_vl Try.und33 rfl)) rfl rfl (RD.look rfl (op_int rfl rfl (ix_lss _ _ _) rfl) rfl rfl (RD.mv rfl rfl rfl rfl (RD.look (want1 rfl rfl rfl h33) (op_move rfl) rfl rfl (RD.look (want1 rfl rfl rfl h33) (op_move rfl) rfl rfl ?_))))
 refine RD.look (u:=.ptr 0 t4 (0 * 4 + z25.toNat * 4)) (want1 rfl rfl rfl h33) (op_ia rfl rfl (ia_vl cGProp Try.und33 (sz_of Try.inf38) (by decide) len_cGProp (vo rfl) h35)) rfl rfl ?_
 refine RD.look (u:=.agg (cGProp x34)) (want1 rfl rfl rfl h33) (ld_vec cGProp Try.und38 rfl (sz_of Try.inf38) len_cGProp rfl rfl h35 rfl) rfl rfl (RD.look (want1 rfl rfl rfl h33) (op_move rfl) rfl rfl (RD.look (want1 rfl rfl rfl h33) (op_move rfl) rfl rfl ?_))
 refine RD.look (u:=.ptr 0 t4 (0 * 4 + z12.toNat * 4)) (want1 rfl rfl rfl h33) (op_ia rfl rfl (ia_vl cGProp Try.und33 (sz_of Try.inf38) (by decide) len_cGProp (vo rfl) h37)) rfl rfl ?_
 refine RD.look (u:=.agg (cGProp x36)) (want1 rfl rfl rfl h33) (ld_vec cGProp Try.und38 rfl (sz_of Try.inf38) len_cGProp rfl rfl h37 rfl) rfl rfl (RD.look (u:=.bool (eqGProp x34 x36)) (want1 rfl rfl rfl h33) (op_bin rfl rfl (eqq38_eql x34 x36)) rfl rfl (RD.look (u:=.bool (eqGProp x34 x36)) rfl (op_pick1 rfl h33 rfl) rfl rfl ?_))
 refine RD.done ⟨by kernel_rfl,trivial,?_⟩
 repeat refine gq ?_
 exact ⟨_,_,⟨rfl,rfl⟩,(Nat.zero_le _),Gh.toC (n1:=2) ⟨rfl,rfl,rfl,rfl,rfl,rfl,trivial⟩ rfl (Nat.zero_le _) (by simp)⟩
 replace h39:=cond_f h33 h39
 replace h39:=Option.some.inj h39
 subst h39
 refine WPU.drawE Try.tb_ok [] (by kernel_rfl) ?_
 repeat refine RD.mv rfl rfl rfl rfl ?_
 refine RD.look rfl (op_len rfl rfl rfl (len_vl Try.und33 rfl)) rfl rfl (RD.look rfl (op_int rfl rfl (ix_lss _ _ _) rfl) rfl rfl (RD.mv rfl rfl rfl rfl ?_))
 repeat refine RD.no (want0 rfl rfl rfl h33) rfl rfl ?_
 refine RD.look (u:=.bool false) rfl (op_pick0 rfl h33 rfl) rfl rfl ?_
 refine RD.done ⟨by kernel_rfl,trivial,?_⟩
 repeat refine gq ?_
 exact ⟨_,_,⟨rfl,rfl⟩,(Nat.zero_le _),Gh.toC (n1:=2) ⟨rfl,rfl,rfl,rfl,rfl,rfl,trivial⟩ rfl (Nat.zero_le _) (by simp)⟩
 replace hF:=cond_f h17 hF
 repeat refine sq ?_
 refine WPU.exit ?_
 repeat refine gq ?_
 exact ⟨_,_,⟨l13,t14,hF,rfl,rfl⟩,(Nat.zero_le _),Gh.toC (n1:=2) ⟨rfl,trivial⟩ rfl (Nat.zero_le _) (by simp)⟩
 refine WPU.region Try.tb_ok (RS.mv rfl rfl rfl rfl (RS.callx (args:=[.vl 0 t4 0 r2.length,.fn (.func 35) [] []]) rfl (op_call rfl rfl Try.fn34 Try.hb34 rfl rfl) (srtP_ok r2 h5 _ rfl rfl) rfl rfl ?_))
 rintro _ _ ⟨rfl,rfl⟩
 refine RS.done ?_
 repeat refine gq ?_
 exact ⟨_,_,⟨rfl,rfl⟩,(Nat.zero_le _),Gh.eqS ⟨rfl,(by simp only [srtP_len r2]; rfl),trivial⟩ rfl⟩
theorem disc_differ_ok (n : Nat) (p1 : List (List GProp)) (r : (List GProp)) (hF : disc_differ n p1 = some r) (σ : Sg) : EvU Try.prog 59 [.isl false (List.map (cL cGProp) p1)] σ (fun u σ'=>u = .isl false (List.map cGProp r)∧σ' = σ) :=
 EvU.pure1C (disc_differ_0 n p1 r hF) σ
def q02o (n : Nat) (p1 : GDecision) (c2 : GProp) : Option (Bool) :=
 some (eqGProp p1.Propx c2)
theorem disc_Implied_1_0 (n : Nat) (p1 : GDecision) (c2 : GProp) (r : Bool) (hF : q02o n p1 c2 = some r) : EvU Try.prog 60 [.agg (cGDecision p1),.iptr (cGProp c2)] ⟨[],0⟩ (fun u _=>u = .bool r∧Bel 0 u):=by
 unfold q02o at hF
 refine EvU.of_body Try.tb_ok Try.fn60 rfl ?_
 refine WPU.ghost (tm':=fr 8 [(0,.agg (cGDecision p1)),(1,.iptr (cGProp c2))]) (Gh.start (Nat.le_of_ble_eq_true rfl)) (Nat.zero_le _) ?_
 repeat refine sq ?_
 refine WPU.region Try.tb_ok (RS.op (u:=.ptr 0 0 0) (σ':=⟨[(0,.row (cGDecision p1) 57)],1⟩) rfl (op_box rfl rfl rfl) rfl rfl (RS.as rfl rfl rfl rfl (RS.done ?_)))
 repeat refine gq ?_
 repeat refine sq ?_
 refine WPU.region Try.tb_ok (RS.op (u:=.ptr 0 0 0) rfl (op_fa Try.und57 rfl (sz_of Try.inf38) rfl rfl rfl) rfl rfl (RS.op (u:=.agg (cGProp p1.Propx)) rfl (ld_agg Try.und38 rfl (sz_of Try.inf38) rfl rfl rfl) rfl rfl (RS.op (u:=.agg (cGProp c2)) rfl (li_agg Try.und38 rfl (sz_of Try.inf38) rfl rfl) rfl rfl (RS.op (u:=.bool (eqGProp p1.Propx c2)) rfl (op_bin rfl rfl (eqq38_eql p1.Propx c2)) rfl rfl (RS.as rfl rfl rfl rfl (RS.done ?_))))))
 repeat refine gq ?_
 repeat refine sq ?_
 refine WPU.ret ?_
 repeat refine gq ?_
 have hr:=Option.some.inj hF
 subst hr
 exact ⟨.inr rfl,[.bool (eqGProp p1.Propx c2)],res_t rfl (res_n),.bool (eqGProp p1.Propx c2),⟨[],0⟩,Nat.le_refl _,Gh.toR (.bool (eqGProp p1.Propx c2)) rfl,rfl,BU.h⟩
def q03l (z18 : Int) (rc1 : Int→(List GDecision)→Option ((List GDecision))) (l52 : List GDecision) : Option ((List GDecision)) :=
 rc1 (IntKind.i64.wrap (z18 + 1)) l52
def q03t (z46 : Int) (rc2 : Int→Int→Option ((List GDecision))) (z63 : Int) : Option ((List GDecision)) :=
 rc2 z63 (IntKind.i64.wrap (z46 + 1))
def q03s (r5 : (List Int)) (z18 : Int) (l19 : List GDecision) (rc1 : Int→(List GDecision)→Option ((List GDecision))) (x24 : GProp) (z47 : Int) : Option ((List GDecision)) :=
 bindO (cond (z47 == 0)
  (some true)
  (some (z47 == (r5.length : Int)))) fun b49 =>
 cond b49
  (needO ((l19.length + 1) * 48 ≤ 140737488355328∧l19.length + 1 ≤ 140737488355328) (
  q03l z18 rc1 (l19 ++ [(GDecision.mk x24 (decide (z47 > 0)))])))
  (q03l z18 rc1 l19)
def q025 (n : Nat) (r3 : (List (List GProp))) (r5 : (List Int)) (z18 : Int) (l19 : List GDecision) (rc1 : Int→(List GDecision)→Option ((List GDecision))) (x24 : GProp) : Nat→Int→Int→Option ((List GDecision))
 | 0,_,_=>none
 | m2 + 1,z45,z46 =>
  cond (decide (z46 < (r5.length : Int)))
   (bindO (idxO r5 z46) fun x56 =>
   bindO (idxO r3 x56) fun x58 =>
   bindO (disc_has n x58 x24) fun r60 =>
   cond r60
    (q03t z46 (q025 n r3 r5 z18 l19 rc1 x24 m2) (IntKind.i64.wrap (z45 + 1)))
    (q03t z46 (q025 n r3 r5 z18 l19 rc1 x24 m2) z45))
   (q03s r5 z18 l19 rc1 x24 z45)
def q04j  (l21 : List GDecision) : Option ((List GDecision)) :=
 some l21
def q00p (p2 : List GDecision) (n : Nat) (r3 : (List (List GProp))) (r5 : (List Int)) (r8 : (List GProp)) : Nat→Int→(List GDecision)→Option ((List GDecision))
 | 0,_,_=>none
 | m1 + 1,z18,l19 =>
  cond (decide (z18 < (r8.length : Int)))
   (bindO (idxO r8 z18) fun x24 =>
   bindO (q00b (q02o n) n p2 x24) fun r26 =>
   cond r26
    ((q00p p2 n r3 r5 r8 m1) (IntKind.i64.wrap (z18 + 1)) l19)
    (q025 n r3 r5 z18 l19 (q00p p2 n r3 r5 r8 m1) x24 n 0 0))
   (q04j l19)
def q04f (n : Nat) (p1 : List GDeriv) (p2 : List GDecision) : Option ((List GDecision)) :=
 bindO (disc_all n p1) fun r3 =>
 bindO (q02n n r3 p2) fun r5 =>
 cond ((r5.length : Int) == 0)
  (some [])
  (bindO (disc_differ n r3) fun r8 =>
  q00p p2 n r3 r5 r8 n 0 ([] : List GDecision))
theorem disc_Implied_0 (n : Nat) (p1 : List GDeriv) (p2 : List GDecision) (r : (List GDecision)) (hF : q04f n p1 p2 = some r) : EvU Try.prog 37 [.isl false (List.map cGDeriv p1),.isl false (List.map cGDecision p2)] ⟨[],0⟩ (fun u _=>u = .isl false (List.map cGDecision r)∧Bel 0 u):=by
 unfold q04f at hF
 refine EvU.of_body Try.tb_ok Try.fn37 rfl ?_
 refine WPU.ghost (tm':=fr 63 [(0,.isl false (List.map cGDeriv p1)),(1,.isl false (List.map cGDecision p2))]) (Gh.start (Nat.le_of_ble_eq_true rfl)) (Nat.zero_le _) ?_
 repeat refine sq ?_
 refine WPU.region Try.tb_ok (RS.as rfl rfl rfl rfl (RS.done ?_))
 repeat refine gq ?_
 repeat refine sq ?_
 obtain ⟨r3,h4,hF⟩:=bindO_some hF
 refine WPU.region Try.tb_ok (RS.mv rfl rfl rfl rfl (RS.call (u:=.isl false (List.map (cL cGProp) r3)) (args:=[.isl false (List.map cGDeriv p1)]) rfl (op_call rfl rfl Try.fn48 Try.hb48 rfl rfl) (disc_all_ok n p1 r3 h4 _) rfl rfl (RS.as rfl rfl rfl rfl (RS.done ?_))))
 repeat refine gq ?_
 repeat refine sq ?_
 obtain ⟨r5,h6,hF⟩:=bindO_some hF
 refine WPU.region Try.tb_ok ?_
 repeat refine RS.mv rfl rfl rfl rfl ?_
 refine RS.call (u:=.isl false (List.map (cI .i64) r5)) (args:=[.isl false (List.map (cL cGProp) r3),.isl false (List.map cGDecision p2)]) rfl (op_call rfl rfl Try.fn47 Try.hb47 rfl rfl) (disc_remaining_ok n r3 p2 r5 h6 _) rfl rfl (RS.as rfl rfl rfl rfl (RS.done ?_))
 repeat refine gq ?_
 repeat refine sq ?_
 refine WPU.region Try.tb_ok (RS.mv rfl rfl rfl rfl (RS.op rfl (op_len rfl rfl rfl (len_isl (cI .i64) Try.und43)) rfl rfl (RS.op rfl (op_int rfl rfl (ix_eql _ _ _) rfl) rfl rfl (RS.done ?_))))
 repeat refine gq ?_
 repeat refine sq ?_
 refine WPU.condS (t:=((r5.length : Int) == 0)) rfl (fun h7=>?_) (fun h7=>?_)
 replace hF:=cond_t h7 hF
 repeat refine sq ?_
 refine WPU.region Try.tb_ok (RS.as rfl rfl rfl rfl (RS.done ?_))
 repeat refine gq ?_
 repeat refine sq ?_
 refine WPU.ret ?_
 repeat refine gq ?_
 have hr:=Option.some.inj hF
 subst hr
 exact ⟨.inr rfl,[.nils],res_t rfl (res_n),.isl false [],⟨[],0⟩,Nat.le_refl _,Gh.trans (Gh.wk (.cons (.nil false) .nil)) (Gh.toR (.isl false []) rfl),rfl,BU.h⟩
 replace hF:=cond_f h7 hF
 repeat refine sq ?_
 refine WPU.skip ?_
 repeat refine gq ?_
 repeat refine sq ?_
 refine WPU.region Try.tb_ok (RS.as rfl rfl rfl rfl (RS.done ?_))
 repeat refine gq ?_
 repeat refine sq ?_
 obtain ⟨r8,h9,hF⟩:=bindO_some hF
 refine WPU.region Try.tb_ok (RS.mv rfl rfl rfl rfl (RS.call (u:=.isl false (List.map cGProp r8)) (args:=[.isl false (List.map (cL cGProp) r3)]) rfl (op_call rfl rfl Try.fn59 Try.hb59 rfl rfl) (disc_differ_ok n r3 r8 h9 _) rfl rfl (RS.op rfl (op_len rfl rfl rfl (len_isl cGProp Try.und33)) rfl rfl (RS.mv rfl rfl rfl rfl (RS.done ?_)))))
 repeat refine gq ?_
 repeat refine sq ?_
 refine WPU.ghost (tm':=fr 63 [(1,.isl false (List.map cGDecision p2)),(5,.isl false (List.map (cL cGProp) r3)),(6,.isl false (List.map (cI .i64) r5)),(7,.vl 0 0 0 (([] : List GDecision).length)),(22,.isl false (List.map cGProp r8)),(23,.int .i64 (r8.length : Int)),(24,.int .i64 0)]) (σ':=⟨[(0,.vec (List.map cGDecision ([] : List GDecision)).flatten 57 5 0)],1⟩) (Gh.trans (Gh.nilS 7 57 5 (by decide) (Nat.zero_le _) rfl rfl) (Gh.eqS ⟨rfl,rfl,rfl,rfl,rfl,rfl,rfl,trivial⟩ rfl)) (Nat.zero_le _) ?_
 refine WPU.ghost (tm':=fr 63 [(1,.isl false (List.map cGDecision p2)),(5,.isl false (List.map (cL cGProp) r3)),(6,.isl false (List.map (cI .i64) r5)),(7,.vl 0 0 0 (([] : List GDecision).length)),(22,.isl false (List.map cGProp r8)),(23,.int .i64 (r8.length : Int)),(24,.int .i64 0)]) (Gh.sub ⟨rfl,rfl,rfl,rfl,rfl,rfl,rfl,trivial⟩) (Nat.zero_le _) ?_
 refine WPU.loopK (fun m tm σ=>∃ z18 : Int,∃ l19 : List GDecision,∃ t20 : Nat,q00p p2 n r3 r5 r8 m z18 l19 = some r∧tm = fr 63 [(1,.isl false (List.map cGDecision p2)),(5,.isl false (List.map (cL cGProp) r3)),(6,.isl false (List.map (cI .i64) r5)),(7,.vl 0 t20 0 l19.length),(22,.isl false (List.map cGProp r8)),(23,.int .i64 (r8.length : Int)),(24,.int .i64 z18)]∧σ = ⟨[(0,.vec (List.map cGDecision l19).flatten 57 5 t20)],1⟩) (fun tm σ=>∃ l21 : List GDecision,∃ t22 : Nat,q04j l21 = some r∧tm = fr 63 [(7,.vl 0 t22 0 l21.length)]∧σ = ⟨[(0,.vec (List.map cGDecision l21).flatten 57 5 t22)],1⟩) n ⟨0,([] : List GDecision),0,hF,rfl,rfl⟩ ?_ ?_
 rintro _ _ ⟨l21,t22,hF,rfl,rfl⟩
 unfold q04j at hF
 repeat refine gq ?_
 repeat refine sq ?_
 refine WPU.region Try.tb_ok (RS.mv rfl rfl rfl rfl (RS.as rfl rfl rfl rfl (RS.done ?_)))
 repeat refine gq ?_
 repeat refine sq ?_
 refine WPU.ret ?_
 repeat refine gq ?_
 have hr:=Option.some.inj hF
 subst hr
 exact ⟨.inr rfl,[.vl 0 t22 0 l21.length],res_t rfl (res_n),.isl false (List.map cGDecision l21),⟨[],0⟩,Nat.le_refl _,Gh.trans (Gh.fz (tm':=[.isl false (List.map cGDecision l21)]) (h':=[]) 0 (.vec (List.map cGDecision l21).flatten 57 5 t22) 5 rfl (by simp) (by simp only [oneU,fzL_nil,fzL_cons,fz_int,fz_bool,fz_str,fz_nils,fz_nilp,fz_nilm,fz_nilf,fz_junk,fz_isl,fz_map,fz_agg,fz_tup,fz_fn,junkT,fz_vl q004]) (by simp only [fzH,fzB,ug,Nat.beq,cond_true,cond_false,oneU,fzL_nil,fzL_cons,fz_int,fz_bool,fz_str,fz_nils,fz_nilp,fz_nilm,fz_nilf,fz_junk,fz_isl,fz_map,fz_agg,fz_tup,fz_fn,junkT,fz_vl q004])) (Gh.toR (.isl false (List.map cGDecision l21)) rfl),rfl,BU.h⟩
 rintro m1 _ _ ⟨z18,l19,t20,hF,rfl,rfl⟩
 rcases m1 with _ | m1
 cases hF
 unfold q00p at hF
 repeat refine sq ?_
 refine WPU.region Try.tb_ok (RS.op rfl (op_int rfl rfl (ix_lss _ _ _) rfl) rfl rfl (RS.done ?_))
 repeat refine gq ?_
 repeat refine sq ?_
 refine WPU.condS (t:=(decide (z18 < (r8.length : Int)))) rfl (fun h23=>?_) (fun h23=>?_)
 replace hF:=cond_t h23 hF
 repeat refine sq ?_
 refine WPU.skip ?_
 repeat refine gq ?_
 repeat refine sq ?_
 refine WPU.block ?_
 repeat refine sq ?_
 obtain ⟨x24,h25,hF⟩:=bindO_some hF
 refine WPU.region Try.tb_ok (RS.op (u:=.iptr (cGProp x24)) rfl (op_ia rfl rfl (ia_isl cGProp Try.und33 (sz_of Try.inf38) len_cGProp h25 rfl)) rfl rfl (RS.op (u:=.agg (cGProp x24)) rfl (li_agg Try.und38 rfl (sz_of Try.inf38) rfl rfl) rfl rfl (RS.op (u:=.ptr 1 0 0) (σ':=⟨[(1,.row [.int .i64 0,.str [],.int .i64 0,.int .i64 0] 38),(0,.vec (List.map cGDecision l19).flatten 57 5 t20)],2⟩) rfl (op_alloc Try.inf38 rfl rfl) rfl rfl (RS.opn (u:=.junk) (σ':=⟨[(1,.row (cGProp x24) 38),(0,.vec (List.map cGDecision l19).flatten 57 5 t20)],2⟩) rfl (op_store (sz_of Try.inf38) rfl rfl rfl rfl rfl rfl rfl rfl) rfl (RS.done ?_)))))
 repeat refine gq ?_
 repeat refine sq ?_
 obtain ⟨r26,h27,hF⟩:=bindO_some hF
 refine WPU.region Try.tb_ok (RS.mv rfl rfl rfl rfl (RS.op rfl (op_fun rfl rfl) rfl rfl ?_))
 refine RS.call (u:=.bool r26) (args:=[.isl false (List.map cGDecision p2),.fn (.func 60) [] [.ptr 1 0 0]]) rfl (op_call rfl rfl Try.fn41 Try.hb41 rfl rfl) (EvU.view (q038 (q02o n) (disc_Implied_1_0 n) n p2 x24 r26 h27) BUL.h (by simp only [toV,toVL,okL,okC,cond_true] <;> rfl) (fun m=>by simp [ren,renL]) (Gh.fz (tm':=[.isl false (List.map cGDecision p2),.fn (.func 60) [] [.iptr (cGProp x24)]]) (h':=[(0,.vec (List.map cGDecision l19).flatten 57 5 t20)]) 1 (.row [.int .i64 x24.Kind,.str x24.Name,.int .i64 x24.From,.int .i64 x24.To] 38) 4 rfl (by simp) (by simp only [oneU,fzL_nil,fzL_cons,fz_int,fz_bool,fz_str,fz_nils,fz_nilp,fz_nilm,fz_nilf,fz_junk,fz_isl,fz_map,fz_agg,fz_tup,fz_fn,junkT,fz_sl,fz_p0,fz_cGProp,fzL_bel _ _ _ (bel_flat 1 (fun q=>q045 _ q) l19),Nat.reduceLeDiff,Nat.reduceMul,List.length_cons,List.length_nil,Nat.reduceAdd] <;> simp only [chunks,List.take,List.drop,List.map,cGProp]) (by simp only [fzH,fzB,ug,Nat.beq,cond_true,cond_false,oneU,fzL_nil,fzL_cons,fz_int,fz_bool,fz_str,fz_nils,fz_nilp,fz_nilm,fz_nilf,fz_junk,fz_isl,fz_map,fz_agg,fz_tup,fz_fn,junkT,fz_sl,fz_p0,fz_cGProp,fzL_bel _ _ _ (bel_flat 1 (fun q=>q045 _ q) l19),Nat.reduceLeDiff,Nat.reduceMul,List.length_cons,List.length_nil,Nat.reduceAdd] <;> simp only [chunks,List.take,List.drop,List.map,cGProp]))) rfl rfl ?_
 refine RS.done ?_
 repeat refine gq ?_
 repeat refine sq ?_
 refine WPU.condS (t:=r26) rfl (fun h28=>?_) (fun h28=>?_)
 replace hF:=cond_t h28 hF
 repeat refine sq ?_
 refine WPU.exit ?_
 repeat refine gq ?_
 repeat refine sq ?_
 refine WPU.region Try.tb_ok (RS.op rfl (op_int rfl rfl (ix_add _ _ _) rfl) rfl rfl (RS.mv rfl rfl rfl rfl (RS.done ?_)))
 repeat refine gq ?_
 exact ⟨m1,_,_,Nat.lt_succ_self _,⟨(IntKind.i64.wrap (z18 + 1)),l19,t20,hF,rfl,rfl⟩,(Nat.zero_le _),Gh.toC (n1:=1) ⟨rfl,rfl,rfl,rfl,rfl,rfl,rfl,trivial⟩ rfl (Nat.zero_le _) (by simp)⟩
 replace hF:=cond_f h28 hF
 repeat refine sq ?_
 refine WPU.skip ?_
 repeat refine gq ?_
 repeat refine sq ?_
 refine WPU.region Try.tb_ok (RS.as rfl rfl rfl rfl (RS.done ?_))
 repeat refine gq ?_
 repeat refine sq ?_
 refine WPU.region Try.tb_ok (RS.mv rfl rfl rfl rfl (RS.op rfl (op_len rfl rfl rfl (len_isl (cI .i64) Try.und43)) rfl rfl (RS.mv rfl rfl rfl rfl (RS.done ?_))))
 repeat refine gq ?_
 repeat refine sq ?_
 refine WPU.ghost (tm':=fr 63 [(1,.isl false (List.map cGDecision p2)),(5,.isl false (List.map (cL cGProp) r3)),(6,.isl false (List.map (cI .i64) r5)),(7,.vl 0 t20 0 l19.length),(9,.ptr 1 0 0),(10,.int .i64 0),(22,.isl false (List.map cGProp r8)),(23,.int .i64 (r8.length : Int)),(24,.int .i64 z18),(31,.isl false (List.map (cI .i64) r5)),(32,.int .i64 (r5.length : Int)),(33,.int .i64 0)]) (Gh.sub ⟨rfl,rfl,rfl,rfl,rfl,rfl,rfl,rfl,rfl,rfl,rfl,rfl,trivial⟩) (Nat.zero_le _) ?_
 refine WPU.loopK (fun m tm σ=>∃ z45 : Int,∃ z46 : Int,q025 n r3 r5 z18 l19 (q00p p2 n r3 r5 r8 m1) x24 m z45 z46 = some r∧tm = fr 63 [(1,.isl false (List.map cGDecision p2)),(5,.isl false (List.map (cL cGProp) r3)),(6,.isl false (List.map (cI .i64) r5)),(7,.vl 0 t20 0 l19.length),(9,.ptr 1 0 0),(10,.int .i64 z45),(22,.isl false (List.map cGProp r8)),(23,.int .i64 (r8.length : Int)),(24,.int .i64 z18),(31,.isl false (List.map (cI .i64) r5)),(32,.int .i64 (r5.length : Int)),(33,.int .i64 z46)]∧σ = ⟨[(1,.row (cGProp x24) 38),(0,.vec (List.map cGDecision l19).flatten 57 5 t20)],2⟩) (fun tm σ=>∃ z47 : Int,q03s r5 z18 l19 (q00p p2 n r3 r5 r8 m1) x24 z47 = some r∧tm = fr 63 [(1,.isl false (List.map cGDecision p2)),(5,.isl false (List.map (cL cGProp) r3)),(6,.isl false (List.map (cI .i64) r5)),(7,.vl 0 t20 0 l19.length),(9,.ptr 1 0 0),(10,.int .i64 z47),(22,.isl false (List.map cGProp r8)),(23,.int .i64 (r8.length : Int)),(24,.int .i64 z18)]∧σ = ⟨[(1,.row (cGProp x24) 38),(0,.vec (List.map cGDecision l19).flatten 57 5 t20)],2⟩) n ⟨0,0,hF,rfl,rfl⟩ ?_ ?_
 rintro _ _ ⟨z47,hF,rfl,rfl⟩
 unfold q03s at hF
 repeat refine gq ?_
 repeat refine sq ?_
 obtain ⟨b49,h50,hF⟩:=bindO_some hF
 refine WPU.joinK (fun tm σ=>tm = fr 63 [(1,.isl false (List.map cGDecision p2)),(5,.isl false (List.map (cL cGProp) r3)),(6,.isl false (List.map (cI .i64) r5)),(7,.vl 0 t20 0 l19.length),(9,.ptr 1 0 0),(10,.int .i64 z47),(22,.isl false (List.map cGProp r8)),(23,.int .i64 (r8.length : Int)),(24,.int .i64 z18),(53,.bool b49)]∧σ = ⟨[(1,.row (cGProp x24) 38),(0,.vec (List.map cGDecision l19).flatten 57 5 t20)],2⟩) ?_ ?_
 rintro _ _ ⟨rfl,rfl⟩
 repeat refine gq ?_
 repeat refine sq ?_
 refine WPU.joinK (fun tm σ=>∃ l52 : List GDecision,∃ t53 : Nat,q03l z18 (q00p p2 n r3 r5 r8 m1) l52 = some r∧tm = fr 63 [(1,.isl false (List.map cGDecision p2)),(5,.isl false (List.map (cL cGProp) r3)),(6,.isl false (List.map (cI .i64) r5)),(7,.vl 0 t53 0 l52.length),(22,.isl false (List.map cGProp r8)),(23,.int .i64 (r8.length : Int)),(24,.int .i64 z18)]∧σ = ⟨[(1,.row (cGProp x24) 38),(0,.vec (List.map cGDecision l52).flatten 57 5 t53)],2⟩) ?_ ?_
 rintro _ _ ⟨l52,t53,hF,rfl,rfl⟩
 unfold q03l at hF
 repeat refine gq ?_
 repeat refine sq ?_
 refine WPU.region Try.tb_ok (RS.op rfl (op_int rfl rfl (ix_add _ _ _) rfl) rfl rfl (RS.mv rfl rfl rfl rfl (RS.done ?_)))
 repeat refine gq ?_
 exact ⟨m1,_,_,Nat.lt_succ_self _,⟨(IntKind.i64.wrap (z18 + 1)),l52,t53,hF,rfl,rfl⟩,(Nat.zero_le _),Gh.toC (n1:=1) ⟨rfl,rfl,rfl,rfl,rfl,rfl,rfl,trivial⟩ rfl (Nat.zero_le _) (by simp)⟩
 refine WPU.condS (t:=b49) rfl (fun h51=>?_) (fun h51=>?_)
 replace hF:=cond_t h51 hF
 repeat refine sq ?_
 obtain ⟨h54,hF⟩:=needO_some hF
 refine WPU.region Try.tb_ok (RS.mv rfl rfl rfl rfl (RS.op (u:=.agg (cGProp x24)) rfl (ld_agg Try.und38 rfl (sz_of Try.inf38) rfl rfl rfl) rfl rfl (RS.mv rfl rfl rfl rfl (RS.op rfl (op_int rfl rfl (ix_gtr _ _ _) rfl) rfl rfl (RS.op (u:=.agg [.int .i64 x24.Kind,.str x24.Name,.int .i64 x24.From,.int .i64 x24.To,.bool (decide (z47 > 0))]) rfl (op_bld Try.bd57 rfl rfl rfl) rfl rfl (RS.op (u:=.sl 2 0 1 1) (σ':=⟨[(2,.row [.int .i64 x24.Kind,.str x24.Name,.int .i64 x24.From,.int .i64 x24.To,.bool (decide (z47 > 0))] 57),(1,.row (cGProp x24) 38),(0,.vec (List.map cGDecision l19).flatten 57 5 t20)],3⟩) rfl (op_bsl Try.und25 Try.inf57 rfl rfl rfl rfl rfl rfl rfl) rfl rfl (RS.op (u:=.vl 0 (t20 + 1) 0 ((l19 ++ [(GDecision.mk x24 (decide (z47 > 0)))]).length)) (σ':=⟨[(2,.row [.int .i64 x24.Kind,.str x24.Name,.int .i64 x24.From,.int .i64 x24.To,.bool (decide (z47 > 0))] 57),(1,.row (cGProp x24) 38),(0,.vec (List.map cGDecision (l19 ++ [(GDecision.mk x24 (decide (z47 > 0)))])).flatten 57 5 (t20 + 1))],3⟩) rfl (op_app rfl rfl rfl rfl (app_vl cGDecision ([(GDecision.mk x24 (decide (z47 > 0)))]) Try.und25 Try.und25 Try.inf57 rfl q004 rfl (src_row cGDecision [(GDecision.mk x24 (decide (z47 > 0)))] rfl rfl rfl rfl) h54)) rfl rfl ?_)))))))
 refine RS.as rfl rfl rfl rfl (RS.done ?_)
 repeat refine gq ?_
 exact ⟨_,_,⟨(l19 ++ [(GDecision.mk x24 (decide (z47 > 0)))]),(t20 + 1),hF,rfl,rfl⟩,(Nat.zero_le _),Gh.toC (n1:=2) ⟨rfl,rfl,rfl,rfl,rfl,rfl,rfl,trivial⟩ rfl (Nat.zero_le _) (by simp)⟩
 replace hF:=cond_f h51 hF
 repeat refine sq ?_
 refine WPU.skip ?_
 repeat refine gq ?_
 exact ⟨_,_,⟨l19,t20,hF,rfl,rfl⟩,(Nat.zero_le _),Gh.toC (n1:=2) ⟨rfl,rfl,rfl,rfl,rfl,rfl,rfl,trivial⟩ rfl (Nat.zero_le _) (by simp)⟩
 rcases bool_tf (z47 == 0) with h48 | h48
 replace h50:=cond_t h48 h50
 replace h50:=Option.some.inj h50
 subst h50
 refine WPU.region Try.tb_ok (RS.mv rfl rfl rfl rfl (RS.op rfl (op_int rfl rfl (ix_eql _ _ _) rfl) rfl rfl (RS.mv rfl rfl rfl rfl ?_)))
 repeat refine RS.no (want0 rfl rfl rfl h48) rfl rfl ?_
 refine RS.op (u:=.bool true) rfl (op_pick1 rfl h48 rfl) rfl rfl (RS.done ?_)
 repeat refine gq ?_
 exact ⟨_,_,⟨rfl,rfl⟩,(Nat.zero_le _),Gh.toC (n1:=2) ⟨rfl,rfl,rfl,rfl,rfl,rfl,rfl,rfl,rfl,rfl,trivial⟩ rfl (Nat.zero_le _) (by simp)⟩
 replace h50:=cond_f h48 h50
 replace h50:=Option.some.inj h50
 subst h50
 refine WPU.region Try.tb_ok (RS.mv rfl rfl rfl rfl (RS.op rfl (op_int rfl rfl (ix_eql _ _ _) rfl) rfl rfl (RS.mv rfl rfl rfl rfl (RS.op (want1 rfl rfl rfl h48) (op_move rfl) rfl rfl (RS.op (want1 rfl rfl rfl h48) (op_move rfl) rfl rfl (RS.op (want1 rfl rfl rfl h48) (op_len rfl rfl rfl (len_isl (cI .i64) Try.und43)) rfl rfl (RS.op (want1 rfl rfl rfl h48) (op_int rfl rfl (ix_eql _ _ _) rfl) rfl rfl ?_)))))))
 refine RS.op (u:=.bool (z47 == (r5.length : Int))) rfl (op_pick0 rfl h48 rfl) rfl rfl (RS.done ?_)
 repeat refine gq ?_
 exact ⟨_,_,⟨rfl,rfl⟩,(Nat.zero_le _),Gh.toC (n1:=2) ⟨rfl,rfl,rfl,rfl,rfl,rfl,rfl,rfl,rfl,rfl,trivial⟩ rfl (Nat.zero_le _) (by simp)⟩
 rintro m2 _ _ ⟨z45,z46,hF,rfl,rfl⟩
 rcases m2 with _ | m2
 cases hF
 unfold q025 at hF
 repeat refine sq ?_
 refine WPU.region Try.tb_ok (RS.op rfl (op_int rfl rfl (ix_lss _ _ _) rfl) rfl rfl (RS.done ?_))
 repeat refine gq ?_
 repeat refine sq ?_
 refine WPU.condS (t:=(decide (z46 < (r5.length : Int)))) rfl (fun h55=>?_) (fun h55=>?_)
 replace hF:=cond_t h55 hF
 repeat refine sq ?_
 refine WPU.skip ?_
 repeat refine gq ?_
 repeat refine sq ?_
 refine WPU.block ?_
 repeat refine sq ?_
 obtain ⟨x56,h57,hF⟩:=bindO_some hF
 refine WPU.region Try.tb_ok (RS.op (u:=.iptr [.int .i64 x56]) rfl (op_ia rfl rfl (ia_isl (cI .i64) Try.und43 (sz_of Try.inf3) (len_cI .i64) h57 rfl)) rfl rfl (RS.op (u:=.int .i64 x56) rfl (li_one Try.und3 rfl rfl rfl) rfl rfl (RS.as rfl rfl rfl rfl (RS.done ?_))))
 repeat refine gq ?_
 repeat refine sq ?_
 obtain ⟨x58,h59,hF⟩:=bindO_some hF
 obtain ⟨r60,h61,hF⟩:=bindO_some hF
 refine WPU.drawE Try.tb_ok [] (by kernel_rfl) ?_
 repeat refine RD.mv rfl rfl rfl rfl ?_
 refine RD.look (u:=.iptr [.isl false (List.map cGProp x58)]) rfl (op_ia rfl rfl (ia_isl (cL cGProp) Try.und82 (sz_of Try.inf33) (len_cL cGProp) h59 rfl)) rfl rfl (RD.look (u:=.isl false (List.map cGProp x58)) rfl (li_one Try.und33 rfl rfl rfl) rfl rfl (RD.look (u:=.agg (cGProp x24)) rfl (ld_agg Try.und38 rfl (sz_of Try.inf38) rfl rfl rfl) rfl rfl (RD.free (u:=.bool r60) (args:=[.isl false (List.map cGProp x58),.agg (cGProp x24)]) rfl (op_call rfl rfl Try.fn46 Try.hb46 rfl rfl) (fun s=>disc_has_ok n x58 x24 r60 h61 s) rfl rfl ?_)))
 refine RD.done ⟨by kernel_rfl,trivial,?_⟩
 repeat refine gq ?_
 repeat refine sq ?_
 refine WPU.joinK (fun tm σ=>∃ z63 : Int,q03t z46 (q025 n r3 r5 z18 l19 (q00p p2 n r3 r5 r8 m1) x24 m2) z63 = some r∧tm = fr 63 [(1,.isl false (List.map cGDecision p2)),(5,.isl false (List.map (cL cGProp) r3)),(6,.isl false (List.map (cI .i64) r5)),(7,.vl 0 t20 0 l19.length),(9,.ptr 1 0 0),(10,.int .i64 z63),(22,.isl false (List.map cGProp r8)),(23,.int .i64 (r8.length : Int)),(24,.int .i64 z18),(31,.isl false (List.map (cI .i64) r5)),(32,.int .i64 (r5.length : Int)),(33,.int .i64 z46)]∧σ = ⟨[(1,.row (cGProp x24) 38),(0,.vec (List.map cGDecision l19).flatten 57 5 t20)],2⟩) ?_ ?_
 rintro _ _ ⟨z63,hF,rfl,rfl⟩
 unfold q03t at hF
 repeat refine gq ?_
 repeat refine sq ?_
 refine WPU.region Try.tb_ok (RS.op rfl (op_int rfl rfl (ix_add _ _ _) rfl) rfl rfl (RS.mv rfl rfl rfl rfl (RS.done ?_)))
 repeat refine gq ?_
 exact ⟨m2,_,_,Nat.lt_succ_self _,⟨z63,(IntKind.i64.wrap (z46 + 1)),hF,rfl,rfl⟩,(Nat.zero_le _),Gh.toC (n1:=2) ⟨rfl,rfl,rfl,rfl,rfl,rfl,rfl,rfl,rfl,rfl,rfl,rfl,trivial⟩ rfl (Nat.zero_le _) (by simp)⟩
 refine WPU.condS (t:=r60) rfl (fun h62=>?_) (fun h62=>?_)
 replace hF:=cond_t h62 hF
 repeat refine sq ?_
 refine WPU.region Try.tb_ok (RS.mv rfl rfl rfl rfl (RS.op rfl (op_int rfl rfl (ix_add _ _ _) rfl) rfl rfl (RS.as rfl rfl rfl rfl (RS.done ?_))))
 repeat refine gq ?_
 exact ⟨_,_,⟨(IntKind.i64.wrap (z45 + 1)),hF,rfl,rfl⟩,(Nat.zero_le _),Gh.toC (n1:=2) ⟨rfl,rfl,rfl,rfl,rfl,rfl,rfl,rfl,rfl,rfl,rfl,rfl,trivial⟩ rfl (Nat.zero_le _) (by simp)⟩
 replace hF:=cond_f h62 hF
 repeat refine sq ?_
 refine WPU.skip ?_
 repeat refine gq ?_
 exact ⟨_,_,⟨z45,hF,rfl,rfl⟩,(Nat.zero_le _),Gh.toC (n1:=2) ⟨rfl,rfl,rfl,rfl,rfl,rfl,rfl,rfl,rfl,rfl,rfl,rfl,trivial⟩ rfl (Nat.zero_le _) (by simp)⟩
 replace hF:=cond_f h55 hF
 repeat refine sq ?_
 refine WPU.exit ?_
 repeat refine gq ?_
 exact ⟨_,_,⟨z45,hF,rfl,rfl⟩,(Nat.zero_le _),Gh.toC (n1:=2) ⟨rfl,rfl,rfl,rfl,rfl,rfl,rfl,rfl,rfl,trivial⟩ rfl (Nat.zero_le _) (by simp)⟩
 replace hF:=cond_f h23 hF
 repeat refine sq ?_
 refine WPU.exit ?_
 repeat refine gq ?_
 exact ⟨_,_,⟨l19,t20,hF,rfl,rfl⟩,(Nat.zero_le _),Gh.toC (n1:=1) ⟨rfl,trivial⟩ rfl (Nat.zero_le _) (by simp)⟩
theorem disc_Implied_ok (n : Nat) (p1 : List GDeriv) (p2 : List GDecision) (r : (List GDecision)) (hF : q04f n p1 p2 = some r) (σ : Sg) : EvU Try.prog 37 [.isl false (List.map cGDeriv p1),.isl false (List.map cGDecision p2)] σ (fun u σ'=>u = .isl false (List.map cGDecision r)∧σ' = σ) :=
 EvU.pure1C (disc_Implied_0 n p1 p2 r hF) σ
def q01s (n : Nat) (p1 : List GDeriv) : Option ((List GProp)) :=
 bindO (disc_all n p1) fun r2 =>
 bindO (disc_differ n r2) fun r4 =>
 some r4
theorem disc_Discriminants_0 (n : Nat) (p1 : List GDeriv) (r : (List GProp)) (hF : q01s n p1 = some r) : EvU Try.prog 39 [.isl false (List.map cGDeriv p1)] ⟨[],0⟩ (fun u _=>u = .isl false (List.map cGProp r)∧Bel 0 u):=by
 unfold q01s at hF
 refine EvU.of_body Try.tb_ok Try.fn39 rfl ?_
 refine WPU.ghost (tm':=fr 6 [(0,.isl false (List.map cGDeriv p1))]) (Gh.start (Nat.le_of_ble_eq_true rfl)) (Nat.zero_le _) ?_
 repeat refine sq ?_
 refine WPU.region Try.tb_ok (RS.as rfl rfl rfl rfl (RS.done ?_))
 repeat refine gq ?_
 repeat refine sq ?_
 obtain ⟨r2,h3,hF⟩:=bindO_some hF
 obtain ⟨r4,h5,hF⟩:=bindO_some hF
 refine WPU.region Try.tb_ok (RS.mv rfl rfl rfl rfl (RS.call (u:=.isl false (List.map (cL cGProp) r2)) (args:=[.isl false (List.map cGDeriv p1)]) rfl (op_call rfl rfl Try.fn48 Try.hb48 rfl rfl) (disc_all_ok n p1 r2 h3 _) rfl rfl (RS.call (u:=.isl false (List.map cGProp r4)) (args:=[.isl false (List.map (cL cGProp) r2)]) rfl (op_call rfl rfl Try.fn59 Try.hb59 rfl rfl) (disc_differ_ok n r2 r4 h5 _) rfl rfl (RS.as rfl rfl rfl rfl (RS.done ?_)))))
 repeat refine gq ?_
 repeat refine sq ?_
 refine WPU.ret ?_
 repeat refine gq ?_
 have hr:=Option.some.inj hF
 subst hr
 exact ⟨.inr rfl,[.isl false (List.map cGProp r4)],res_t rfl (res_n),.isl false (List.map cGProp r4),⟨[],0⟩,Nat.le_refl _,Gh.toR (.isl false (List.map cGProp r4)) rfl,rfl,BU.h⟩
theorem q04l (n : Nat) (p1 : List GDeriv) (r : (List GProp)) (hF : q01s n p1 = some r) (σ : Sg) : EvU Try.prog 39 [.isl false (List.map cGDeriv p1)] σ (fun u σ'=>u = .isl false (List.map cGProp r)∧σ' = σ) :=
 EvU.pure1C (disc_Discriminants_0 n p1 r hF) σ
def q00h (n : Nat) (p1 : Gwork) (p2 : List GDecision) : Option ((List Int)) :=
 bindO (q01e n ([p1.Session.Decisions,p2])) fun r3 =>
 bindO (q02q n p1.Session.Readings r3) fun r5 =>
 some r5
theorem q04x (n : Nat) (p1 : Gwork) (p2 : List GDecision) (r : (List Int)) (hF : q00h n p1 p2 = some r) : EvU Try.prog 38 [.agg (cGSession p1.Session),.isl false (List.map cGDecision p2)] ⟨[],0⟩ (fun u _=>u = .isl false (List.map (cI .i64) r)∧Bel 0 u):=by
 unfold q00h at hF
 refine EvU.of_body Try.tb_ok Try.fn38 rfl ?_
 refine WPU.ghost (tm':=fr 15 [(0,.agg (cGSession p1.Session)),(1,.isl false (List.map cGDecision p2))]) (Gh.start (Nat.le_of_ble_eq_true rfl)) (Nat.zero_le _) ?_
 repeat refine sq ?_
 refine WPU.region Try.tb_ok (RS.op (u:=.ptr 0 0 0) (σ':=⟨[(0,.row (cGSession p1.Session) 72)],1⟩) rfl (op_box rfl rfl rfl) rfl rfl (RS.as rfl rfl rfl rfl (RS.done ?_)))
 repeat refine gq ?_
 repeat refine sq ?_
 obtain ⟨r3,h4,hF⟩:=bindO_some hF
 obtain ⟨r5,h6,hF⟩:=bindO_some hF
 refine WPU.drawE Try.tb_ok [(0,7),(0,8),(1,7),(1,8),(2,7),(2,8)] (by kernel_rfl) ?_
 refine RD.look (u:=.ptr 0 0 0) rfl (op_fa Try.und72 rfl (sz_of Try.inf27) rfl rfl rfl) rfl rfl (RD.look (u:=.ptr 0 0 0) rfl (op_fa Try.und27 rfl (sz_of Try.inf22) rfl rfl rfl) rfl rfl (RD.look (u:=.isl false (List.map cGDeriv p1.Session.Readings)) rfl (ld_one Try.und22 rfl rfl rfl rfl) rfl rfl (RD.look (u:=.ptr 0 0 0) rfl (op_fa Try.und72 rfl (sz_of Try.inf27) rfl rfl rfl) rfl rfl (RD.look (u:=.ptr 0 0 1) rfl (op_fa Try.und27 rfl (sz_of Try.inf25) rfl rfl rfl) rfl rfl (RD.look (u:=.isl false (List.map cGDecision p1.Session.Decisions)) rfl (ld_one Try.und25 rfl rfl rfl rfl) rfl rfl (RD.mv rfl rfl rfl rfl (RD.act (u:=.sl 1 0 2 2) (σ':=⟨[(1,.row [.isl false (List.map cGDecision p1.Session.Decisions),.isl false (List.map cGDecision p2)] 25),(0,.row (cGSession p1.Session) 72)],2⟩) rfl (op_bsl Try.und118 Try.inf25 rfl rfl rfl rfl rfl rfl rfl) rfl rfl ?_)))))))
 refine RD.fcall (u:=.isl false (List.map cGDecision r3)) (args:=[.sl 1 0 2 2]) (σ1:=⟨[(0,.row (cGSession p1.Session) 72)],2⟩) rfl (op_call rfl rfl Try.fn61 Try.hb61 rfl rfl) (Gh.fz (tm':=[.isl false (List.map (cL cGDecision) ([p1.Session.Decisions,p2]))]) (h':=[(0,.row (cGSession p1.Session) 72)]) 1 (.row [.isl false (List.map cGDecision p1.Session.Decisions),.isl false (List.map cGDecision p2)] 25) 1 rfl (by simp) (by simp only [oneU,fzL_nil,fzL_cons,fz_int,fz_bool,fz_str,fz_nils,fz_nilp,fz_nilm,fz_nilf,fz_junk,fz_isl,fz_map,fz_agg,fz_tup,fz_fn,junkT,fz_sl,fz_p0,q01k,Nat.reduceLeDiff,Nat.reduceMul,List.length_cons,List.length_nil,Nat.reduceAdd] <;> simp only [chunks,List.take,List.drop,List.map,cI,cB,cS,cL]) (by simp only [fzH,fzB,ug,Nat.beq,cond_true,cond_false,oneU,fzL_nil,fzL_cons,fz_int,fz_bool,fz_str,fz_nils,fz_nilp,fz_nilm,fz_nilf,fz_junk,fz_isl,fz_map,fz_agg,fz_tup,fz_fn,junkT,fz_sl,fz_p0,q01k,Nat.reduceLeDiff,Nat.reduceMul,List.length_cons,List.length_nil,Nat.reduceAdd] <;> simp only [chunks,List.take,List.drop,List.map,cI,cB,cS,cL])) (Nat.le_of_ble_eq_true rfl) (q04y n ([p1.Session.Decisions,p2]) r3 h4 _) rfl rfl ?_
 refine RD.free (u:=.isl false (List.map (cI .i64) r5)) (args:=[.isl false (List.map cGDeriv p1.Session.Readings),.isl false (List.map cGDecision r3)]) rfl (op_call rfl rfl Try.fn18 Try.hb18 rfl rfl) (fun s=>disc_Remaining_ok n p1.Session.Readings r3 r5 h6 s) rfl rfl (RD.as rfl rfl rfl rfl ?_)
 refine RD.done ⟨by kernel_rfl,⟨op_fa Try.und72 rfl (sz_of Try.inf27) rfl rfl rfl,⟨op_fa Try.und72 rfl (sz_of Try.inf27) rfl rfl rfl,⟨op_fa Try.und27 rfl (sz_of Try.inf22) rfl rfl rfl,⟨op_fa Try.und27 rfl (sz_of Try.inf22) rfl rfl rfl,⟨ld_one Try.und22 rfl rfl rfl rfl,⟨ld_one Try.und22 rfl rfl rfl rfl,trivial⟩⟩⟩⟩⟩⟩,?_⟩
 repeat refine gq ?_
 repeat refine sq ?_
 refine WPU.ret ?_
 repeat refine gq ?_
 have hr:=Option.some.inj hF
 subst hr
 exact ⟨.inr rfl,[.isl false (List.map (cI .i64) r5)],res_t rfl (res_n),.isl false (List.map (cI .i64) r5),⟨[],0⟩,Nat.le_refl _,Gh.toR (.isl false (List.map (cI .i64) r5)) rfl,rfl,BU.h⟩
theorem q01v (n : Nat) (p1 : Gwork) (p2 : List GDecision) (r : (List Int)) (hF : q00h n p1 p2 = some r) (σ : Sg) : EvU Try.prog 38 [.agg (cGSession p1.Session),.isl false (List.map cGDecision p2)] σ (fun u σ'=>u = .isl false (List.map (cI .i64) r)∧σ' = σ) :=
 EvU.pure1C (q04x n p1 p2 r hF) σ
def q00r   : Option (Int) :=
 some (-1)
def q006 (p1 : List GDecision) (c2 : GProp) (f1 : GDecision→GProp→Option (Bool)) : Nat→Int→Option (Int)
 | 0,_=>none
 | m1 + 1,z6 =>
  cond (decide (z6 < (p1.length : Int)))
   (bindO (idxO p1 z6) fun x8 =>
   bindO (f1 x8 c2) fun r10 =>
   cond r10
    (some z6)
    ((q006 p1 c2 f1 m1) (IntKind.i64.wrap (z6 + 1))))
   (q00r)
def q00j (f1 : GDecision→GProp→Option (Bool)) (n : Nat) (p1 : List GDecision) (c2 : GProp) : Option (Int) :=
 q006 p1 c2 f1 n 0
theorem q03m (f1 : GDecision→GProp→Option (Bool)) (hf1 : ∀ (a0 : GDecision) (a1 : GProp) (r : Bool),f1 a0 a1 = some r→EvU Try.prog 42 [.agg (cGDecision a0),.iptr (cGProp a1)] ⟨[],0⟩ (fun u _=>u = .bool r∧Bel 0 u)) (n : Nat) (p1 : List GDecision) (c2 : GProp) (r : Int) (hF : q00j f1 n p1 c2 = some r) : EvU Try.prog 63 [.isl false (List.map cGDecision p1),.fn (.func 42) [] [.iptr (cGProp c2)]] ⟨[],0⟩ (fun u _=>u = .int .i64 r∧Bel 0 u):=by
 unfold q00j at hF
 have hf1S : ∀ (a0 : GDecision) (a1 : GProp) (r : Bool),f1 a0 a1 = some r→∀ σ,EvU Try.prog 42 [.agg (cGDecision a0),.iptr (cGProp a1)] σ (fun u σ'=>u = .bool r∧σ' = σ):=fun a0 a1 r h σ=>EvU.pure1C (hf1 a0 a1 r h) σ
 refine EvU.of_body Try.tb_ok Try.fn63 rfl ?_
 refine WPU.ghost (tm':=fr 19 [(0,.isl false (List.map cGDecision p1)),(1,.fn (.func 42) [] [.iptr (cGProp c2)])]) (Gh.start (Nat.le_of_ble_eq_true rfl)) (Nat.zero_le _) ?_
 repeat refine sq ?_
 refine WPU.region Try.tb_ok (RS.as rfl rfl rfl rfl (RS.done ?_))
 repeat refine gq ?_
 repeat refine sq ?_
 refine WPU.region Try.tb_ok (RS.mv rfl rfl rfl rfl (RS.op rfl (op_len rfl rfl rfl (len_isl cGDecision Try.und25)) rfl rfl (RS.mv rfl rfl rfl rfl (RS.done ?_))))
 repeat refine gq ?_
 repeat refine sq ?_
 refine WPU.ghost (tm':=fr 19 [(0,.isl false (List.map cGDecision p1)),(1,.fn (.func 42) [] [.iptr (cGProp c2)]),(7,.int .i64 (p1.length : Int)),(8,.int .i64 0)]) (Gh.sub ⟨rfl,rfl,rfl,rfl,trivial⟩) (Nat.zero_le _) ?_
 refine WPU.loopK (fun m tm σ=>∃ z6 : Int,q006 p1 c2 f1 m z6 = some r∧tm = fr 19 [(0,.isl false (List.map cGDecision p1)),(1,.fn (.func 42) [] [.iptr (cGProp c2)]),(7,.int .i64 (p1.length : Int)),(8,.int .i64 z6)]∧σ = ⟨[],0⟩) (fun tm σ=>q00r = some r∧tm = fr 19 []∧σ = ⟨[],0⟩) n ⟨0,hF,rfl,rfl⟩ ?_ ?_
 rintro _ _ ⟨hF,rfl,rfl⟩
 unfold q00r at hF
 repeat refine gq ?_
 repeat refine sq ?_
 refine WPU.region Try.tb_ok (RS.as rfl rfl rfl rfl (RS.done ?_))
 repeat refine gq ?_
 repeat refine sq ?_
 refine WPU.ret ?_
 repeat refine gq ?_
 have hr:=Option.some.inj hF
 subst hr
 exact ⟨.inr rfl,[.int .i64 (-1)],res_t rfl (res_n),.int .i64 (-1),⟨[],0⟩,Nat.le_refl _,Gh.toR (.int .i64 (-1)) rfl,rfl,BU.h⟩
 rintro m1 _ _ ⟨z6,hF,rfl,rfl⟩
 rcases m1 with _ | m1
 cases hF
 unfold q006 at hF
 repeat refine sq ?_
 refine WPU.region Try.tb_ok (RS.op rfl (op_int rfl rfl (ix_lss _ _ _) rfl) rfl rfl (RS.done ?_))
 repeat refine gq ?_
 repeat refine sq ?_
 refine WPU.condS (t:=(decide (z6 < (p1.length : Int)))) rfl (fun h7=>?_) (fun h7=>?_)
 replace hF:=cond_t h7 hF
 repeat refine sq ?_
 refine WPU.skip ?_
 repeat refine gq ?_
 repeat refine sq ?_
 refine WPU.block ?_
 repeat refine sq ?_
 refine WPU.region Try.tb_ok (RS.mv rfl rfl rfl rfl (RS.as rfl rfl rfl rfl (RS.done ?_)))
 repeat refine gq ?_
 repeat refine sq ?_
 obtain ⟨x8,h9,hF⟩:=bindO_some hF
 obtain ⟨r10,h11,hF⟩:=bindO_some hF
 refine WPU.region Try.tb_ok ?_
 repeat refine RS.mv rfl rfl rfl rfl ?_
 refine RS.op (u:=.iptr (cGDecision x8)) rfl (op_ia rfl rfl (ia_isl cGDecision Try.und25 (sz_of Try.inf57) q004 h9 rfl)) rfl rfl (RS.op (u:=.agg (cGDecision x8)) rfl (li_agg Try.und57 rfl (sz_of Try.inf57) rfl rfl) rfl rfl (RS.call (u:=.bool r10) (args:=[.agg (cGDecision x8),.iptr (cGProp c2)]) rfl (op_call rfl rfl Try.fn42 Try.hb42 rfl rfl) (hf1S x8 c2 r10 h11 _) rfl rfl (RS.done ?_)))
 repeat refine gq ?_
 repeat refine sq ?_
 refine WPU.condS (t:=r10) rfl (fun h12=>?_) (fun h12=>?_)
 replace hF:=cond_t h12 hF
 repeat refine sq ?_
 refine WPU.region Try.tb_ok (RS.mv rfl rfl rfl rfl (RS.as rfl rfl rfl rfl (RS.done ?_)))
 repeat refine gq ?_
 repeat refine sq ?_
 refine WPU.ret ?_
 repeat refine gq ?_
 have hr:=Option.some.inj hF
 subst hr
 exact ⟨.inr rfl,[.int .i64 z6],res_t rfl (res_n),.int .i64 z6,⟨[],0⟩,Nat.le_refl _,Gh.toR (.int .i64 z6) rfl,rfl,BU.h⟩
 replace hF:=cond_f h12 hF
 repeat refine sq ?_
 refine WPU.skip ?_
 repeat refine gq ?_
 repeat refine sq ?_
 refine WPU.region Try.tb_ok (RS.op rfl (op_int rfl rfl (ix_add _ _ _) rfl) rfl rfl (RS.mv rfl rfl rfl rfl (RS.done ?_)))
 repeat refine gq ?_
 exact ⟨m1,_,_,Nat.lt_succ_self _,⟨(IntKind.i64.wrap (z6 + 1)),hF,rfl,rfl⟩,(Nat.zero_le _),Gh.toC (n1:=0) ⟨rfl,rfl,rfl,rfl,trivial⟩ rfl (Nat.zero_le _) (by simp)⟩
 replace hF:=cond_f h7 hF
 repeat refine sq ?_
 refine WPU.exit ?_
 repeat refine gq ?_
 exact ⟨_,_,⟨hF,rfl,rfl⟩,(Nat.zero_le _),Gh.toC (n1:=0) trivial rfl (Nat.zero_le _) (by simp)⟩
theorem q03h (f1 : GDecision→GProp→Option (Bool)) (hf1 : ∀ (a0 : GDecision) (a1 : GProp) (r : Bool),f1 a0 a1 = some r→EvU Try.prog 42 [.agg (cGDecision a0),.iptr (cGProp a1)] ⟨[],0⟩ (fun u _=>u = .bool r∧Bel 0 u)) (n : Nat) (p1 : List GDecision) (c2 : GProp) (r : Int) (hF : q00j f1 n p1 c2 = some r) (σ : Sg) : EvU Try.prog 63 [.isl false (List.map cGDecision p1),.fn (.func 42) [] [.iptr (cGProp c2)]] σ (fun u σ'=>u = .int .i64 r∧σ' = σ) :=
 EvU.pure1C (q03m f1 hf1 n p1 c2 r hF) σ
def q00c (f1 : GDecision→GProp→Option (Bool)) (n : Nat) (p1 : List GDecision) (c2 : GProp) : Option (Bool) :=
 bindO (q00j f1 n p1 c2) fun r3 =>
 some (decide (r3 ≥ 0))
theorem q036 (f1 : GDecision→GProp→Option (Bool)) (hf1 : ∀ (a0 : GDecision) (a1 : GProp) (r : Bool),f1 a0 a1 = some r→EvU Try.prog 42 [.agg (cGDecision a0),.iptr (cGProp a1)] ⟨[],0⟩ (fun u _=>u = .bool r∧Bel 0 u)) (n : Nat) (p1 : List GDecision) (c2 : GProp) (r : Bool) (hF : q00c f1 n p1 c2 = some r) : EvU Try.prog 41 [.isl false (List.map cGDecision p1),.fn (.func 42) [] [.iptr (cGProp c2)]] ⟨[],0⟩ (fun u _=>u = .bool r∧Bel 0 u):=by
 unfold q00c at hF
 have hf1S : ∀ (a0 : GDecision) (a1 : GProp) (r : Bool),f1 a0 a1 = some r→∀ σ,EvU Try.prog 42 [.agg (cGDecision a0),.iptr (cGProp a1)] σ (fun u σ'=>u = .bool r∧σ' = σ):=fun a0 a1 r h σ=>EvU.pure1C (hf1 a0 a1 r h) σ
 refine EvU.of_body Try.tb_ok Try.fn41 rfl ?_
 refine WPU.ghost (tm':=fr 9 [(0,.isl false (List.map cGDecision p1)),(1,.fn (.func 42) [] [.iptr (cGProp c2)])]) (Gh.start (Nat.le_of_ble_eq_true rfl)) (Nat.zero_le _) ?_
 repeat refine sq ?_
 refine WPU.region Try.tb_ok (RS.as rfl rfl rfl rfl (RS.done ?_))
 repeat refine gq ?_
 repeat refine sq ?_
 obtain ⟨r3,h4,hF⟩:=bindO_some hF
 refine WPU.region Try.tb_ok ?_
 repeat refine RS.mv rfl rfl rfl rfl ?_
 refine RS.call (u:=.int .i64 r3) (args:=[.isl false (List.map cGDecision p1),.fn (.func 42) [] [.iptr (cGProp c2)]]) rfl (op_call rfl rfl Try.fn63 Try.hb63 rfl rfl) (q03h f1 hf1 n p1 c2 r3 h4 _) rfl rfl (RS.op rfl (op_int rfl rfl (ix_geq _ _ _) rfl) rfl rfl (RS.as rfl rfl rfl rfl (RS.done ?_)))
 repeat refine gq ?_
 repeat refine sq ?_
 refine WPU.ret ?_
 repeat refine gq ?_
 have hr:=Option.some.inj hF
 subst hr
 exact ⟨.inr rfl,[.bool (decide (r3 ≥ 0))],res_t rfl (res_n),.bool (decide (r3 ≥ 0)),⟨[],0⟩,Nat.le_refl _,Gh.toR (.bool (decide (r3 ≥ 0))) rfl,rfl,BU.h⟩
def q01r (n : Nat) (p1 : GDecision) (c2 : GProp) : Option (Bool) :=
 some (eqGProp p1.Propx c2)
theorem annotate_Suggest_1_0 (n : Nat) (p1 : GDecision) (c2 : GProp) (r : Bool) (hF : q01r n p1 c2 = some r) : EvU Try.prog 42 [.agg (cGDecision p1),.iptr (cGProp c2)] ⟨[],0⟩ (fun u _=>u = .bool r∧Bel 0 u):=by
 unfold q01r at hF
 refine EvU.of_body Try.tb_ok Try.fn42 rfl ?_
 refine WPU.ghost (tm':=fr 8 [(0,.agg (cGDecision p1)),(1,.iptr (cGProp c2))]) (Gh.start (Nat.le_of_ble_eq_true rfl)) (Nat.zero_le _) ?_
 repeat refine sq ?_
 refine WPU.region Try.tb_ok (RS.op (u:=.ptr 0 0 0) (σ':=⟨[(0,.row (cGDecision p1) 57)],1⟩) rfl (op_box rfl rfl rfl) rfl rfl (RS.as rfl rfl rfl rfl (RS.done ?_)))
 repeat refine gq ?_
 repeat refine sq ?_
 refine WPU.region Try.tb_ok (RS.op (u:=.ptr 0 0 0) rfl (op_fa Try.und57 rfl (sz_of Try.inf38) rfl rfl rfl) rfl rfl (RS.op (u:=.agg (cGProp p1.Propx)) rfl (ld_agg Try.und38 rfl (sz_of Try.inf38) rfl rfl rfl) rfl rfl (RS.op (u:=.agg (cGProp c2)) rfl (li_agg Try.und38 rfl (sz_of Try.inf38) rfl rfl) rfl rfl (RS.op (u:=.bool (eqGProp p1.Propx c2)) rfl (op_bin rfl rfl (eqq38_eql p1.Propx c2)) rfl rfl (RS.as rfl rfl rfl rfl (RS.done ?_))))))
 repeat refine gq ?_
 repeat refine sq ?_
 refine WPU.ret ?_
 repeat refine gq ?_
 have hr:=Option.some.inj hF
 subst hr
 exact ⟨.inr rfl,[.bool (eqGProp p1.Propx c2)],res_t rfl (res_n),.bool (eqGProp p1.Propx c2),⟨[],0⟩,Nat.le_refl _,Gh.toR (.bool (eqGProp p1.Propx c2)) rfl,rfl,BU.h⟩
def q02a (z31 : Int) (rc1 : Int→Bool→Int→Int→(List UInt8)→Int→Int→Option (GProp × Bool)) (z58 : Int) (b59 : Bool) (z60 : Int) (s61 : List UInt8) (z62 : Int) (z63 : Int) : Option (GProp × Bool) :=
 rc1 z58 b59 (IntKind.i64.wrap (z31 + 1)) z60 s61 z62 z63
def q031  (b36 : Bool) (z37 : Int) (s38 : List UInt8) (z39 : Int) (z40 : Int) : Option (GProp × Bool) :=
 some ((GProp.mk z37 s38 z39 z40),b36)
def q012 (p1 : GSession) (n : Nat) (r2 : (List GDecision)) (r4 : (List Int)) (r6 : (List GProp)) : Nat→Int→Bool→Int→Int→(List UInt8)→Int→Int→Option (GProp × Bool)
 | 0,_,_,_,_,_,_,_=>none
 | m1 + 1,z29,b30,z31,z32,s33,z34,z35 =>
  cond (decide (z31 < (r6.length : Int)))
   (bindO (idxO r6 z31) fun x42 =>
   bindO (bindO (q01c n (Gwork.mk p1) x42) fun r44 =>
   cond r44
    (some true)
    (bindO (q00c (q01r n) n r2 x42) fun r47 =>
    some r47)) fun b49 =>
   cond b49
    ((q012 p1 n r2 r4 r6 m1) z29 b30 (IntKind.i64.wrap (z31 + 1)) z32 s33 z34 z35)
    (bindO (q00h n (Gwork.mk p1) ([(GDecision.mk x42 true)])) fun r52 =>
    bindO (cond (!b30)
     (some true)
     (some (decide ((if (IntKind.i64.wrap ((r4.length : Int) - (IntKind.i64.wrap (2 * (r52.length : Int))))) > (IntKind.i64.wrap ((IntKind.i64.wrap (2 * (r52.length : Int))) - (r4.length : Int))) then (IntKind.i64.wrap ((r4.length : Int) - (IntKind.i64.wrap (2 * (r52.length : Int))))) else (IntKind.i64.wrap ((IntKind.i64.wrap (2 * (r52.length : Int))) - (r4.length : Int)))) < z29)))) fun b55 =>
    cond b55
     (q02a z31 (q012 p1 n r2 r4 r6 m1) (if (IntKind.i64.wrap ((r4.length : Int) - (IntKind.i64.wrap (2 * (r52.length : Int))))) > (IntKind.i64.wrap ((IntKind.i64.wrap (2 * (r52.length : Int))) - (r4.length : Int))) then (IntKind.i64.wrap ((r4.length : Int) - (IntKind.i64.wrap (2 * (r52.length : Int))))) else (IntKind.i64.wrap ((IntKind.i64.wrap (2 * (r52.length : Int))) - (r4.length : Int)))) true x42.Kind x42.Name x42.From x42.To)
     (q02a z31 (q012 p1 n r2 r4 r6 m1) z29 b30 z32 s33 z34 z35)))
   (q031 b30 z32 s33 z34 z35)
def q01z (n : Nat) (p1 : GSession) : Option (GProp × Bool) :=
 bindO (q04f n p1.Readings p1.Decisions) fun r2 =>
 bindO (q00h n (Gwork.mk p1) []) fun r4 =>
 bindO (q01s n p1.Readings) fun r6 =>
 q012 p1 n r2 r4 r6 n 0 false 0 0 [] 0 0
theorem annotate_Suggest_0 (n : Nat) (p1 : GSession) (r : GProp × Bool) (hF : q01z n p1 = some r) : EvU Try.prog 15 [.agg (cGSession p1)] ⟨[],0⟩ (fun u _=>u = .tup [.agg (cGProp r.1),.bool r.2]∧Bel 0 u):=by
 unfold q01z at hF
 refine EvU.of_body Try.tb_ok Try.fn15 rfl ?_
 refine WPU.ghost (tm':=fr 70 [(0,.agg (cGSession p1))]) (Gh.start (Nat.le_of_ble_eq_true rfl)) (Nat.zero_le _) ?_
 repeat refine sq ?_
 refine WPU.region Try.tb_ok (RS.op (u:=.ptr 0 0 0) (σ':=⟨[(0,.row (cGSession p1) 27)],1⟩) rfl (op_box rfl rfl rfl) rfl rfl (RS.op (u:=.ptr 1 0 0) (σ':=⟨[(1,.row [.int .i64 0,.str [],.int .i64 0,.int .i64 0] 38),(0,.row (cGSession p1) 27)],2⟩) rfl (op_alloc Try.inf38 rfl rfl) rfl rfl (RS.as rfl rfl rfl rfl (RS.done ?_))))
 repeat refine gq ?_
 repeat refine sq ?_
 refine WPU.region Try.tb_ok (RS.op (u:=.agg (cGSession p1)) rfl (ld_agg Try.und27 rfl (sz_of Try.inf27) rfl rfl rfl) rfl rfl (RS.op (u:=.agg (cGSession p1)) rfl (op_bld Try.bd72 rfl rfl rfl) rfl rfl (RS.op (u:=.ptr 2 0 0) (σ':=⟨[(2,.row [.nils,.nils,.int .i64 0] 72),(1,.row [.int .i64 0,.str [],.int .i64 0,.int .i64 0] 38),(0,.row (cGSession p1) 27)],3⟩) rfl (op_alloc Try.inf72 rfl rfl) rfl rfl (RS.opn (u:=.junk) (σ':=⟨[(2,.row (cGSession p1) 72),(1,.row [.int .i64 0,.str [],.int .i64 0,.int .i64 0] 38),(0,.row (cGSession p1) 27)],3⟩) rfl (op_store (sz_of Try.inf72) rfl rfl rfl rfl rfl rfl rfl rfl) rfl (RS.done ?_)))))
 repeat refine gq ?_
 repeat refine sq ?_
 obtain ⟨r2,h3,hF⟩:=bindO_some hF
 refine WPU.region Try.tb_ok (RS.op (u:=.ptr 2 0 0) rfl (op_fa Try.und72 rfl (sz_of Try.inf27) rfl rfl rfl) rfl rfl (RS.op (u:=.ptr 2 0 0) rfl (op_fa Try.und27 rfl (sz_of Try.inf22) rfl rfl rfl) rfl rfl (RS.op (u:=.isl false (List.map cGDeriv p1.Readings)) rfl (ld_one Try.und22 rfl rfl rfl rfl) rfl rfl (RS.op (u:=.ptr 2 0 0) rfl (op_fa Try.und72 rfl (sz_of Try.inf27) rfl rfl rfl) rfl rfl (RS.op (u:=.ptr 2 0 1) rfl (op_fa Try.und27 rfl (sz_of Try.inf25) rfl rfl rfl) rfl rfl (RS.op (u:=.isl false (List.map cGDecision p1.Decisions)) rfl (ld_one Try.und25 rfl rfl rfl rfl) rfl rfl (RS.call (u:=.isl false (List.map cGDecision r2)) (args:=[.isl false (List.map cGDeriv p1.Readings),.isl false (List.map cGDecision p1.Decisions)]) rfl (op_call rfl rfl Try.fn37 Try.hb37 rfl rfl) (disc_Implied_ok n p1.Readings p1.Decisions r2 h3 _) rfl rfl ?_)))))))
 refine RS.as rfl rfl rfl rfl (RS.done ?_)
 repeat refine gq ?_
 repeat refine sq ?_
 obtain ⟨r4,h5,hF⟩:=bindO_some hF
 refine WPU.region Try.tb_ok (RS.op (u:=.agg (cGSession p1)) rfl (ld_agg Try.und72 rfl (sz_of Try.inf72) rfl rfl rfl) rfl rfl (RS.call (u:=.isl false (List.map (cI .i64) r4)) (args:=[.agg (cGSession p1),.nils]) rfl (op_call rfl rfl Try.fn38 Try.hb38 rfl rfl) (EvU.wkA (args':=[.agg (cGSession p1),.isl false []]) (.cons (.refl _) (.cons (.nil false) .nil)) (fun s=>q01v n (Gwork.mk p1) [] r4 h5 s) _) rfl rfl (RS.op rfl (op_len rfl rfl rfl (len_isl (cI .i64) Try.und43)) rfl rfl (RS.as rfl rfl rfl rfl (RS.done ?_)))))
 repeat refine gq ?_
 repeat refine sq ?_
 refine WPU.region Try.tb_ok (RS.op (u:=.ptr 3 0 0) (σ':=⟨[(3,.row [.int .i64 0,.str [],.int .i64 0,.int .i64 0] 38),(2,.row (cGSession p1) 72),(1,.row [.int .i64 0,.str [],.int .i64 0,.int .i64 0] 38),(0,.row (cGSession p1) 27)],4⟩) rfl (op_alloc Try.inf38 rfl rfl) rfl rfl (RS.done ?_))
 repeat refine gq ?_
 repeat refine sq ?_
 refine WPU.region Try.tb_ok ?_
 repeat refine RS.as rfl rfl rfl rfl ?_
 refine RS.done ?_
 repeat refine gq ?_
 repeat refine sq ?_
 obtain ⟨r6,h7,hF⟩:=bindO_some hF
 refine WPU.region Try.tb_ok (RS.op (u:=.ptr 2 0 0) rfl (op_fa Try.und72 rfl (sz_of Try.inf27) rfl rfl rfl) rfl rfl (RS.op (u:=.ptr 2 0 0) rfl (op_fa Try.und27 rfl (sz_of Try.inf22) rfl rfl rfl) rfl rfl (RS.op (u:=.isl false (List.map cGDeriv p1.Readings)) rfl (ld_one Try.und22 rfl rfl rfl rfl) rfl rfl (RS.call (u:=.isl false (List.map cGProp r6)) (args:=[.isl false (List.map cGDeriv p1.Readings)]) rfl (op_call rfl rfl Try.fn39 Try.hb39 rfl rfl) (q04l n p1.Readings r6 h7 _) rfl rfl (RS.op rfl (op_len rfl rfl rfl (len_isl cGProp Try.und33)) rfl rfl (RS.mv rfl rfl rfl rfl (RS.done ?_)))))))
 repeat refine gq ?_
 repeat refine sq ?_
 refine WPU.ghost (tm':=fr 70 [(2,.ptr 1 0 0),(4,.ptr 2 0 0),(5,.isl false (List.map cGDecision r2)),(6,.int .i64 (r4.length : Int)),(7,.ptr 3 0 0),(8,.int .i64 0),(9,.bool false),(29,.isl false (List.map cGProp r6)),(30,.int .i64 (r6.length : Int)),(31,.int .i64 0)]) (Gh.sub ⟨rfl,rfl,rfl,rfl,rfl,rfl,rfl,rfl,rfl,rfl,trivial⟩) (Nat.zero_le _) ?_
 refine WPU.loopK (fun m tm σ=>∃ z29 : Int,∃ b30 : Bool,∃ z31 : Int,∃ z32 : Int,∃ s33 : List UInt8,∃ z34 : Int,∃ z35 : Int,q012 p1 n r2 r4 r6 m z29 b30 z31 z32 s33 z34 z35 = some r∧tm = fr 70 [(2,.ptr 1 0 0),(4,.ptr 2 0 0),(5,.isl false (List.map cGDecision r2)),(6,.int .i64 (r4.length : Int)),(7,.ptr 3 0 0),(8,.int .i64 z29),(9,.bool b30),(29,.isl false (List.map cGProp r6)),(30,.int .i64 (r6.length : Int)),(31,.int .i64 z31)]∧σ = ⟨[(3,.row [.int .i64 z32,.str s33,.int .i64 z34,.int .i64 z35] 38),(2,.row (cGSession p1) 72),(1,.row [.int .i64 0,.str [],.int .i64 0,.int .i64 0] 38),(0,.row (cGSession p1) 27)],4⟩) (fun tm σ=>∃ b36 : Bool,∃ z37 : Int,∃ s38 : List UInt8,∃ z39 : Int,∃ z40 : Int,q031 b36 z37 s38 z39 z40 = some r∧tm = fr 70 [(2,.ptr 1 0 0),(7,.ptr 3 0 0),(9,.bool b36)]∧σ = ⟨[(3,.row [.int .i64 z37,.str s38,.int .i64 z39,.int .i64 z40] 38),(2,.row (cGSession p1) 72),(1,.row [.int .i64 0,.str [],.int .i64 0,.int .i64 0] 38),(0,.row (cGSession p1) 27)],4⟩) n ⟨0,false,0,0,[],0,0,hF,rfl,rfl⟩ ?_ ?_
 rintro _ _ ⟨b36,z37,s38,z39,z40,hF,rfl,rfl⟩
 unfold q031 at hF
 repeat refine gq ?_
 repeat refine sq ?_
 refine WPU.region Try.tb_ok (RS.op (u:=.agg [.int .i64 z37,.str s38,.int .i64 z39,.int .i64 z40]) rfl (ld_agg Try.und38 rfl (sz_of Try.inf38) rfl rfl rfl) rfl rfl (RS.mv rfl rfl rfl rfl (RS.opn (u:=.junk) (σ':=⟨[(3,.row [.int .i64 z37,.str s38,.int .i64 z39,.int .i64 z40] 38),(2,.row (cGSession p1) 72),(1,.row [.int .i64 z37,.str s38,.int .i64 z39,.int .i64 z40] 38),(0,.row (cGSession p1) 27)],4⟩) rfl (op_store (sz_of Try.inf38) rfl rfl rfl rfl rfl rfl rfl rfl) rfl (RS.as rfl rfl rfl rfl (RS.done ?_)))))
 repeat refine gq ?_
 repeat refine sq ?_
 refine WPU.ret ?_
 repeat refine gq ?_
 have hr:=Option.some.inj hF
 subst hr
 exact ⟨.inr rfl,[.agg [.int .i64 z37,.str s38,.int .i64 z39,.int .i64 z40],.bool b36],res_c (ld_agg Try.und38 rfl (sz_of Try.inf38) rfl rfl rfl) (res_t rfl (res_n)),.tup [.agg [.int .i64 z37,.str s38,.int .i64 z39,.int .i64 z40],.bool b36],⟨[],0⟩,Nat.le_refl _,Gh.toR (.tup [.agg [.int .i64 z37,.str s38,.int .i64 z39,.int .i64 z40],.bool b36]) rfl,rfl,BU.h⟩
 rintro m1 _ _ ⟨z29,b30,z31,z32,s33,z34,z35,hF,rfl,rfl⟩
 rcases m1 with _ | m1
 cases hF
 unfold q012 at hF
 repeat refine sq ?_
 refine WPU.region Try.tb_ok (RS.op rfl (op_int rfl rfl (ix_lss _ _ _) rfl) rfl rfl (RS.done ?_))
 repeat refine gq ?_
 repeat refine sq ?_
 refine WPU.condS (t:=(decide (z31 < (r6.length : Int)))) rfl (fun h41=>?_) (fun h41=>?_)
 replace hF:=cond_t h41 hF
 repeat refine sq ?_
 refine WPU.skip ?_
 repeat refine gq ?_
 repeat refine sq ?_
 refine WPU.block ?_
 repeat refine sq ?_
 obtain ⟨x42,h43,hF⟩:=bindO_some hF
 refine WPU.region Try.tb_ok (RS.op (u:=.iptr (cGProp x42)) rfl (op_ia rfl rfl (ia_isl cGProp Try.und33 (sz_of Try.inf38) len_cGProp h43 rfl)) rfl rfl (RS.op (u:=.agg (cGProp x42)) rfl (li_agg Try.und38 rfl (sz_of Try.inf38) rfl rfl) rfl rfl (RS.op (u:=.ptr 4 0 0) (σ':=⟨[(4,.row [.int .i64 0,.str [],.int .i64 0,.int .i64 0] 38),(3,.row [.int .i64 z32,.str s33,.int .i64 z34,.int .i64 z35] 38),(2,.row (cGSession p1) 72),(1,.row [.int .i64 0,.str [],.int .i64 0,.int .i64 0] 38),(0,.row (cGSession p1) 27)],5⟩) rfl (op_alloc Try.inf38 rfl rfl) rfl rfl (RS.opn (u:=.junk) (σ':=⟨[(4,.row (cGProp x42) 38),(3,.row [.int .i64 z32,.str s33,.int .i64 z34,.int .i64 z35] 38),(2,.row (cGSession p1) 72),(1,.row [.int .i64 0,.str [],.int .i64 0,.int .i64 0] 38),(0,.row (cGSession p1) 27)],5⟩) rfl (op_store (sz_of Try.inf38) rfl rfl rfl rfl rfl rfl rfl rfl) rfl (RS.done ?_)))))
 repeat refine gq ?_
 repeat refine sq ?_
 obtain ⟨b49,h50,hF⟩:=bindO_some hF
 refine WPU.joinK (fun tm σ=>tm = fr 70 [(2,.ptr 1 0 0),(4,.ptr 2 0 0),(5,.isl false (List.map cGDecision r2)),(6,.int .i64 (r4.length : Int)),(7,.ptr 3 0 0),(8,.int .i64 z29),(9,.bool b30),(11,.ptr 4 0 0),(29,.isl false (List.map cGProp r6)),(30,.int .i64 (r6.length : Int)),(31,.int .i64 z31),(42,.bool b49)]∧σ = ⟨[(4,.row (cGProp x42) 38),(3,.row [.int .i64 z32,.str s33,.int .i64 z34,.int .i64 z35] 38),(2,.row (cGSession p1) 72),(1,.row [.int .i64 0,.str [],.int .i64 0,.int .i64 0] 38),(0,.row (cGSession p1) 27)],5⟩) ?_ ?_
 rintro _ _ ⟨rfl,rfl⟩
 repeat refine gq ?_
 repeat refine sq ?_
 refine WPU.condS (t:=b49) rfl (fun h51=>?_) (fun h51=>?_)
 replace hF:=cond_t h51 hF
 repeat refine sq ?_
 refine WPU.exit ?_
 repeat refine gq ?_
 repeat refine sq ?_
 refine WPU.region Try.tb_ok (RS.op rfl (op_int rfl rfl (ix_add _ _ _) rfl) rfl rfl (RS.mv rfl rfl rfl rfl (RS.done ?_)))
 repeat refine gq ?_
 exact ⟨m1,_,_,Nat.lt_succ_self _,⟨z29,b30,(IntKind.i64.wrap (z31 + 1)),z32,s33,z34,z35,hF,rfl,rfl⟩,(Nat.zero_le _),Gh.toC (n1:=4) ⟨rfl,rfl,rfl,rfl,rfl,rfl,rfl,rfl,rfl,rfl,trivial⟩ rfl (Nat.zero_le _) (by simp)⟩
 replace hF:=cond_f h51 hF
 repeat refine sq ?_
 refine WPU.skip ?_
 repeat refine gq ?_
 repeat refine sq ?_
 obtain ⟨r52,h53,hF⟩:=bindO_some hF
 refine WPU.region Try.tb_ok (RS.op (u:=.agg (cGSession p1)) rfl (ld_agg Try.und72 rfl (sz_of Try.inf72) rfl rfl rfl) rfl rfl (RS.op (u:=.agg (cGProp x42)) rfl (ld_agg Try.und38 rfl (sz_of Try.inf38) rfl rfl rfl) rfl rfl (RS.op (u:=.agg [.int .i64 x42.Kind,.str x42.Name,.int .i64 x42.From,.int .i64 x42.To,.bool true]) rfl (op_bld Try.bd57 rfl rfl rfl) rfl rfl (RS.op (u:=.sl 5 0 1 1) (σ':=⟨[(5,.row [.int .i64 x42.Kind,.str x42.Name,.int .i64 x42.From,.int .i64 x42.To,.bool true] 57),(4,.row (cGProp x42) 38),(3,.row [.int .i64 z32,.str s33,.int .i64 z34,.int .i64 z35] 38),(2,.row (cGSession p1) 72),(1,.row [.int .i64 0,.str [],.int .i64 0,.int .i64 0] 38),(0,.row (cGSession p1) 27)],6⟩) rfl (op_bsl Try.und25 Try.inf57 rfl rfl rfl rfl rfl rfl rfl) rfl rfl ?_))))
 refine RS.fcall (u:=.isl false (List.map (cI .i64) r52)) (args:=[.agg (cGSession p1),.sl 5 0 1 1]) (σ1:=⟨[(4,.row (cGProp x42) 38),(3,.row [.int .i64 z32,.str s33,.int .i64 z34,.int .i64 z35] 38),(2,.row (cGSession p1) 72),(1,.row [.int .i64 0,.str [],.int .i64 0,.int .i64 0] 38),(0,.row (cGSession p1) 27)],6⟩) rfl (op_call rfl rfl Try.fn38 Try.hb38 rfl rfl) (Gh.fz (tm':=[.agg (cGSession p1),.isl false (List.map cGDecision ([(GDecision.mk x42 true)]))]) (h':=[(4,.row (cGProp x42) 38),(3,.row [.int .i64 z32,.str s33,.int .i64 z34,.int .i64 z35] 38),(2,.row (cGSession p1) 72),(1,.row [.int .i64 0,.str [],.int .i64 0,.int .i64 0] 38),(0,.row (cGSession p1) 27)]) 5 (.row [.int .i64 x42.Kind,.str x42.Name,.int .i64 x42.From,.int .i64 x42.To,.bool true] 57) 5 rfl (by simp) (by simp only [oneU,fzL_nil,fzL_cons,fz_int,fz_bool,fz_str,fz_nils,fz_nilp,fz_nilm,fz_nilf,fz_junk,fz_isl,fz_map,fz_agg,fz_tup,fz_fn,junkT,fz_sl,fz_p0,fz_cGProp,q01k,Nat.reduceLeDiff,Nat.reduceMul,List.length_cons,List.length_nil,Nat.reduceAdd] <;> simp only [chunks,List.take,List.drop,List.map,cGDecision]) (by simp only [fzH,fzB,ug,Nat.beq,cond_true,cond_false,oneU,fzL_nil,fzL_cons,fz_int,fz_bool,fz_str,fz_nils,fz_nilp,fz_nilm,fz_nilf,fz_junk,fz_isl,fz_map,fz_agg,fz_tup,fz_fn,junkT,fz_sl,fz_p0,fz_cGProp,q01k,Nat.reduceLeDiff,Nat.reduceMul,List.length_cons,List.length_nil,Nat.reduceAdd] <;> simp only [chunks,List.take,List.drop,List.map,cGDecision])) (Nat.le_of_ble_eq_true rfl) (q01v n (Gwork.mk p1) ([(GDecision.mk x42 true)]) r52 h53 _) rfl rfl ?_
 refine RS.op rfl (op_len rfl rfl rfl (len_isl (cI .i64) Try.und43)) rfl rfl (RS.as rfl rfl rfl rfl (RS.done ?_))
 repeat refine gq ?_
 repeat refine sq ?_
 refine WPU.region Try.tb_ok (RS.mv rfl rfl rfl rfl (RS.op rfl (op_int rfl rfl (ix_mul _ _ _) rfl) rfl rfl (RS.mv rfl rfl rfl rfl (RS.op rfl (op_int rfl rfl (ix_sub _ _ _) rfl) rfl rfl ?_))))
 repeat refine RS.mv rfl rfl rfl rfl ?_
 refine RS.op rfl (op_int rfl rfl (ix_mul _ _ _) rfl) rfl rfl (RS.op rfl (op_int rfl rfl (ix_sub _ _ _) rfl) rfl rfl (RS.op (u:=.int .i64 (if (IntKind.i64.wrap ((r4.length : Int) - (IntKind.i64.wrap (2 * (r52.length : Int))))) > (IntKind.i64.wrap ((IntKind.i64.wrap (2 * (r52.length : Int))) - (r4.length : Int))) then (IntKind.i64.wrap ((r4.length : Int) - (IntKind.i64.wrap (2 * (r52.length : Int))))) else (IntKind.i64.wrap ((IntKind.i64.wrap (2 * (r52.length : Int))) - (r4.length : Int))))) rfl (op_max rfl rfl rfl rfl rfl rfl rfl) rfl rfl (RS.as rfl rfl rfl rfl (RS.done ?_))))
 repeat refine gq ?_
 repeat refine sq ?_
 obtain ⟨b55,h56,hF⟩:=bindO_some hF
 refine WPU.joinK (fun tm σ=>tm = fr 70 [(2,.ptr 1 0 0),(4,.ptr 2 0 0),(5,.isl false (List.map cGDecision r2)),(6,.int .i64 (r4.length : Int)),(7,.ptr 3 0 0),(8,.int .i64 z29),(9,.bool b30),(11,.ptr 4 0 0),(13,.int .i64 (if (IntKind.i64.wrap ((r4.length : Int) - (IntKind.i64.wrap (2 * (r52.length : Int))))) > (IntKind.i64.wrap ((IntKind.i64.wrap (2 * (r52.length : Int))) - (r4.length : Int))) then (IntKind.i64.wrap ((r4.length : Int) - (IntKind.i64.wrap (2 * (r52.length : Int))))) else (IntKind.i64.wrap ((IntKind.i64.wrap (2 * (r52.length : Int))) - (r4.length : Int))))),(29,.isl false (List.map cGProp r6)),(30,.int .i64 (r6.length : Int)),(31,.int .i64 z31),(64,.bool b55)]∧σ = ⟨[(4,.row (cGProp x42) 38),(3,.row [.int .i64 z32,.str s33,.int .i64 z34,.int .i64 z35] 38),(2,.row (cGSession p1) 72),(1,.row [.int .i64 0,.str [],.int .i64 0,.int .i64 0] 38),(0,.row (cGSession p1) 27)],6⟩) ?_ ?_
 rintro _ _ ⟨rfl,rfl⟩
 repeat refine gq ?_
 repeat refine sq ?_
 refine WPU.joinK (fun tm σ=>∃ z58 : Int,∃ b59 : Bool,∃ z60 : Int,∃ s61 : List UInt8,∃ z62 : Int,∃ z63 : Int,q02a z31 (q012 p1 n r2 r4 r6 m1) z58 b59 z60 s61 z62 z63 = some r∧tm = fr 70 [(2,.ptr 1 0 0),(4,.ptr 2 0 0),(5,.isl false (List.map cGDecision r2)),(6,.int .i64 (r4.length : Int)),(7,.ptr 3 0 0),(8,.int .i64 z58),(9,.bool b59),(29,.isl false (List.map cGProp r6)),(30,.int .i64 (r6.length : Int)),(31,.int .i64 z31)]∧σ = ⟨[(4,.row (cGProp x42) 38),(3,.row [.int .i64 z60,.str s61,.int .i64 z62,.int .i64 z63] 38),(2,.row (cGSession p1) 72),(1,.row [.int .i64 0,.str [],.int .i64 0,.int .i64 0] 38),(0,.row (cGSession p1) 27)],6⟩) ?_ ?_
 rintro _ _ ⟨z58,b59,z60,s61,z62,z63,hF,rfl,rfl⟩
 unfold q02a at hF
 repeat refine gq ?_
 repeat refine sq ?_
 refine WPU.region Try.tb_ok (RS.op rfl (op_int rfl rfl (ix_add _ _ _) rfl) rfl rfl (RS.mv rfl rfl rfl rfl (RS.done ?_)))
 repeat refine gq ?_
 exact ⟨m1,_,_,Nat.lt_succ_self _,⟨z58,b59,(IntKind.i64.wrap (z31 + 1)),z60,s61,z62,z63,hF,rfl,rfl⟩,(Nat.zero_le _),Gh.toC (n1:=4) ⟨rfl,rfl,rfl,rfl,rfl,rfl,rfl,rfl,rfl,rfl,trivial⟩ rfl (Nat.zero_le _) (by simp)⟩
 refine WPU.condS (t:=b55) rfl (fun h57=>?_) (fun h57=>?_)
 replace hF:=cond_t h57 hF
 repeat refine sq ?_
 refine WPU.region Try.tb_ok (RS.op (u:=.agg (cGProp x42)) rfl (ld_agg Try.und38 rfl (sz_of Try.inf38) rfl rfl rfl) rfl rfl (RS.mv rfl rfl rfl rfl (RS.opn (u:=.junk) (σ':=⟨[(4,.row (cGProp x42) 38),(3,.row (cGProp x42) 38),(2,.row (cGSession p1) 72),(1,.row [.int .i64 0,.str [],.int .i64 0,.int .i64 0] 38),(0,.row (cGSession p1) 27)],6⟩) rfl (op_store (sz_of Try.inf38) rfl rfl rfl rfl rfl rfl rfl rfl) rfl ?_)))
 repeat refine RS.as rfl rfl rfl rfl ?_
 refine RS.done ?_
 repeat refine gq ?_
 exact ⟨_,_,⟨(if (IntKind.i64.wrap ((r4.length : Int) - (IntKind.i64.wrap (2 * (r52.length : Int))))) > (IntKind.i64.wrap ((IntKind.i64.wrap (2 * (r52.length : Int))) - (r4.length : Int))) then (IntKind.i64.wrap ((r4.length : Int) - (IntKind.i64.wrap (2 * (r52.length : Int))))) else (IntKind.i64.wrap ((IntKind.i64.wrap (2 * (r52.length : Int))) - (r4.length : Int)))),true,x42.Kind,x42.Name,x42.From,x42.To,hF,rfl,rfl⟩,(Nat.zero_le _),Gh.toC (n1:=6) ⟨rfl,rfl,rfl,rfl,rfl,rfl,rfl,rfl,rfl,rfl,trivial⟩ rfl (Nat.zero_le _) (by simp)⟩
 replace hF:=cond_f h57 hF
 repeat refine sq ?_
 refine WPU.skip ?_
 repeat refine gq ?_
 exact ⟨_,_,⟨z29,b30,z32,s33,z34,z35,hF,rfl,rfl⟩,(Nat.zero_le _),Gh.toC (n1:=6) ⟨rfl,rfl,rfl,rfl,rfl,rfl,rfl,rfl,rfl,rfl,trivial⟩ rfl (Nat.zero_le _) (by simp)⟩
 rcases bool_tf (!b30) with h54 | h54
 replace h56:=cond_t h54 h56
 replace h56:=Option.some.inj h56
 subst h56
 refine WPU.region Try.tb_ok (RS.mv rfl rfl rfl rfl (RS.op (u:=.bool (!b30)) rfl (op_un rfl rfl rfl rfl) rfl rfl (RS.mv rfl rfl rfl rfl ?_)))
 repeat refine RS.no (want0 rfl rfl rfl h54) rfl rfl ?_
 refine RS.op (u:=.bool true) rfl (op_pick1 rfl h54 rfl) rfl rfl (RS.done ?_)
 repeat refine gq ?_
 exact ⟨_,_,⟨rfl,rfl⟩,(Nat.zero_le _),Gh.toC (n1:=6) ⟨rfl,rfl,rfl,rfl,rfl,rfl,rfl,rfl,rfl,rfl,rfl,rfl,rfl,trivial⟩ rfl (Nat.zero_le _) (by simp)⟩
 replace h56:=cond_f h54 h56
 replace h56:=Option.some.inj h56
 subst h56
 refine WPU.region Try.tb_ok (RS.mv rfl rfl rfl rfl (RS.op (u:=.bool (!b30)) rfl (op_un rfl rfl rfl rfl) rfl rfl (RS.mv rfl rfl rfl rfl (RS.op (want1 rfl rfl rfl h54) (op_move rfl) rfl rfl (RS.op (want1 rfl rfl rfl h54) (op_move rfl) rfl rfl (RS.op (want1 rfl rfl rfl h54) (op_int rfl rfl (ix_lss _ _ _) rfl) rfl rfl (RS.op (u:=.bool (decide ((if (IntKind.i64.wrap ((r4.length : Int) - (IntKind.i64.wrap (2 * (r52.length : Int))))) > (IntKind.i64.wrap ((IntKind.i64.wrap (2 * (r52.length : Int))) - (r4.length : Int))) then (IntKind.i64.wrap ((r4.length : Int) - (IntKind.i64.wrap (2 * (r52.length : Int))))) else (IntKind.i64.wrap ((IntKind.i64.wrap (2 * (r52.length : Int))) - (r4.length : Int)))) < z29))) rfl (op_pick0 rfl h54 rfl) rfl rfl ?_)))))))
 refine RS.done ?_
 repeat refine gq ?_
 exact ⟨_,_,⟨rfl,rfl⟩,(Nat.zero_le _),Gh.toC (n1:=6) ⟨rfl,rfl,rfl,rfl,rfl,rfl,rfl,rfl,rfl,rfl,rfl,rfl,rfl,trivial⟩ rfl (Nat.zero_le _) (by simp)⟩
 obtain ⟨r44,h45,h50⟩:=bindO_some h50
 rcases bool_tf r44 with h46 | h46
 replace h50:=cond_t h46 h50
 replace h50:=Option.some.inj h50
 subst h50
 refine WPU.region Try.tb_ok (RS.op (u:=.agg (cGSession p1)) rfl (ld_agg Try.und72 rfl (sz_of Try.inf72) rfl rfl rfl) rfl rfl (RS.op (u:=.agg (cGProp x42)) rfl (ld_agg Try.und38 rfl (sz_of Try.inf38) rfl rfl rfl) rfl rfl (RS.call (u:=.bool r44) (args:=[.agg (cGSession p1),.agg (cGProp x42)]) rfl (op_call rfl rfl Try.fn40 Try.hb40 rfl rfl) (q02t n (Gwork.mk p1) x42 r44 h45 _) rfl rfl (RS.mv rfl rfl rfl rfl ?_))))
 repeat refine RS.no (want0 rfl rfl rfl h46) rfl rfl ?_
 refine RS.op (u:=.bool true) rfl (op_pick1 rfl h46 rfl) rfl rfl (RS.done ?_)
 repeat refine gq ?_
 exact ⟨_,_,⟨rfl,rfl⟩,(Nat.zero_le _),Gh.toC (n1:=5) ⟨rfl,rfl,rfl,rfl,rfl,rfl,rfl,rfl,rfl,rfl,rfl,rfl,trivial⟩ rfl (Nat.zero_le _) (by simp)⟩
 replace h50:=cond_f h46 h50
 obtain ⟨r47,h48,h50⟩:=bindO_some h50
 replace h50:=Option.some.inj h50
 subst h50
 refine WPU.region Try.tb_ok (RS.op (u:=.agg (cGSession p1)) rfl (ld_agg Try.und72 rfl (sz_of Try.inf72) rfl rfl rfl) rfl rfl (RS.op (u:=.agg (cGProp x42)) rfl (ld_agg Try.und38 rfl (sz_of Try.inf38) rfl rfl rfl) rfl rfl (RS.call (u:=.bool r44) (args:=[.agg (cGSession p1),.agg (cGProp x42)]) rfl (op_call rfl rfl Try.fn40 Try.hb40 rfl rfl) (q02t n (Gwork.mk p1) x42 r44 h45 _) rfl rfl (RS.mv rfl rfl rfl rfl (RS.op (want1 rfl rfl rfl h46) (op_move rfl) rfl rfl (RS.op (want1 rfl rfl rfl h46) (op_fun rfl rfl) rfl rfl ?_))))))
 refine RS.call (u:=.bool r47) (args:=[.isl false (List.map cGDecision r2),.fn (.func 42) [] [.ptr 4 0 0]]) (want1 rfl rfl rfl h46) (op_call rfl rfl Try.fn41 Try.hb41 rfl rfl) (EvU.view (q036 (q01r n) (annotate_Suggest_1_0 n) n r2 x42 r47 h48) BUL.h (by simp only [toV,toVL,okL,okC,cond_true] <;> rfl) (fun m=>by simp [ren,renL]) (Gh.fz (tm':=[.isl false (List.map cGDecision r2),.fn (.func 42) [] [.iptr (cGProp x42)]]) (h':=[(3,.row [.int .i64 z32,.str s33,.int .i64 z34,.int .i64 z35] 38),(2,.row (cGSession p1) 72),(1,.row [.int .i64 0,.str [],.int .i64 0,.int .i64 0] 38),(0,.row (cGSession p1) 27)]) 4 (.row [.int .i64 x42.Kind,.str x42.Name,.int .i64 x42.From,.int .i64 x42.To] 38) 4 rfl (by simp) (by simp only [oneU,fzL_nil,fzL_cons,fz_int,fz_bool,fz_str,fz_nils,fz_nilp,fz_nilm,fz_nilf,fz_junk,fz_isl,fz_map,fz_agg,fz_tup,fz_fn,junkT,fz_sl,fz_p0,fz_cGProp,q01k,Nat.reduceLeDiff,Nat.reduceMul,List.length_cons,List.length_nil,Nat.reduceAdd] <;> simp only [chunks,List.take,List.drop,List.map,cGProp]) (by simp only [fzH,fzB,ug,Nat.beq,cond_true,cond_false,oneU,fzL_nil,fzL_cons,fz_int,fz_bool,fz_str,fz_nils,fz_nilp,fz_nilm,fz_nilf,fz_junk,fz_isl,fz_map,fz_agg,fz_tup,fz_fn,junkT,fz_sl,fz_p0,fz_cGProp,q01k,Nat.reduceLeDiff,Nat.reduceMul,List.length_cons,List.length_nil,Nat.reduceAdd] <;> simp only [chunks,List.take,List.drop,List.map,cGProp]))) rfl rfl ?_
 refine RS.op (u:=.bool r47) rfl (op_pick0 rfl h46 rfl) rfl rfl (RS.done ?_)
 repeat refine gq ?_
 exact ⟨_,_,⟨rfl,rfl⟩,(Nat.zero_le _),Gh.toC (n1:=5) ⟨rfl,rfl,rfl,rfl,rfl,rfl,rfl,rfl,rfl,rfl,rfl,rfl,trivial⟩ rfl (Nat.zero_le _) (by simp)⟩
 replace hF:=cond_f h41 hF
 repeat refine sq ?_
 refine WPU.exit ?_
 repeat refine gq ?_
 exact ⟨_,_,⟨b30,z32,s33,z34,z35,hF,rfl,rfl⟩,(Nat.zero_le _),Gh.toC (n1:=4) ⟨rfl,rfl,rfl,trivial⟩ rfl (Nat.zero_le _) (by simp)⟩
theorem q044 (n : Nat) (p1 : GSession) (r : GProp × Bool) (hF : q01z n p1 = some r) (σ : Sg) : EvU Try.prog 15 [.agg (cGSession p1)] σ (fun u σ'=>u = .tup [.agg (cGProp r.1),.bool r.2]∧σ' = σ) :=
 EvU.pure1C (annotate_Suggest_0 n p1 r hF) σ
def q01j (n : Nat) (p1 : GSession) (p2 : GProp) (p3 : Bool) : Option (GSession × Int) :=
 cond (p1.State != 0)
  (some (p1,15))
  (bindO (q01s n p1.Readings) fun r5 =>
  bindO (q01p n r5 p2) fun r7 =>
  cond (!r7)
   (some (p1,16))
   (bindO (q01c n (Gwork.mk p1) p2) fun r10 =>
   cond r10
    (some (p1,4))
    (bindO (q00h n (Gwork.mk p1) ([(GDecision.mk p2 p3)])) fun r13 =>
    cond ((r13.length : Int) == 0)
     (some (p1,17))
     (bindO (q01b n p1.Decisions) fun r16 =>
     bindO (q01t n r16) fun r18 =>
     needO ((r18.length + ([(GDecision.mk p2 p3)]).length) * 48 ≤ 140737488355328∧r18.length + ([(GDecision.mk p2 p3)]).length ≤ 140737488355328) (
     some ((GSession.mk p1.Readings (r18 ++ [(GDecision.mk p2 p3)]) p1.State),0))))))
theorem annotate_Decide_0 (n : Nat) (p1 : GSession) (p2 : GProp) (p3 : Bool) (r : GSession × Int) (hF : q01j n p1 p2 p3 = some r) : EvU Try.prog 16 [.agg (cGSession p1),.agg (cGProp p2),.bool p3] ⟨[],0⟩ (fun u _=>u = .tup [.agg (cGSession r.1),.int .i64 r.2]∧Bel 0 u):=by
 unfold q01j at hF
 refine EvU.of_body Try.tb_ok Try.fn16 rfl ?_
 refine WPU.ghost (tm':=fr 55 [(0,.agg (cGSession p1)),(1,.agg (cGProp p2)),(2,.bool p3)]) (Gh.start (Nat.le_of_ble_eq_true rfl)) (Nat.zero_le _) ?_
 repeat refine sq ?_
 refine WPU.region Try.tb_ok (RS.op (u:=.ptr 0 0 0) (σ':=⟨[(0,.row (cGSession p1) 27)],1⟩) rfl (op_box rfl rfl rfl) rfl rfl (RS.op (u:=.ptr 1 0 0) (σ':=⟨[(1,.row (cGProp p2) 38),(0,.row (cGSession p1) 27)],2⟩) rfl (op_box rfl rfl rfl) rfl rfl (RS.op (u:=.ptr 2 0 0) (σ':=⟨[(2,.row [.nils,.nils,.int .i64 0] 27),(1,.row (cGProp p2) 38),(0,.row (cGSession p1) 27)],3⟩) rfl (op_alloc Try.inf27 rfl rfl) rfl rfl (RS.as rfl rfl rfl rfl (RS.done ?_)))))
 repeat refine gq ?_
 repeat refine sq ?_
 refine WPU.region Try.tb_ok (RS.op (u:=.agg (cGSession p1)) rfl (ld_agg Try.und27 rfl (sz_of Try.inf27) rfl rfl rfl) rfl rfl (RS.op (u:=.agg (cGSession p1)) rfl (op_bld Try.bd72 rfl rfl rfl) rfl rfl (RS.op (u:=.ptr 3 0 0) (σ':=⟨[(3,.row [.nils,.nils,.int .i64 0] 72),(2,.row [.nils,.nils,.int .i64 0] 27),(1,.row (cGProp p2) 38),(0,.row (cGSession p1) 27)],4⟩) rfl (op_alloc Try.inf72 rfl rfl) rfl rfl (RS.opn (u:=.junk) (σ':=⟨[(3,.row (cGSession p1) 72),(2,.row [.nils,.nils,.int .i64 0] 27),(1,.row (cGProp p2) 38),(0,.row (cGSession p1) 27)],4⟩) rfl (op_store (sz_of Try.inf72) rfl rfl rfl rfl rfl rfl rfl rfl) rfl (RS.done ?_)))))
 repeat refine gq ?_
 repeat refine sq ?_
 refine WPU.region Try.tb_ok (RS.op (u:=.agg (cGProp p2)) rfl (ld_agg Try.und38 rfl (sz_of Try.inf38) rfl rfl rfl) rfl rfl (RS.mv rfl rfl rfl rfl (RS.op (u:=.agg [.int .i64 p2.Kind,.str p2.Name,.int .i64 p2.From,.int .i64 p2.To,.bool p3]) rfl (op_bld Try.bd57 rfl rfl rfl) rfl rfl (RS.op (u:=.ptr 4 0 0) (σ':=⟨[(4,.row [.int .i64 0,.str [],.int .i64 0,.int .i64 0,.bool false] 57),(3,.row (cGSession p1) 72),(2,.row [.nils,.nils,.int .i64 0] 27),(1,.row (cGProp p2) 38),(0,.row (cGSession p1) 27)],5⟩) rfl (op_alloc Try.inf57 rfl rfl) rfl rfl (RS.opn (u:=.junk) (σ':=⟨[(4,.row [.int .i64 p2.Kind,.str p2.Name,.int .i64 p2.From,.int .i64 p2.To,.bool p3] 57),(3,.row (cGSession p1) 72),(2,.row [.nils,.nils,.int .i64 0] 27),(1,.row (cGProp p2) 38),(0,.row (cGSession p1) 27)],5⟩) rfl (op_store (sz_of Try.inf57) rfl rfl rfl rfl rfl rfl rfl rfl) rfl (RS.done ?_))))))
 repeat refine gq ?_
 repeat refine sq ?_
 refine WPU.block ?_
 repeat refine sq ?_
 refine WPU.region Try.tb_ok (RS.op (u:=.ptr 3 0 0) rfl (op_fa Try.und72 rfl (sz_of Try.inf27) rfl rfl rfl) rfl rfl (RS.op (u:=.ptr 3 0 2) rfl (op_fa Try.und27 rfl (sz_of Try.inf3) rfl rfl rfl) rfl rfl (RS.op (u:=.int .i64 p1.State) rfl (ld_one Try.und3 rfl rfl rfl rfl) rfl rfl (RS.op rfl (op_int rfl rfl (ix_neq _ _ _) rfl) rfl rfl (RS.as rfl rfl rfl rfl (RS.done ?_))))))
 repeat refine gq ?_
 repeat refine sq ?_
 refine WPU.condS (t:=(p1.State != 0)) rfl (fun h4=>?_) (fun h4=>?_)
 replace hF:=cond_t h4 hF
 repeat refine sq ?_
 refine WPU.region Try.tb_ok (RS.op (u:=.agg (cGSession p1)) rfl (ld_agg Try.und27 rfl (sz_of Try.inf27) rfl rfl rfl) rfl rfl (RS.opn (u:=.junk) (σ':=⟨[(4,.row [.int .i64 p2.Kind,.str p2.Name,.int .i64 p2.From,.int .i64 p2.To,.bool p3] 57),(3,.row (cGSession p1) 72),(2,.row (cGSession p1) 27),(1,.row (cGProp p2) 38),(0,.row (cGSession p1) 27)],5⟩) rfl (op_store (sz_of Try.inf27) rfl rfl rfl rfl rfl rfl rfl rfl) rfl (RS.as rfl rfl rfl rfl (RS.done ?_))))
 repeat refine gq ?_
 repeat refine sq ?_
 refine WPU.ret ?_
 repeat refine gq ?_
 have hr:=Option.some.inj hF
 subst hr
 exact ⟨.inr rfl,[.agg (cGSession p1),.int .i64 15],res_c (ld_agg Try.und27 rfl (sz_of Try.inf27) rfl rfl rfl) (res_t rfl (res_n)),.tup [.agg (cGSession p1),.int .i64 15],⟨[],0⟩,Nat.le_refl _,Gh.toR (.tup [.agg (cGSession p1),.int .i64 15]) rfl,rfl,BU.h⟩
 replace hF:=cond_f h4 hF
 repeat refine sq ?_
 obtain ⟨r5,h6,hF⟩:=bindO_some hF
 obtain ⟨r7,h8,hF⟩:=bindO_some hF
 refine WPU.drawE Try.tb_ok [] (by kernel_rfl) ?_
 refine RD.look (u:=.ptr 3 0 0) rfl (op_fa Try.und72 rfl (sz_of Try.inf27) rfl rfl rfl) rfl rfl (RD.look (u:=.ptr 3 0 0) rfl (op_fa Try.und27 rfl (sz_of Try.inf22) rfl rfl rfl) rfl rfl (RD.look (u:=.isl false (List.map cGDeriv p1.Readings)) rfl (ld_one Try.und22 rfl rfl rfl rfl) rfl rfl (RD.free (u:=.isl false (List.map cGProp r5)) (args:=[.isl false (List.map cGDeriv p1.Readings)]) rfl (op_call rfl rfl Try.fn39 Try.hb39 rfl rfl) (fun s=>q04l n p1.Readings r5 h6 s) rfl rfl (RD.look (u:=.agg (cGProp p2)) rfl (ld_agg Try.und38 rfl (sz_of Try.inf38) rfl rfl rfl) rfl rfl (RD.free (u:=.bool r7) (args:=[.isl false (List.map cGProp r5),.agg (cGProp p2)]) rfl (op_call rfl rfl Try.fn43 Try.hb43 rfl rfl) (fun s=>slices_Contains_Prop_ok n r5 p2 r7 h8 s) rfl rfl (RD.look (u:=.bool (!r7)) rfl (op_un rfl rfl rfl rfl) rfl rfl (RD.as rfl rfl rfl rfl ?_)))))))
 refine RD.done ⟨by kernel_rfl,trivial,?_⟩
 repeat refine gq ?_
 repeat refine sq ?_
 refine WPU.condS (t:=(!r7)) rfl (fun h9=>?_) (fun h9=>?_)
 replace hF:=cond_t h9 hF
 repeat refine sq ?_
 refine WPU.region Try.tb_ok (RS.op (u:=.agg (cGSession p1)) rfl (ld_agg Try.und27 rfl (sz_of Try.inf27) rfl rfl rfl) rfl rfl (RS.opn (u:=.junk) (σ':=⟨[(4,.row [.int .i64 p2.Kind,.str p2.Name,.int .i64 p2.From,.int .i64 p2.To,.bool p3] 57),(3,.row (cGSession p1) 72),(2,.row (cGSession p1) 27),(1,.row (cGProp p2) 38),(0,.row (cGSession p1) 27)],5⟩) rfl (op_store (sz_of Try.inf27) rfl rfl rfl rfl rfl rfl rfl rfl) rfl (RS.as rfl rfl rfl rfl (RS.done ?_))))
 repeat refine gq ?_
 repeat refine sq ?_
 refine WPU.ret ?_
 repeat refine gq ?_
 have hr:=Option.some.inj hF
 subst hr
 exact ⟨.inr rfl,[.agg (cGSession p1),.int .i64 16],res_c (ld_agg Try.und27 rfl (sz_of Try.inf27) rfl rfl rfl) (res_t rfl (res_n)),.tup [.agg (cGSession p1),.int .i64 16],⟨[],0⟩,Nat.le_refl _,Gh.toR (.tup [.agg (cGSession p1),.int .i64 16]) rfl,rfl,BU.h⟩
 replace hF:=cond_f h9 hF
 repeat refine sq ?_
 obtain ⟨r10,h11,hF⟩:=bindO_some hF
 refine WPU.region Try.tb_ok (RS.op (u:=.agg (cGSession p1)) rfl (ld_agg Try.und72 rfl (sz_of Try.inf72) rfl rfl rfl) rfl rfl (RS.op (u:=.agg (cGProp p2)) rfl (ld_agg Try.und38 rfl (sz_of Try.inf38) rfl rfl rfl) rfl rfl (RS.call (u:=.bool r10) (args:=[.agg (cGSession p1),.agg (cGProp p2)]) rfl (op_call rfl rfl Try.fn40 Try.hb40 rfl rfl) (q02t n (Gwork.mk p1) p2 r10 h11 _) rfl rfl (RS.as rfl rfl rfl rfl (RS.done ?_)))))
 repeat refine gq ?_
 repeat refine sq ?_
 refine WPU.condS (t:=r10) rfl (fun h12=>?_) (fun h12=>?_)
 replace hF:=cond_t h12 hF
 repeat refine sq ?_
 refine WPU.region Try.tb_ok (RS.op (u:=.agg (cGSession p1)) rfl (ld_agg Try.und27 rfl (sz_of Try.inf27) rfl rfl rfl) rfl rfl (RS.opn (u:=.junk) (σ':=⟨[(4,.row [.int .i64 p2.Kind,.str p2.Name,.int .i64 p2.From,.int .i64 p2.To,.bool p3] 57),(3,.row (cGSession p1) 72),(2,.row (cGSession p1) 27),(1,.row (cGProp p2) 38),(0,.row (cGSession p1) 27)],5⟩) rfl (op_store (sz_of Try.inf27) rfl rfl rfl rfl rfl rfl rfl rfl) rfl (RS.as rfl rfl rfl rfl (RS.done ?_))))
 repeat refine gq ?_
 repeat refine sq ?_
 refine WPU.ret ?_
 repeat refine gq ?_
 have hr:=Option.some.inj hF
 subst hr
 exact ⟨.inr rfl,[.agg (cGSession p1),.int .i64 4],res_c (ld_agg Try.und27 rfl (sz_of Try.inf27) rfl rfl rfl) (res_t rfl (res_n)),.tup [.agg (cGSession p1),.int .i64 4],⟨[],0⟩,Nat.le_refl _,Gh.toR (.tup [.agg (cGSession p1),.int .i64 4]) rfl,rfl,BU.h⟩
 replace hF:=cond_f h12 hF
 repeat refine sq ?_
 obtain ⟨r13,h14,hF⟩:=bindO_some hF
 refine WPU.region Try.tb_ok (RS.op (u:=.agg (cGSession p1)) rfl (ld_agg Try.und72 rfl (sz_of Try.inf72) rfl rfl rfl) rfl rfl (RS.op (u:=.agg [.int .i64 p2.Kind,.str p2.Name,.int .i64 p2.From,.int .i64 p2.To,.bool p3]) rfl (ld_agg Try.und57 rfl (sz_of Try.inf57) rfl rfl rfl) rfl rfl (RS.op (u:=.sl 5 0 1 1) (σ':=⟨[(5,.row [.int .i64 p2.Kind,.str p2.Name,.int .i64 p2.From,.int .i64 p2.To,.bool p3] 57),(4,.row [.int .i64 p2.Kind,.str p2.Name,.int .i64 p2.From,.int .i64 p2.To,.bool p3] 57),(3,.row (cGSession p1) 72),(2,.row [.nils,.nils,.int .i64 0] 27),(1,.row (cGProp p2) 38),(0,.row (cGSession p1) 27)],6⟩) rfl (op_bsl Try.und25 Try.inf57 rfl rfl rfl rfl rfl rfl rfl) rfl rfl ?_)))
 refine RS.fcall (u:=.isl false (List.map (cI .i64) r13)) (args:=[.agg (cGSession p1),.sl 5 0 1 1]) (σ1:=⟨[(4,.row [.int .i64 p2.Kind,.str p2.Name,.int .i64 p2.From,.int .i64 p2.To,.bool p3] 57),(3,.row (cGSession p1) 72),(2,.row [.nils,.nils,.int .i64 0] 27),(1,.row (cGProp p2) 38),(0,.row (cGSession p1) 27)],6⟩) rfl (op_call rfl rfl Try.fn38 Try.hb38 rfl rfl) (Gh.fz (tm':=[.agg (cGSession p1),.isl false (List.map cGDecision ([(GDecision.mk p2 p3)]))]) (h':=[(4,.row [.int .i64 p2.Kind,.str p2.Name,.int .i64 p2.From,.int .i64 p2.To,.bool p3] 57),(3,.row (cGSession p1) 72),(2,.row [.nils,.nils,.int .i64 0] 27),(1,.row (cGProp p2) 38),(0,.row (cGSession p1) 27)]) 5 (.row [.int .i64 p2.Kind,.str p2.Name,.int .i64 p2.From,.int .i64 p2.To,.bool p3] 57) 5 rfl (by simp) (by simp only [oneU,fzL_nil,fzL_cons,fz_int,fz_bool,fz_str,fz_nils,fz_nilp,fz_nilm,fz_nilf,fz_junk,fz_isl,fz_map,fz_agg,fz_tup,fz_fn,junkT,fz_sl,fz_p0,fz_cGProp,q01k,Nat.reduceLeDiff,Nat.reduceMul,List.length_cons,List.length_nil,Nat.reduceAdd] <;> simp only [chunks,List.take,List.drop,List.map,cGDecision]) (by simp only [fzH,fzB,ug,Nat.beq,cond_true,cond_false,oneU,fzL_nil,fzL_cons,fz_int,fz_bool,fz_str,fz_nils,fz_nilp,fz_nilm,fz_nilf,fz_junk,fz_isl,fz_map,fz_agg,fz_tup,fz_fn,junkT,fz_sl,fz_p0,fz_cGProp,q01k,Nat.reduceLeDiff,Nat.reduceMul,List.length_cons,List.length_nil,Nat.reduceAdd] <;> simp only [chunks,List.take,List.drop,List.map,cGDecision])) (Nat.le_of_ble_eq_true rfl) (q01v n (Gwork.mk p1) ([(GDecision.mk p2 p3)]) r13 h14 _) rfl rfl ?_
 refine RS.op rfl (op_len rfl rfl rfl (len_isl (cI .i64) Try.und43)) rfl rfl (RS.op rfl (op_int rfl rfl (ix_eql _ _ _) rfl) rfl rfl (RS.as rfl rfl rfl rfl (RS.done ?_)))
 repeat refine gq ?_
 repeat refine sq ?_
 refine WPU.condS (t:=((r13.length : Int) == 0)) rfl (fun h15=>?_) (fun h15=>?_)
 replace hF:=cond_t h15 hF
 repeat refine sq ?_
 refine WPU.region Try.tb_ok (RS.op (u:=.agg (cGSession p1)) rfl (ld_agg Try.und27 rfl (sz_of Try.inf27) rfl rfl rfl) rfl rfl (RS.opn (u:=.junk) (σ':=⟨[(4,.row [.int .i64 p2.Kind,.str p2.Name,.int .i64 p2.From,.int .i64 p2.To,.bool p3] 57),(3,.row (cGSession p1) 72),(2,.row (cGSession p1) 27),(1,.row (cGProp p2) 38),(0,.row (cGSession p1) 27)],6⟩) rfl (op_store (sz_of Try.inf27) rfl rfl rfl rfl rfl rfl rfl rfl) rfl (RS.as rfl rfl rfl rfl (RS.done ?_))))
 repeat refine gq ?_
 repeat refine sq ?_
 refine WPU.ret ?_
 repeat refine gq ?_
 have hr:=Option.some.inj hF
 subst hr
 exact ⟨.inr rfl,[.agg (cGSession p1),.int .i64 17],res_c (ld_agg Try.und27 rfl (sz_of Try.inf27) rfl rfl rfl) (res_t rfl (res_n)),.tup [.agg (cGSession p1),.int .i64 17],⟨[],0⟩,Nat.le_refl _,Gh.toR (.tup [.agg (cGSession p1),.int .i64 17]) rfl,rfl,BU.h⟩
 replace hF:=cond_f h15 hF
 repeat refine sq ?_
 refine WPU.skip ?_
 repeat refine gq ?_
 repeat refine sq ?_
 obtain ⟨r16,h17,hF⟩:=bindO_some hF
 obtain ⟨r18,h19,hF⟩:=bindO_some hF
 obtain ⟨h20,hF⟩:=needO_some hF
 refine WPU.drawE Try.tb_ok [] (by kernel_rfl) ?_
 refine RD.look (u:=.ptr 3 0 0) rfl (op_fa Try.und72 rfl (sz_of Try.inf27) rfl rfl rfl) rfl rfl (RD.look (u:=.ptr 3 0 1) rfl (op_fa Try.und27 rfl (sz_of Try.inf25) rfl rfl rfl) rfl rfl (RD.look (u:=.isl false (List.map cGDecision p1.Decisions)) rfl (ld_one Try.und25 rfl rfl rfl rfl) rfl rfl (RD.free (u:=.isl false (List.map cGDecision r16)) (args:=[.isl false (List.map cGDecision p1.Decisions)]) rfl (op_call rfl rfl Try.fn45 Try.hb45 rfl rfl) (fun s=>q047 n p1.Decisions r16 h17 s) rfl rfl (RD.free (u:=.isl true (List.map cGDecision r18)) (args:=[.isl false (List.map cGDecision r16)]) rfl (op_call rfl rfl Try.fn44 Try.hb44 rfl rfl) (fun s=>slices_Clip_Decision_ok n r16 r18 h19 s) rfl rfl (RD.look (u:=.agg [.int .i64 p2.Kind,.str p2.Name,.int .i64 p2.From,.int .i64 p2.To,.bool p3]) rfl (ld_agg Try.und57 rfl (sz_of Try.inf57) rfl rfl rfl) rfl rfl (RD.freeO (u:=.isl false (List.map cGDecision ([(GDecision.mk p2 p3)]))) rfl (FreeO.bs (cs:=[.int .i64 p2.Kind,.str p2.Name,.int .i64 p2.From,.int .i64 p2.To,.bool p3]) Try.und25 Try.inf57 rfl rfl rfl rfl rfl rfl rfl rfl rfl) rfl rfl (RD.act (u:=.vl 6 0 0 ((r18 ++ [(GDecision.mk p2 p3)]).length)) (σ':=⟨[(6,.vec (List.map cGDecision (r18 ++ [(GDecision.mk p2 p3)])).flatten 57 5 0),(4,.row [.int .i64 p2.Kind,.str p2.Name,.int .i64 p2.From,.int .i64 p2.To,.bool p3] 57),(3,.row (cGSession p1) 72),(2,.row [.nils,.nils,.int .i64 0] 27),(1,.row (cGProp p2) 38),(0,.row (cGSession p1) 27)],7⟩) rfl (op_app rfl rfl rfl rfl (app_full cGDecision ([(GDecision.mk p2 p3)]) Try.und25 Try.und25 Try.inf57 rfl q004 (src_isl cGDecision q004) (Nat.le_of_ble_eq_true rfl) h20)) rfl rfl ?_)))))))
 refine RD.look (u:=.ptr 3 0 0) rfl (op_fa Try.und72 rfl (sz_of Try.inf27) rfl rfl rfl) rfl rfl (RD.look (u:=.ptr 3 0 1) rfl (op_fa Try.und27 rfl (sz_of Try.inf25) rfl rfl rfl) rfl rfl (RD.actn (u:=.junk) (σ':=⟨[(6,.vec (List.map cGDecision (r18 ++ [(GDecision.mk p2 p3)])).flatten 57 5 0),(4,.row [.int .i64 p2.Kind,.str p2.Name,.int .i64 p2.From,.int .i64 p2.To,.bool p3] 57),(3,.row [.isl false (List.map cGDeriv p1.Readings),.vl 6 0 0 ((r18 ++ [(GDecision.mk p2 p3)]).length),.int .i64 p1.State] 72),(2,.row [.nils,.nils,.int .i64 0] 27),(1,.row (cGProp p2) 38),(0,.row (cGSession p1) 27)],7⟩) rfl (op_store (sz_of Try.inf25) rfl rfl rfl rfl rfl rfl rfl rfl) rfl ?_))
 refine RD.done ⟨by kernel_rfl,trivial,?_⟩
 repeat refine gq ?_
 repeat refine sq ?_
 refine WPU.region Try.tb_ok (RS.op (u:=.ptr 3 0 0) rfl (op_fa Try.und72 rfl (sz_of Try.inf27) rfl rfl rfl) rfl rfl (RS.op (u:=.agg [.isl false (List.map cGDeriv p1.Readings),.vl 6 0 0 ((r18 ++ [(GDecision.mk p2 p3)]).length),.int .i64 p1.State]) rfl (ld_agg Try.und27 rfl (sz_of Try.inf27) rfl rfl rfl) rfl rfl (RS.opn (u:=.junk) (σ':=⟨[(6,.vec (List.map cGDecision (r18 ++ [(GDecision.mk p2 p3)])).flatten 57 5 0),(4,.row [.int .i64 p2.Kind,.str p2.Name,.int .i64 p2.From,.int .i64 p2.To,.bool p3] 57),(3,.row [.isl false (List.map cGDeriv p1.Readings),.vl 6 0 0 ((r18 ++ [(GDecision.mk p2 p3)]).length),.int .i64 p1.State] 72),(2,.row [.isl false (List.map cGDeriv p1.Readings),.vl 6 0 0 ((r18 ++ [(GDecision.mk p2 p3)]).length),.int .i64 p1.State] 27),(1,.row (cGProp p2) 38),(0,.row (cGSession p1) 27)],7⟩) rfl (op_store (sz_of Try.inf27) rfl rfl rfl rfl rfl rfl rfl rfl) rfl (RS.as rfl rfl rfl rfl (RS.done ?_)))))
 repeat refine gq ?_
 repeat refine sq ?_
 refine WPU.ret ?_
 repeat refine gq ?_
 have hr:=Option.some.inj hF
 subst hr
 exact ⟨.inr rfl,[.agg [.isl false (List.map cGDeriv p1.Readings),.vl 6 0 0 ((r18 ++ [(GDecision.mk p2 p3)]).length),.int .i64 p1.State],.int .i64 0],res_c (ld_agg Try.und27 rfl (sz_of Try.inf27) rfl rfl rfl) (res_t rfl (res_n)),.tup [.agg [.isl false (List.map cGDeriv p1.Readings),.isl false (List.map cGDecision (r18 ++ [(GDecision.mk p2 p3)])),.int .i64 p1.State],.int .i64 0],⟨[],0⟩,Nat.le_refl _,Gh.trans (Gh.fz (tm':=[.tup [.agg [.isl false (List.map cGDeriv p1.Readings),.isl false (List.map cGDecision (r18 ++ [(GDecision.mk p2 p3)])),.int .i64 p1.State],.int .i64 0]]) (h':=[(4,.row [.int .i64 p2.Kind,.str p2.Name,.int .i64 p2.From,.int .i64 p2.To,.bool p3] 57),(3,.row [.isl false (List.map cGDeriv p1.Readings),.isl false (List.map cGDecision (r18 ++ [(GDecision.mk p2 p3)])),.int .i64 p1.State] 72),(2,.row [.isl false (List.map cGDeriv p1.Readings),.isl false (List.map cGDecision (r18 ++ [(GDecision.mk p2 p3)])),.int .i64 p1.State] 27),(1,.row (cGProp p2) 38),(0,.row (cGSession p1) 27)]) 6 (.vec (List.map cGDecision (r18 ++ [(GDecision.mk p2 p3)])).flatten 57 5 0) 5 rfl (by simp) (by simp only [oneU,fzL_nil,fzL_cons,fz_int,fz_bool,fz_str,fz_nils,fz_nilp,fz_nilm,fz_nilf,fz_junk,fz_isl,fz_map,fz_agg,fz_tup,fz_fn,junkT,fz_vl q004,fz_cGProp,q01k]) (by simp only [fzH,fzB,ug,Nat.beq,cond_true,cond_false,oneU,fzL_nil,fzL_cons,fz_int,fz_bool,fz_str,fz_nils,fz_nilp,fz_nilm,fz_nilf,fz_junk,fz_isl,fz_map,fz_agg,fz_tup,fz_fn,junkT,fz_vl q004,fz_cGProp,q01k])) (Gh.toR (.tup [.agg [.isl false (List.map cGDeriv p1.Readings),.isl false (List.map cGDecision (r18 ++ [(GDecision.mk p2 p3)])),.int .i64 p1.State],.int .i64 0]) rfl),rfl,BU.h⟩
theorem q02k (n : Nat) (p1 : GSession) (p2 : GProp) (p3 : Bool) (r : GSession × Int) (hF : q01j n p1 p2 p3 = some r) (σ : Sg) : EvU Try.prog 16 [.agg (cGSession p1),.agg (cGProp p2),.bool p3] σ (fun u σ'=>u = .tup [.agg (cGSession r.1),.int .i64 r.2]∧σ' = σ) :=
 EvU.pure1C (annotate_Decide_0 n p1 p2 p3 r hF) σ
def q02d (n : Nat) (p1 : GSession) : Option (GSession × Int) :=
 cond (p1.State != 0)
  (some (p1,15))
  (bindO (q00h n (Gwork.mk p1) []) fun r3 =>
  cond ((r3.length : Int) != 1)
   (some (p1,17))
   (some ((GSession.mk p1.Readings p1.Decisions 1),0)))
theorem annotate_Accept_0 (n : Nat) (p1 : GSession) (r : GSession × Int) (hF : q02d n p1 = some r) : EvU Try.prog 19 [.agg (cGSession p1)] ⟨[],0⟩ (fun u _=>u = .tup [.agg (cGSession r.1),.int .i64 r.2]∧Bel 0 u):=by
 unfold q02d at hF
 refine EvU.of_body Try.tb_ok Try.fn19 rfl ?_
 refine WPU.ghost (tm':=fr 21 [(0,.agg (cGSession p1))]) (Gh.start (Nat.le_of_ble_eq_true rfl)) (Nat.zero_le _) ?_
 repeat refine sq ?_
 refine WPU.region Try.tb_ok (RS.op (u:=.ptr 0 0 0) (σ':=⟨[(0,.row (cGSession p1) 27)],1⟩) rfl (op_box rfl rfl rfl) rfl rfl (RS.op (u:=.ptr 1 0 0) (σ':=⟨[(1,.row [.nils,.nils,.int .i64 0] 27),(0,.row (cGSession p1) 27)],2⟩) rfl (op_alloc Try.inf27 rfl rfl) rfl rfl (RS.as rfl rfl rfl rfl (RS.done ?_))))
 repeat refine gq ?_
 repeat refine sq ?_
 refine WPU.region Try.tb_ok (RS.op (u:=.agg (cGSession p1)) rfl (ld_agg Try.und27 rfl (sz_of Try.inf27) rfl rfl rfl) rfl rfl (RS.op (u:=.agg (cGSession p1)) rfl (op_bld Try.bd72 rfl rfl rfl) rfl rfl (RS.op (u:=.ptr 2 0 0) (σ':=⟨[(2,.row [.nils,.nils,.int .i64 0] 72),(1,.row [.nils,.nils,.int .i64 0] 27),(0,.row (cGSession p1) 27)],3⟩) rfl (op_alloc Try.inf72 rfl rfl) rfl rfl (RS.opn (u:=.junk) (σ':=⟨[(2,.row (cGSession p1) 72),(1,.row [.nils,.nils,.int .i64 0] 27),(0,.row (cGSession p1) 27)],3⟩) rfl (op_store (sz_of Try.inf72) rfl rfl rfl rfl rfl rfl rfl rfl) rfl (RS.done ?_)))))
 repeat refine gq ?_
 repeat refine sq ?_
 refine WPU.region Try.tb_ok (RS.op (u:=.ptr 2 0 0) rfl (op_fa Try.und72 rfl (sz_of Try.inf27) rfl rfl rfl) rfl rfl (RS.op (u:=.ptr 2 0 2) rfl (op_fa Try.und27 rfl (sz_of Try.inf3) rfl rfl rfl) rfl rfl (RS.op (u:=.int .i64 p1.State) rfl (ld_one Try.und3 rfl rfl rfl rfl) rfl rfl (RS.op rfl (op_int rfl rfl (ix_neq _ _ _) rfl) rfl rfl (RS.done ?_)))))
 repeat refine gq ?_
 repeat refine sq ?_
 refine WPU.condS (t:=(p1.State != 0)) rfl (fun h2=>?_) (fun h2=>?_)
 replace hF:=cond_t h2 hF
 repeat refine sq ?_
 refine WPU.region Try.tb_ok (RS.op (u:=.agg (cGSession p1)) rfl (ld_agg Try.und27 rfl (sz_of Try.inf27) rfl rfl rfl) rfl rfl (RS.opn (u:=.junk) (σ':=⟨[(2,.row (cGSession p1) 72),(1,.row (cGSession p1) 27),(0,.row (cGSession p1) 27)],3⟩) rfl (op_store (sz_of Try.inf27) rfl rfl rfl rfl rfl rfl rfl rfl) rfl (RS.as rfl rfl rfl rfl (RS.done ?_))))
 repeat refine gq ?_
 repeat refine sq ?_
 refine WPU.ret ?_
 repeat refine gq ?_
 have hr:=Option.some.inj hF
 subst hr
 exact ⟨.inr rfl,[.agg (cGSession p1),.int .i64 15],res_c (ld_agg Try.und27 rfl (sz_of Try.inf27) rfl rfl rfl) (res_t rfl (res_n)),.tup [.agg (cGSession p1),.int .i64 15],⟨[],0⟩,Nat.le_refl _,Gh.toR (.tup [.agg (cGSession p1),.int .i64 15]) rfl,rfl,BU.h⟩
 replace hF:=cond_f h2 hF
 repeat refine sq ?_
 refine WPU.skip ?_
 repeat refine gq ?_
 repeat refine sq ?_
 obtain ⟨r3,h4,hF⟩:=bindO_some hF
 refine WPU.region Try.tb_ok (RS.op (u:=.agg (cGSession p1)) rfl (ld_agg Try.und72 rfl (sz_of Try.inf72) rfl rfl rfl) rfl rfl (RS.call (u:=.isl false (List.map (cI .i64) r3)) (args:=[.agg (cGSession p1),.nils]) rfl (op_call rfl rfl Try.fn38 Try.hb38 rfl rfl) (EvU.wkA (args':=[.agg (cGSession p1),.isl false []]) (.cons (.refl _) (.cons (.nil false) .nil)) (fun s=>q01v n (Gwork.mk p1) [] r3 h4 s) _) rfl rfl (RS.op rfl (op_len rfl rfl rfl (len_isl (cI .i64) Try.und43)) rfl rfl (RS.op rfl (op_int rfl rfl (ix_neq _ _ _) rfl) rfl rfl (RS.done ?_)))))
 repeat refine gq ?_
 repeat refine sq ?_
 refine WPU.condS (t:=((r3.length : Int) != 1)) rfl (fun h5=>?_) (fun h5=>?_)
 replace hF:=cond_t h5 hF
 repeat refine sq ?_
 refine WPU.region Try.tb_ok (RS.op (u:=.agg (cGSession p1)) rfl (ld_agg Try.und27 rfl (sz_of Try.inf27) rfl rfl rfl) rfl rfl (RS.opn (u:=.junk) (σ':=⟨[(2,.row (cGSession p1) 72),(1,.row (cGSession p1) 27),(0,.row (cGSession p1) 27)],3⟩) rfl (op_store (sz_of Try.inf27) rfl rfl rfl rfl rfl rfl rfl rfl) rfl (RS.as rfl rfl rfl rfl (RS.done ?_))))
 repeat refine gq ?_
 repeat refine sq ?_
 refine WPU.ret ?_
 repeat refine gq ?_
 have hr:=Option.some.inj hF
 subst hr
 exact ⟨.inr rfl,[.agg (cGSession p1),.int .i64 17],res_c (ld_agg Try.und27 rfl (sz_of Try.inf27) rfl rfl rfl) (res_t rfl (res_n)),.tup [.agg (cGSession p1),.int .i64 17],⟨[],0⟩,Nat.le_refl _,Gh.toR (.tup [.agg (cGSession p1),.int .i64 17]) rfl,rfl,BU.h⟩
 replace hF:=cond_f h5 hF
 repeat refine sq ?_
 refine WPU.skip ?_
 repeat refine gq ?_
 repeat refine sq ?_
 refine WPU.region Try.tb_ok (RS.op (u:=.ptr 2 0 0) rfl (op_fa Try.und72 rfl (sz_of Try.inf27) rfl rfl rfl) rfl rfl (RS.op (u:=.ptr 2 0 2) rfl (op_fa Try.und27 rfl (sz_of Try.inf3) rfl rfl rfl) rfl rfl (RS.opn (u:=.junk) (σ':=⟨[(2,.row [.isl false (List.map cGDeriv p1.Readings),.isl false (List.map cGDecision p1.Decisions),.int .i64 1] 72),(1,.row [.nils,.nils,.int .i64 0] 27),(0,.row (cGSession p1) 27)],3⟩) rfl (op_store (sz_of Try.inf3) rfl rfl rfl rfl rfl rfl rfl rfl) rfl (RS.done ?_))))
 repeat refine gq ?_
 repeat refine sq ?_
 refine WPU.region Try.tb_ok (RS.op (u:=.ptr 2 0 0) rfl (op_fa Try.und72 rfl (sz_of Try.inf27) rfl rfl rfl) rfl rfl (RS.op (u:=.agg [.isl false (List.map cGDeriv p1.Readings),.isl false (List.map cGDecision p1.Decisions),.int .i64 1]) rfl (ld_agg Try.und27 rfl (sz_of Try.inf27) rfl rfl rfl) rfl rfl (RS.opn (u:=.junk) (σ':=⟨[(2,.row [.isl false (List.map cGDeriv p1.Readings),.isl false (List.map cGDecision p1.Decisions),.int .i64 1] 72),(1,.row [.isl false (List.map cGDeriv p1.Readings),.isl false (List.map cGDecision p1.Decisions),.int .i64 1] 27),(0,.row (cGSession p1) 27)],3⟩) rfl (op_store (sz_of Try.inf27) rfl rfl rfl rfl rfl rfl rfl rfl) rfl (RS.as rfl rfl rfl rfl (RS.done ?_)))))
 repeat refine gq ?_
 repeat refine sq ?_
 refine WPU.ret ?_
 repeat refine gq ?_
 have hr:=Option.some.inj hF
 subst hr
 exact ⟨.inr rfl,[.agg [.isl false (List.map cGDeriv p1.Readings),.isl false (List.map cGDecision p1.Decisions),.int .i64 1],.int .i64 0],res_c (ld_agg Try.und27 rfl (sz_of Try.inf27) rfl rfl rfl) (res_t rfl (res_n)),.tup [.agg [.isl false (List.map cGDeriv p1.Readings),.isl false (List.map cGDecision p1.Decisions),.int .i64 1],.int .i64 0],⟨[],0⟩,Nat.le_refl _,Gh.toR (.tup [.agg [.isl false (List.map cGDeriv p1.Readings),.isl false (List.map cGDecision p1.Decisions),.int .i64 1],.int .i64 0]) rfl,rfl,BU.h⟩
theorem annotate_Accept_ok (n : Nat) (p1 : GSession) (r : GSession × Int) (hF : q02d n p1 = some r) (σ : Sg) : EvU Try.prog 19 [.agg (cGSession p1)] σ (fun u σ'=>u = .tup [.agg (cGSession r.1),.int .i64 r.2]∧σ' = σ) :=
 EvU.pure1C (annotate_Accept_0 n p1 r hF) σ
def q03z (n : Nat) (p1 : GSession) (p2 : GStep) : Option (GSession × Int) :=
 cond ((p2.Op.tmod 6) == 0)
  (bindO (q01j n p1 p2.Propx p2.Yes) fun r5 =>
  some ((GSession.mk r5.1.Readings r5.1.Decisions r5.1.State),r5.2))
  (cond ((p2.Op.tmod 6) == 1)
   (bindO (q03y n p1) fun r8 =>
   some ((GSession.mk r8.1.Readings r8.1.Decisions r8.1.State),r8.2))
   (cond ((p2.Op.tmod 6) == 2)
    (bindO (q02d n p1) fun r11 =>
    some ((GSession.mk r11.1.Readings r11.1.Decisions r11.1.State),r11.2))
    (cond ((p2.Op.tmod 6) == 3)
     (bindO (q02y n p1) fun r14 =>
     some ((GSession.mk r14.1.Readings r14.1.Decisions r14.1.State),r14.2))
     (bindO (q01z n p1) fun r16 =>
     bindO (q01j n p1 (GProp.mk r16.1.Kind r16.1.Name r16.1.From r16.1.To) p2.Yes) fun r18 =>
     some ((GSession.mk r18.1.Readings r18.1.Decisions r18.1.State),r18.2)))))
theorem law46_perform_0 (n : Nat) (p1 : GSession) (p2 : GStep) (r : GSession × Int) (hF : q03z n p1 p2 = some r) : EvU Try.prog 21 [.agg (cGSession p1),.agg (cGStep p2)] ⟨[],0⟩ (fun u _=>u = .tup [.agg (cGSession r.1),.int .i64 r.2]∧Bel 0 u):=by
 unfold q03z at hF
 refine EvU.of_body Try.tb_ok Try.fn21 rfl ?_
 refine WPU.ghost (tm':=fr 51 [(0,.agg (cGSession p1)),(1,.agg (cGStep p2))]) (Gh.start (Nat.le_of_ble_eq_true rfl)) (Nat.zero_le _) ?_
 repeat refine sq ?_
 refine WPU.region Try.tb_ok (RS.op (u:=.ptr 0 0 0) (σ':=⟨[(0,.row (cGSession p1) 27)],1⟩) rfl (op_box rfl rfl rfl) rfl rfl (RS.op (u:=.ptr 1 0 0) (σ':=⟨[(1,.row (cGStep p2) 49),(0,.row (cGSession p1) 27)],2⟩) rfl (op_box rfl rfl rfl) rfl rfl (RS.op (u:=.ptr 2 0 0) (σ':=⟨[(2,.row [.nils,.nils,.int .i64 0] 27),(1,.row (cGStep p2) 49),(0,.row (cGSession p1) 27)],3⟩) rfl (op_alloc Try.inf27 rfl rfl) rfl rfl (RS.as rfl rfl rfl rfl (RS.done ?_)))))
 repeat refine gq ?_
 repeat refine sq ?_
 refine WPU.region Try.tb_ok (RS.op (u:=.ptr 1 0 0) rfl (op_fa Try.und49 rfl (sz_of Try.inf5) rfl rfl rfl) rfl rfl (RS.op (u:=.int .u8 p2.Op) rfl (ld_one Try.und5 rfl rfl rfl rfl) rfl rfl ?_))
 refine RS.op rfl (op_int rfl rfl (ix_rem _ (by decide)) rfl) rfl rfl ?_
 refine RS.done ?_
 repeat refine gq ?_
 repeat refine sq ?_
 refine WPU.block ?_
 repeat refine sq ?_
 refine WPU.region Try.tb_ok (RS.op rfl (op_int rfl rfl (ix_eql _ _ _) rfl) rfl rfl (RS.as rfl rfl rfl rfl (RS.done ?_)))
 repeat refine gq ?_
 repeat refine sq ?_
 refine WPU.condS (t:=((p2.Op.tmod 6) == 0)) rfl (fun h4=>?_) (fun h4=>?_)
 replace hF:=cond_t h4 hF
 repeat refine sq ?_
 obtain ⟨r5,h6,hF⟩:=bindO_some hF
 refine WPU.region Try.tb_ok (RS.op (u:=.agg (cGSession p1)) rfl (ld_agg Try.und27 rfl (sz_of Try.inf27) rfl rfl rfl) rfl rfl (RS.op (u:=.ptr 1 0 1) rfl (op_fa Try.und49 rfl (sz_of Try.inf38) rfl rfl rfl) rfl rfl (RS.op (u:=.agg (cGProp p2.Propx)) rfl (ld_agg Try.und38 rfl (sz_of Try.inf38) rfl rfl rfl) rfl rfl (RS.op (u:=.ptr 1 0 5) rfl (op_fa Try.und49 rfl (sz_of Try.inf4) rfl rfl rfl) rfl rfl (RS.op (u:=.bool p2.Yes) rfl (ld_one Try.und4 rfl rfl rfl rfl) rfl rfl (RS.call (u:=.tup [.agg (cGSession r5.1),.int .i64 r5.2]) (args:=[.agg (cGSession p1),.agg (cGProp p2.Propx),.bool p2.Yes]) rfl (op_call rfl rfl Try.fn16 Try.hb16 rfl rfl) (q02k n p1 p2.Propx p2.Yes r5 h6 _) rfl rfl (RS.op rfl (op_ext rfl rfl) rfl rfl ?_)))))))
 refine RS.op rfl (op_ext rfl rfl) rfl rfl (RS.opn (u:=.junk) (σ':=⟨[(2,.row (cGSession r5.1) 27),(1,.row (cGStep p2) 49),(0,.row (cGSession p1) 27)],3⟩) rfl (op_store (sz_of Try.inf27) rfl rfl rfl rfl rfl rfl rfl rfl) rfl (RS.as rfl rfl rfl rfl (RS.done ?_)))
 repeat refine gq ?_
 repeat refine sq ?_
 refine WPU.ret ?_
 repeat refine gq ?_
 have hr:=Option.some.inj hF
 subst hr
 exact ⟨.inr rfl,[.agg (cGSession r5.1),.int .i64 r5.2],res_c (ld_agg Try.und27 rfl (sz_of Try.inf27) rfl rfl rfl) (res_t rfl (res_n)),.tup [.agg (cGSession r5.1),.int .i64 r5.2],⟨[],0⟩,Nat.le_refl _,Gh.toR (.tup [.agg (cGSession r5.1),.int .i64 r5.2]) rfl,rfl,BU.h⟩
 replace hF:=cond_f h4 hF
 repeat refine sq ?_
 refine WPU.region Try.tb_ok (RS.op rfl (op_int rfl rfl (ix_eql _ _ _) rfl) rfl rfl (RS.as rfl rfl rfl rfl (RS.done ?_)))
 repeat refine gq ?_
 repeat refine sq ?_
 refine WPU.condS (t:=((p2.Op.tmod 6) == 1)) rfl (fun h7=>?_) (fun h7=>?_)
 replace hF:=cond_t h7 hF
 repeat refine sq ?_
 obtain ⟨r8,h9,hF⟩:=bindO_some hF
 refine WPU.region Try.tb_ok (RS.op (u:=.agg (cGSession p1)) rfl (ld_agg Try.und27 rfl (sz_of Try.inf27) rfl rfl rfl) rfl rfl (RS.call (u:=.tup [.agg (cGSession r8.1),.int .i64 r8.2]) (args:=[.agg (cGSession p1)]) rfl (op_call rfl rfl Try.fn22 Try.hb22 rfl rfl) (annotate_Undo_ok n p1 r8 h9 _) rfl rfl (RS.op rfl (op_ext rfl rfl) rfl rfl (RS.op rfl (op_ext rfl rfl) rfl rfl (RS.opn (u:=.junk) (σ':=⟨[(2,.row (cGSession r8.1) 27),(1,.row (cGStep p2) 49),(0,.row (cGSession p1) 27)],3⟩) rfl (op_store (sz_of Try.inf27) rfl rfl rfl rfl rfl rfl rfl rfl) rfl (RS.as rfl rfl rfl rfl (RS.done ?_)))))))
 repeat refine gq ?_
 repeat refine sq ?_
 refine WPU.ret ?_
 repeat refine gq ?_
 have hr:=Option.some.inj hF
 subst hr
 exact ⟨.inr rfl,[.agg (cGSession r8.1),.int .i64 r8.2],res_c (ld_agg Try.und27 rfl (sz_of Try.inf27) rfl rfl rfl) (res_t rfl (res_n)),.tup [.agg (cGSession r8.1),.int .i64 r8.2],⟨[],0⟩,Nat.le_refl _,Gh.toR (.tup [.agg (cGSession r8.1),.int .i64 r8.2]) rfl,rfl,BU.h⟩
 replace hF:=cond_f h7 hF
 repeat refine sq ?_
 refine WPU.region Try.tb_ok (RS.op rfl (op_int rfl rfl (ix_eql _ _ _) rfl) rfl rfl (RS.as rfl rfl rfl rfl (RS.done ?_)))
 repeat refine gq ?_
 repeat refine sq ?_
 refine WPU.condS (t:=((p2.Op.tmod 6) == 2)) rfl (fun h10=>?_) (fun h10=>?_)
 replace hF:=cond_t h10 hF
 repeat refine sq ?_
 obtain ⟨r11,h12,hF⟩:=bindO_some hF
 refine WPU.region Try.tb_ok (RS.op (u:=.agg (cGSession p1)) rfl (ld_agg Try.und27 rfl (sz_of Try.inf27) rfl rfl rfl) rfl rfl (RS.call (u:=.tup [.agg (cGSession r11.1),.int .i64 r11.2]) (args:=[.agg (cGSession p1)]) rfl (op_call rfl rfl Try.fn19 Try.hb19 rfl rfl) (annotate_Accept_ok n p1 r11 h12 _) rfl rfl (RS.op rfl (op_ext rfl rfl) rfl rfl (RS.op rfl (op_ext rfl rfl) rfl rfl (RS.opn (u:=.junk) (σ':=⟨[(2,.row (cGSession r11.1) 27),(1,.row (cGStep p2) 49),(0,.row (cGSession p1) 27)],3⟩) rfl (op_store (sz_of Try.inf27) rfl rfl rfl rfl rfl rfl rfl rfl) rfl (RS.as rfl rfl rfl rfl (RS.done ?_)))))))
 repeat refine gq ?_
 repeat refine sq ?_
 refine WPU.ret ?_
 repeat refine gq ?_
 have hr:=Option.some.inj hF
 subst hr
 exact ⟨.inr rfl,[.agg (cGSession r11.1),.int .i64 r11.2],res_c (ld_agg Try.und27 rfl (sz_of Try.inf27) rfl rfl rfl) (res_t rfl (res_n)),.tup [.agg (cGSession r11.1),.int .i64 r11.2],⟨[],0⟩,Nat.le_refl _,Gh.toR (.tup [.agg (cGSession r11.1),.int .i64 r11.2]) rfl,rfl,BU.h⟩
 replace hF:=cond_f h10 hF
 repeat refine sq ?_
 refine WPU.region Try.tb_ok (RS.op rfl (op_int rfl rfl (ix_eql _ _ _) rfl) rfl rfl (RS.as rfl rfl rfl rfl (RS.done ?_)))
 repeat refine gq ?_
 repeat refine sq ?_
 refine WPU.condS (t:=((p2.Op.tmod 6) == 3)) rfl (fun h13=>?_) (fun h13=>?_)
 replace hF:=cond_t h13 hF
 repeat refine sq ?_
 obtain ⟨r14,h15,hF⟩:=bindO_some hF
 refine WPU.region Try.tb_ok (RS.op (u:=.agg (cGSession p1)) rfl (ld_agg Try.und27 rfl (sz_of Try.inf27) rfl rfl rfl) rfl rfl (RS.call (u:=.tup [.agg (cGSession r14.1),.int .i64 r14.2]) (args:=[.agg (cGSession p1)]) rfl (op_call rfl rfl Try.fn49 Try.hb49 rfl rfl) (annotate_Reject_ok n p1 r14 h15 _) rfl rfl (RS.op rfl (op_ext rfl rfl) rfl rfl (RS.op rfl (op_ext rfl rfl) rfl rfl (RS.opn (u:=.junk) (σ':=⟨[(2,.row (cGSession r14.1) 27),(1,.row (cGStep p2) 49),(0,.row (cGSession p1) 27)],3⟩) rfl (op_store (sz_of Try.inf27) rfl rfl rfl rfl rfl rfl rfl rfl) rfl (RS.as rfl rfl rfl rfl (RS.done ?_)))))))
 repeat refine gq ?_
 repeat refine sq ?_
 refine WPU.ret ?_
 repeat refine gq ?_
 have hr:=Option.some.inj hF
 subst hr
 exact ⟨.inr rfl,[.agg (cGSession r14.1),.int .i64 r14.2],res_c (ld_agg Try.und27 rfl (sz_of Try.inf27) rfl rfl rfl) (res_t rfl (res_n)),.tup [.agg (cGSession r14.1),.int .i64 r14.2],⟨[],0⟩,Nat.le_refl _,Gh.toR (.tup [.agg (cGSession r14.1),.int .i64 r14.2]) rfl,rfl,BU.h⟩
 replace hF:=cond_f h13 hF
 repeat refine sq ?_
 refine WPU.skip ?_
 repeat refine gq ?_
 repeat refine sq ?_
 obtain ⟨r16,h17,hF⟩:=bindO_some hF
 refine WPU.region Try.tb_ok (RS.op (u:=.agg (cGSession p1)) rfl (ld_agg Try.und27 rfl (sz_of Try.inf27) rfl rfl rfl) rfl rfl (RS.call (u:=.tup [.agg (cGProp r16.1),.bool r16.2]) (args:=[.agg (cGSession p1)]) rfl (op_call rfl rfl Try.fn15 Try.hb15 rfl rfl) (q044 n p1 r16 h17 _) rfl rfl (RS.mv rfl rfl rfl rfl (RS.op rfl (op_ext rfl rfl) rfl rfl (RS.op rfl (op_ext rfl rfl) rfl rfl (RS.op (u:=.ptr 3 0 0) (σ':=⟨[(3,.row [.int .i64 0,.str [],.int .i64 0,.int .i64 0] 38),(2,.row [.nils,.nils,.int .i64 0] 27),(1,.row (cGStep p2) 49),(0,.row (cGSession p1) 27)],4⟩) rfl (op_alloc Try.inf38 rfl rfl) rfl rfl (RS.opn (u:=.junk) (σ':=⟨[(3,.row (cGProp r16.1) 38),(2,.row [.nils,.nils,.int .i64 0] 27),(1,.row (cGStep p2) 49),(0,.row (cGSession p1) 27)],4⟩) rfl (op_store (sz_of Try.inf38) rfl rfl rfl rfl rfl rfl rfl rfl) rfl ?_)))))))
 refine RS.as rfl rfl rfl rfl (RS.done ?_)
 repeat refine gq ?_
 repeat refine sq ?_
 obtain ⟨r18,h19,hF⟩:=bindO_some hF
 refine WPU.region Try.tb_ok (RS.op (u:=.agg (cGSession p1)) rfl (ld_agg Try.und27 rfl (sz_of Try.inf27) rfl rfl rfl) rfl rfl (RS.op (u:=.agg (cGProp r16.1)) rfl (ld_agg Try.und38 rfl (sz_of Try.inf38) rfl rfl rfl) rfl rfl (RS.op (u:=.ptr 1 0 5) rfl (op_fa Try.und49 rfl (sz_of Try.inf4) rfl rfl rfl) rfl rfl (RS.op (u:=.bool p2.Yes) rfl (ld_one Try.und4 rfl rfl rfl rfl) rfl rfl (RS.call (u:=.tup [.agg (cGSession r18.1),.int .i64 r18.2]) (args:=[.agg (cGSession p1),.agg (cGProp r16.1),.bool p2.Yes]) rfl (op_call rfl rfl Try.fn16 Try.hb16 rfl rfl) (q02k n p1 (GProp.mk r16.1.Kind r16.1.Name r16.1.From r16.1.To) p2.Yes r18 h19 _) rfl rfl (RS.op rfl (op_ext rfl rfl) rfl rfl (RS.op rfl (op_ext rfl rfl) rfl rfl ?_)))))))
 refine RS.opn (u:=.junk) (σ':=⟨[(3,.row (cGProp r16.1) 38),(2,.row (cGSession r18.1) 27),(1,.row (cGStep p2) 49),(0,.row (cGSession p1) 27)],4⟩) rfl (op_store (sz_of Try.inf27) rfl rfl rfl rfl rfl rfl rfl rfl) rfl (RS.as rfl rfl rfl rfl (RS.done ?_))
 repeat refine gq ?_
 repeat refine sq ?_
 refine WPU.ret ?_
 repeat refine gq ?_
 have hr:=Option.some.inj hF
 subst hr
 exact ⟨.inr rfl,[.agg (cGSession r18.1),.int .i64 r18.2],res_c (ld_agg Try.und27 rfl (sz_of Try.inf27) rfl rfl rfl) (res_t rfl (res_n)),.tup [.agg (cGSession r18.1),.int .i64 r18.2],⟨[],0⟩,Nat.le_refl _,Gh.toR (.tup [.agg (cGSession r18.1),.int .i64 r18.2]) rfl,rfl,BU.h⟩
theorem law46_perform_ok (n : Nat) (p1 : GSession) (p2 : GStep) (r : GSession × Int) (hF : q03z n p1 p2 = some r) (σ : Sg) : EvU Try.prog 21 [.agg (cGSession p1),.agg (cGStep p2)] σ (fun u σ'=>u = .tup [.agg (cGSession r.1),.int .i64 r.2]∧σ' = σ) :=
 EvU.pure1C (law46_perform_0 n p1 p2 r hF) σ
def q02r (n : Nat) (p1 : List GDeriv) : Option (GSession × Int) :=
 cond ((p1.length : Int) == 0)
  (some ((GSession.mk [] [] 0),1))
  (bindO (q02h n p1) fun r3 =>
  needO (r3.length < 4611686018427387904∧okBs r3 = true) (
  bindO (q00l (q03a n) n (srtD r3)) fun r7 =>
  some ((GSession.mk r7 [] 0),0)))
theorem annotate_New_0 (n : Nat) (p1 : List GDeriv) (r : GSession × Int) (hF : q02r n p1 = some r) : EvU Try.prog 10 [.isl false (List.map cGDeriv p1)] ⟨[],0⟩ (fun u _=>u = .tup [.agg (cGSession r.1),.int .i64 r.2]∧Bel 0 u):=by
 unfold q02r at hF
 refine EvU.of_body Try.tb_ok Try.fn10 rfl ?_
 refine WPU.ghost (tm':=fr 17 [(0,.isl false (List.map cGDeriv p1))]) (Gh.start (Nat.le_of_ble_eq_true rfl)) (Nat.zero_le _) ?_
 repeat refine sq ?_
 refine WPU.region Try.tb_ok (RS.op (u:=.ptr 0 0 0) (σ':=⟨[(0,.row [.nils,.nils,.int .i64 0] 27)],1⟩) rfl (op_alloc Try.inf27 rfl rfl) rfl rfl (RS.as rfl rfl rfl rfl (RS.done ?_)))
 repeat refine gq ?_
 repeat refine sq ?_
 refine WPU.region Try.tb_ok (RS.mv rfl rfl rfl rfl (RS.op rfl (op_len rfl rfl rfl (len_isl cGDeriv Try.und22)) rfl rfl (RS.op rfl (op_int rfl rfl (ix_eql _ _ _) rfl) rfl rfl (RS.done ?_))))
 repeat refine gq ?_
 repeat refine sq ?_
 refine WPU.condS (t:=((p1.length : Int) == 0)) rfl (fun h2=>?_) (fun h2=>?_)
 replace hF:=cond_t h2 hF
 repeat refine sq ?_
 refine WPU.region Try.tb_ok (RS.op (u:=.agg [.nils,.nils,.int .i64 0]) rfl (op_bld Try.bd27 rfl rfl rfl) rfl rfl (RS.opn (u:=.junk) (σ':=⟨[(0,.row [.nils,.nils,.int .i64 0] 27)],1⟩) rfl (op_store (sz_of Try.inf27) rfl rfl rfl rfl rfl rfl rfl rfl) rfl (RS.as rfl rfl rfl rfl (RS.done ?_))))
 repeat refine gq ?_
 repeat refine sq ?_
 refine WPU.ret ?_
 repeat refine gq ?_
 have hr:=Option.some.inj hF
 subst hr
 exact ⟨.inr rfl,[.agg [.nils,.nils,.int .i64 0],.int .i64 1],res_c (ld_agg Try.und27 rfl (sz_of Try.inf27) rfl rfl rfl) (res_t rfl (res_n)),.tup [.agg [.isl false [],.isl false [],.int .i64 0],.int .i64 1],⟨[],0⟩,Nat.le_refl _,Gh.trans (Gh.wk (.cons (.tup (.cons (.agg (.cons (.nil false) (.cons (.nil false) (.cons (.refl _) .nil)))) (.cons (.refl _) .nil))) .nil)) (Gh.toR (.tup [.agg [.isl false [],.isl false [],.int .i64 0],.int .i64 1]) rfl),rfl,BU.h⟩
 replace hF:=cond_f h2 hF
 repeat refine sq ?_
 refine WPU.skip ?_
 repeat refine gq ?_
 repeat refine sq ?_
 obtain ⟨r3,h4,hF⟩:=bindO_some hF
 refine WPU.region Try.tb_ok (RS.mv rfl rfl rfl rfl ?_)
 refine RS.callx (R:=fun u σ'=>∃ t5,u = .vl 2 t5 0 r3.length∧σ' = ⟨[(2,.vec (List.map cGDeriv r3).flatten 36 5 t5),(0,.row [.nils,.nils,.int .i64 0] 27)],3⟩) (args:=[.isl false (List.map cGDeriv p1)]) rfl (op_call rfl rfl Try.fn25 Try.hb25 rfl rfl) (EvU.own1 cGDeriv (slices_Clone_Deriv_0 n p1 r3 h4) _ 2 rfl) rfl rfl ?_
 rintro _ _ ⟨t5,rfl,rfl⟩
 refine RS.as rfl rfl rfl rfl (RS.done ?_)
 repeat refine gq ?_
 repeat refine sq ?_
 obtain ⟨h6,hF⟩:=needO_some hF
 refine WPU.joinK (fun tm σ=>tm = fr 17 [(2,.ptr 0 0 0),(4,.vl 2 t5 0 ((srtD r3).length))]∧σ = ⟨[(2,.vec (List.map cGDeriv (srtD r3)).flatten 36 5 t5),(0,.row [.nils,.nils,.int .i64 0] 27)],3⟩) ?_ ?_
 rintro _ _ ⟨rfl,rfl⟩
 repeat refine gq ?_
 repeat refine sq ?_
 obtain ⟨r7,h8,hF⟩:=bindO_some hF
 refine WPU.region Try.tb_ok (RS.mv rfl rfl rfl rfl (RS.callx (args:=[.vl 2 t5 0 ((srtD r3).length),.fn (.func 29) [] []]) rfl (op_call rfl rfl Try.fn28 Try.hb28 rfl rfl) (q04d (q03a n) (annotate_New_1_0 n) n (srtD r3) r7 h8 _ rfl rfl) rfl rfl ?_))
 rintro _ _ ⟨t9,rfl,rfl⟩
 refine RS.as rfl rfl rfl rfl (RS.done ?_)
 repeat refine gq ?_
 repeat refine sq ?_
 refine WPU.region Try.tb_ok (RS.mv rfl rfl rfl rfl (RS.op (u:=.agg [.vl 2 t9 0 r7.length,.nils,.int .i64 0]) rfl (op_bld Try.bd27 rfl rfl rfl) rfl rfl (RS.opn (u:=.junk) (σ':=⟨[(2,.vec (List.map cGDeriv r7).flatten 36 5 t9),(0,.row [.vl 2 t9 0 r7.length,.nils,.int .i64 0] 27)],3⟩) rfl (op_store (sz_of Try.inf27) rfl rfl rfl rfl rfl rfl rfl rfl) rfl (RS.as rfl rfl rfl rfl (RS.done ?_)))))
 repeat refine gq ?_
 repeat refine sq ?_
 refine WPU.ret ?_
 repeat refine gq ?_
 have hr:=Option.some.inj hF
 subst hr
 exact ⟨.inr rfl,[.agg [.vl 2 t9 0 r7.length,.nils,.int .i64 0],.int .i64 0],res_c (ld_agg Try.und27 rfl (sz_of Try.inf27) rfl rfl rfl) (res_t rfl (res_n)),.tup [.agg [.isl false (List.map cGDeriv r7),.isl false [],.int .i64 0],.int .i64 0],⟨[],0⟩,Nat.le_refl _,Gh.trans (Gh.fz (tm':=[.tup [.agg [.isl false (List.map cGDeriv r7),.nils,.int .i64 0],.int .i64 0]]) (h':=[(0,.row [.isl false (List.map cGDeriv r7),.nils,.int .i64 0] 27)]) 2 (.vec (List.map cGDeriv r7).flatten 36 5 t9) 5 rfl (by simp) (by simp only [oneU,fzL_nil,fzL_cons,fz_int,fz_bool,fz_str,fz_nils,fz_nilp,fz_nilm,fz_nilf,fz_junk,fz_isl,fz_map,fz_agg,fz_tup,fz_fn,junkT,fz_vl len_cGDeriv]) (by simp only [fzH,fzB,ug,Nat.beq,cond_true,cond_false,oneU,fzL_nil,fzL_cons,fz_int,fz_bool,fz_str,fz_nils,fz_nilp,fz_nilm,fz_nilf,fz_junk,fz_isl,fz_map,fz_agg,fz_tup,fz_fn,junkT,fz_vl len_cGDeriv])) (Gh.trans (Gh.wk (.cons (.tup (.cons (.agg (.cons (.refl _) (.cons (.nil false) (.cons (.refl _) .nil)))) (.cons (.refl _) .nil))) .nil)) (Gh.toR (.tup [.agg [.isl false (List.map cGDeriv r7),.isl false [],.int .i64 0],.int .i64 0]) rfl)),rfl,BU.h⟩
 refine WPU.region Try.tb_ok (RS.mv rfl rfl rfl rfl (RS.callx (args:=[.vl 2 t5 0 r3.length,.fn (.func 27) [] []]) rfl (op_call rfl rfl Try.fn26 Try.hb26 rfl rfl) (srtD_ok r3 h6 _ rfl rfl) rfl rfl ?_))
 rintro _ _ ⟨rfl,rfl⟩
 refine RS.done ?_
 repeat refine gq ?_
 exact ⟨_,_,⟨rfl,rfl⟩,(Nat.zero_le _),Gh.eqS ⟨rfl,(by simp only [srtD_len r3]; rfl),trivial⟩ rfl⟩
theorem q04h (n : Nat) (p1 : List GDeriv) (r : GSession × Int) (hF : q02r n p1 = some r) (σ : Sg) : EvU Try.prog 10 [.isl false (List.map cGDeriv p1)] σ (fun u σ'=>u = .tup [.agg (cGSession r.1),.int .i64 r.2]∧σ' = σ) :=
 EvU.pure1C (annotate_New_0 n p1 r hF) σ
def q03v (r3 : GSession × Int) (l17 : List GDeriv) (l18 : List GDecision) (z19 : Int) : Option (GSession × Bool) :=
 some ((GSession.mk l17 l18 z19),(r3.2 == 0))
def q03x (p2 : List GStep) (n : Nat) (r3 : GSession × Int) : Nat→Int→(List GDeriv)→(List GDecision)→Int→Option (GSession × Bool)
 | 0,_,_,_,_=>none
 | m1 + 1,z13,l14,l15,z16 =>
  cond (decide (z13 < (p2.length : Int)))
   (bindO (idxO p2 z13) fun x21 =>
   cond (r3.2 != 0)
    (q03v r3 l14 l15 z16)
    (bindO (q03z n (GSession.mk l14 l15 z16) x21) fun r24 =>
    (q03x p2 n r3 m1) (IntKind.i64.wrap (z13 + 1)) r24.1.Readings r24.1.Decisions r24.1.State))
   (q03v r3 l14 l15 z16)
def law46_run (n : Nat) (p1 : List GDeriv) (p2 : List GStep) : Option (GSession × Bool) :=
 bindO (q02r n p1) fun r3 =>
 q03x p2 n r3 n 0 r3.1.Readings r3.1.Decisions r3.1.State
theorem law46_run_0 (n : Nat) (p1 : List GDeriv) (p2 : List GStep) (r : GSession × Bool) (hF : law46_run n p1 p2 = some r) : EvU Try.prog 20 [.isl false (List.map cGDeriv p1),.isl false (List.map cGStep p2)] ⟨[],0⟩ (fun u _=>u = .tup [.agg (cGSession r.1),.bool r.2]∧Bel 0 u):=by
 unfold law46_run at hF
 refine EvU.of_body Try.tb_ok Try.fn20 rfl ?_
 refine WPU.ghost (tm':=fr 33 [(0,.isl false (List.map cGDeriv p1)),(1,.isl false (List.map cGStep p2))]) (Gh.start (Nat.le_of_ble_eq_true rfl)) (Nat.zero_le _) ?_
 repeat refine sq ?_
 refine WPU.region Try.tb_ok (RS.op (u:=.ptr 0 0 0) (σ':=⟨[(0,.row [.nils,.nils,.int .i64 0] 27)],1⟩) rfl (op_alloc Try.inf27 rfl rfl) rfl rfl (RS.as rfl rfl rfl rfl (RS.done ?_)))
 repeat refine gq ?_
 repeat refine sq ?_
 obtain ⟨r3,h4,hF⟩:=bindO_some hF
 refine WPU.region Try.tb_ok (RS.mv rfl rfl rfl rfl (RS.call (u:=.tup [.agg (cGSession r3.1),.int .i64 r3.2]) (args:=[.isl false (List.map cGDeriv p1)]) rfl (op_call rfl rfl Try.fn10 Try.hb10 rfl rfl) (q04h n p1 r3 h4 _) rfl rfl (RS.mv rfl rfl rfl rfl (RS.op rfl (op_ext rfl rfl) rfl rfl (RS.op rfl (op_ext rfl rfl) rfl rfl (RS.op (u:=.ptr 1 0 0) (σ':=⟨[(1,.row [.nils,.nils,.int .i64 0] 27),(0,.row [.nils,.nils,.int .i64 0] 27)],2⟩) rfl (op_alloc Try.inf27 rfl rfl) rfl rfl (RS.opn (u:=.junk) (σ':=⟨[(1,.row (cGSession r3.1) 27),(0,.row [.nils,.nils,.int .i64 0] 27)],2⟩) rfl (op_store (sz_of Try.inf27) rfl rfl rfl rfl rfl rfl rfl rfl) rfl ?_)))))))
 refine RS.as rfl rfl rfl rfl (RS.done ?_)
 repeat refine gq ?_
 repeat refine sq ?_
 refine WPU.region Try.tb_ok (RS.mv rfl rfl rfl rfl (RS.op rfl (op_len rfl rfl rfl (len_isl cGStep Try.und47)) rfl rfl (RS.mv rfl rfl rfl rfl (RS.done ?_))))
 repeat refine gq ?_
 repeat refine sq ?_
 refine WPU.ghost (tm':=fr 33 [(4,.ptr 0 0 0),(6,.ptr 1 0 0),(7,.int .i64 r3.2),(15,.isl false (List.map cGStep p2)),(16,.int .i64 (p2.length : Int)),(17,.int .i64 0)]) (Gh.sub ⟨rfl,rfl,rfl,rfl,rfl,rfl,trivial⟩) (Nat.zero_le _) ?_
 refine WPU.loopK (fun m tm σ=>∃ z13 : Int,∃ l14 : List GDeriv,∃ l15 : List GDecision,∃ z16 : Int,q03x p2 n r3 m z13 l14 l15 z16 = some r∧tm = fr 33 [(4,.ptr 0 0 0),(6,.ptr 1 0 0),(7,.int .i64 r3.2),(15,.isl false (List.map cGStep p2)),(16,.int .i64 (p2.length : Int)),(17,.int .i64 z13)]∧σ = ⟨[(1,.row [.isl false (List.map cGDeriv l14),.isl false (List.map cGDecision l15),.int .i64 z16] 27),(0,.row [.nils,.nils,.int .i64 0] 27)],2⟩) (fun tm σ=>∃ l17 : List GDeriv,∃ l18 : List GDecision,∃ z19 : Int,q03v r3 l17 l18 z19 = some r∧tm = fr 33 [(4,.ptr 0 0 0),(6,.ptr 1 0 0),(7,.int .i64 r3.2)]∧σ = ⟨[(1,.row [.isl false (List.map cGDeriv l17),.isl false (List.map cGDecision l18),.int .i64 z19] 27),(0,.row [.nils,.nils,.int .i64 0] 27)],2⟩) n ⟨0,r3.1.Readings,r3.1.Decisions,r3.1.State,hF,rfl,rfl⟩ ?_ ?_
 rintro _ _ ⟨l17,l18,z19,hF,rfl,rfl⟩
 unfold q03v at hF
 repeat refine gq ?_
 repeat refine sq ?_
 refine WPU.region Try.tb_ok (RS.op (u:=.agg [.isl false (List.map cGDeriv l17),.isl false (List.map cGDecision l18),.int .i64 z19]) rfl (ld_agg Try.und27 rfl (sz_of Try.inf27) rfl rfl rfl) rfl rfl (RS.mv rfl rfl rfl rfl (RS.op rfl (op_int rfl rfl (ix_eql _ _ _) rfl) rfl rfl (RS.opn (u:=.junk) (σ':=⟨[(1,.row [.isl false (List.map cGDeriv l17),.isl false (List.map cGDecision l18),.int .i64 z19] 27),(0,.row [.isl false (List.map cGDeriv l17),.isl false (List.map cGDecision l18),.int .i64 z19] 27)],2⟩) rfl (op_store (sz_of Try.inf27) rfl rfl rfl rfl rfl rfl rfl rfl) rfl (RS.as rfl rfl rfl rfl (RS.done ?_))))))
 repeat refine gq ?_
 repeat refine sq ?_
 refine WPU.ret ?_
 repeat refine gq ?_
 have hr:=Option.some.inj hF
 subst hr
 exact ⟨.inr rfl,[.agg [.isl false (List.map cGDeriv l17),.isl false (List.map cGDecision l18),.int .i64 z19],.bool (r3.2 == 0)],res_c (ld_agg Try.und27 rfl (sz_of Try.inf27) rfl rfl rfl) (res_t rfl (res_n)),.tup [.agg [.isl false (List.map cGDeriv l17),.isl false (List.map cGDecision l18),.int .i64 z19],.bool (r3.2 == 0)],⟨[],0⟩,Nat.le_refl _,Gh.toR (.tup [.agg [.isl false (List.map cGDeriv l17),.isl false (List.map cGDecision l18),.int .i64 z19],.bool (r3.2 == 0)]) rfl,rfl,BU.h⟩
 rintro m1 _ _ ⟨z13,l14,l15,z16,hF,rfl,rfl⟩
 rcases m1 with _ | m1
 cases hF
 unfold q03x at hF
 repeat refine sq ?_
 refine WPU.region Try.tb_ok (RS.op rfl (op_int rfl rfl (ix_lss _ _ _) rfl) rfl rfl (RS.done ?_))
 repeat refine gq ?_
 repeat refine sq ?_
 refine WPU.condS (t:=(decide (z13 < (p2.length : Int)))) rfl (fun h20=>?_) (fun h20=>?_)
 replace hF:=cond_t h20 hF
 repeat refine sq ?_
 refine WPU.skip ?_
 repeat refine gq ?_
 repeat refine sq ?_
 refine WPU.block ?_
 repeat refine sq ?_
 obtain ⟨x21,h22,hF⟩:=bindO_some hF
 refine WPU.region Try.tb_ok (RS.op (u:=.iptr (cGStep x21)) rfl (op_ia rfl rfl (ia_isl cGStep Try.und47 (sz_of Try.inf49) len_cGStep h22 rfl)) rfl rfl (RS.op (u:=.agg (cGStep x21)) rfl (li_agg Try.und49 rfl (sz_of Try.inf49) rfl rfl) rfl rfl (RS.op (u:=.ptr 2 0 0) (σ':=⟨[(2,.row [.int .u8 0,.int .i64 0,.str [],.int .i64 0,.int .i64 0,.bool false] 49),(1,.row [.isl false (List.map cGDeriv l14),.isl false (List.map cGDecision l15),.int .i64 z16] 27),(0,.row [.nils,.nils,.int .i64 0] 27)],3⟩) rfl (op_alloc Try.inf49 rfl rfl) rfl rfl (RS.opn (u:=.junk) (σ':=⟨[(2,.row (cGStep x21) 49),(1,.row [.isl false (List.map cGDeriv l14),.isl false (List.map cGDecision l15),.int .i64 z16] 27),(0,.row [.nils,.nils,.int .i64 0] 27)],3⟩) rfl (op_store (sz_of Try.inf49) rfl rfl rfl rfl rfl rfl rfl rfl) rfl (RS.done ?_)))))
 repeat refine gq ?_
 repeat refine sq ?_
 refine WPU.region Try.tb_ok (RS.mv rfl rfl rfl rfl (RS.op rfl (op_int rfl rfl (ix_neq _ _ _) rfl) rfl rfl (RS.done ?_)))
 repeat refine gq ?_
 repeat refine sq ?_
 refine WPU.condS (t:=(r3.2 != 0)) rfl (fun h23=>?_) (fun h23=>?_)
 replace hF:=cond_t h23 hF
 repeat refine sq ?_
 refine WPU.exit ?_
 repeat refine gq ?_
 exact ⟨_,_,⟨l14,l15,z16,hF,rfl,rfl⟩,(Nat.zero_le _),Gh.toC (n1:=2) ⟨rfl,rfl,rfl,trivial⟩ rfl (Nat.zero_le _) (by simp)⟩
 replace hF:=cond_f h23 hF
 repeat refine sq ?_
 refine WPU.skip ?_
 repeat refine gq ?_
 repeat refine sq ?_
 obtain ⟨r24,h25,hF⟩:=bindO_some hF
 refine WPU.region Try.tb_ok (RS.op (u:=.agg [.isl false (List.map cGDeriv l14),.isl false (List.map cGDecision l15),.int .i64 z16]) rfl (ld_agg Try.und27 rfl (sz_of Try.inf27) rfl rfl rfl) rfl rfl (RS.op (u:=.agg (cGStep x21)) rfl (ld_agg Try.und49 rfl (sz_of Try.inf49) rfl rfl rfl) rfl rfl (RS.call (u:=.tup [.agg (cGSession r24.1),.int .i64 r24.2]) (args:=[.agg [.isl false (List.map cGDeriv l14),.isl false (List.map cGDecision l15),.int .i64 z16],.agg (cGStep x21)]) rfl (op_call rfl rfl Try.fn21 Try.hb21 rfl rfl) (law46_perform_ok n (GSession.mk l14 l15 z16) x21 r24 h25 _) rfl rfl (RS.mv rfl rfl rfl rfl (RS.op rfl (op_ext rfl rfl) rfl rfl (RS.op rfl (op_ext rfl rfl) rfl rfl (RS.opn (u:=.junk) (σ':=⟨[(2,.row (cGStep x21) 49),(1,.row (cGSession r24.1) 27),(0,.row [.nils,.nils,.int .i64 0] 27)],3⟩) rfl (op_store (sz_of Try.inf27) rfl rfl rfl rfl rfl rfl rfl rfl) rfl ?_)))))))
 refine RS.done ?_
 repeat refine gq ?_
 repeat refine sq ?_
 refine WPU.region Try.tb_ok (RS.op rfl (op_int rfl rfl (ix_add _ _ _) rfl) rfl rfl (RS.mv rfl rfl rfl rfl (RS.done ?_)))
 repeat refine gq ?_
 exact ⟨m1,_,_,Nat.lt_succ_self _,⟨(IntKind.i64.wrap (z13 + 1)),r24.1.Readings,r24.1.Decisions,r24.1.State,hF,rfl,rfl⟩,(Nat.zero_le _),Gh.toC (n1:=2) ⟨rfl,rfl,rfl,rfl,rfl,rfl,trivial⟩ rfl (Nat.zero_le _) (by simp)⟩
 replace hF:=cond_f h20 hF
 repeat refine sq ?_
 refine WPU.exit ?_
 repeat refine gq ?_
 exact ⟨_,_,⟨l14,l15,z16,hF,rfl,rfl⟩,(Nat.zero_le _),Gh.toC (n1:=2) ⟨rfl,rfl,rfl,trivial⟩ rfl (Nat.zero_le _) (by simp)⟩
theorem law46_run_ok (n : Nat) (p1 : List GDeriv) (p2 : List GStep) (r : GSession × Bool) (hF : law46_run n p1 p2 = some r) (σ : Sg) : EvU Try.prog 20 [.isl false (List.map cGDeriv p1),.isl false (List.map cGStep p2)] σ (fun u σ'=>u = .tup [.agg (cGSession r.1),.bool r.2]∧σ' = σ) :=
 EvU.pure1C (law46_run_0 n p1 p2 r hF) σ
def q01h (n : Nat)  : Option (Bool) :=
 bindO (law46_leaf n ([97])) fun r1 =>
 bindO (law46_leaf n ([97])) fun r3 =>
 bindO (q02r n ([r1,r3])) fun r5 =>
 bindO (q01z n (GSession.mk r5.1.Readings r5.1.Decisions r5.1.State)) fun r7 =>
 bindO (q02d n (GSession.mk r5.1.Readings r5.1.Decisions r5.1.State)) fun r9 =>
 bindO (q01j n (GSession.mk r5.1.Readings r5.1.Decisions r5.1.State) (GProp.mk 0 ([97]) 0 1) true) fun r11 =>
 bindO (law46_leaf n ([98])) fun r13 =>
 bindO (law46_leaf n ([97])) fun r15 =>
 bindO (q02r n ([r13,r15])) fun r17 =>
 bindO (q01z n (GSession.mk r17.1.Readings r17.1.Decisions r17.1.State)) fun r19 =>
 bindO (q01j n (GSession.mk r17.1.Readings r17.1.Decisions r17.1.State) (GProp.mk 0 ([97]) 0 1) false) fun r21 =>
 bindO (q01j n (GSession.mk r21.1.Readings r21.1.Decisions r21.1.State) (GProp.mk 0 ([98]) 0 1) false) fun r23 =>
 bindO (q02r n []) fun r25 =>
 bindO (cond (r5.2 == 0)
  (cond ((r5.1.Readings.length : Int) == 1)
   (cond (!r7.2)
    (cond (r9.2 == 0)
     (cond (r9.1.State == 1)
      (cond (r11.2 == 16)
       (cond (r17.2 == 0)
        (bindO (idxO r17.1.Readings 0) fun x34 =>
        cond (bytesEq x34.Name ([97]))
         (cond r19.2
          (cond (eqGProp (GProp.mk r19.1.Kind r19.1.Name r19.1.From r19.1.To) (GProp.mk 0 ([97]) 0 1))
           (cond (r21.2 == 0)
            (cond ((r21.1.Decisions.length : Int) == 1)
             (cond (r23.2 == 17)
              (some (r25.2 == 1))
              (some false))
             (some false))
            (some false))
           (some false))
          (some false))
         (some false))
        (some false))
       (some false))
      (some false))
     (some false))
    (some false))
   (some false))
  (some false)) fun b42 =>
 some b42
theorem law46_exampleHolds_0 (n : Nat)  (r : Bool) (hF : q01h n  = some r) : EvU Try.prog 9 [] ⟨[],0⟩ (fun u _=>u = .bool r∧Bel 0 u):=by
 unfold q01h at hF
 refine EvU.of_body Try.tb_ok Try.fn9 rfl ?_
 refine WPU.ghost (tm':=fr 133 []) (Gh.start (Nat.le_of_ble_eq_true rfl)) (Nat.zero_le _) ?_
 repeat refine sq ?_
 refine WPU.region Try.tb_ok (RS.as rfl rfl rfl rfl (RS.done ?_))
 repeat refine gq ?_
 repeat refine sq ?_
 obtain ⟨r1,h2,hF⟩:=bindO_some hF
 obtain ⟨r3,h4,hF⟩:=bindO_some hF
 obtain ⟨r5,h6,hF⟩:=bindO_some hF
 refine WPU.region Try.tb_ok (RS.call (u:=.agg (xGDeriv r1)) (args:=[.str ([97])]) rfl (op_call rfl rfl Try.fn24 Try.hb24 rfl rfl) (q04s n ([97]) r1 h2 _) rfl rfl (RS.call (u:=.agg (xGDeriv r3)) (args:=[.str ([97])]) rfl (op_call rfl rfl Try.fn24 Try.hb24 rfl rfl) (q04s n ([97]) r3 h4 _) rfl rfl (RS.op (u:=.sl 0 0 2 2) (σ':=⟨[(0,.row [.int .i64 r1.Kind,.str r1.Name,.int .i64 r1.From,.int .i64 r1.To,.isl false (List.map cGDeriv r1.Kids),.int .i64 r3.Kind,.str r3.Name,.int .i64 r3.From,.int .i64 r3.To,.isl false (List.map cGDeriv r3.Kids)] 36)],1⟩) rfl (op_bsl Try.und22 Try.inf36 rfl rfl rfl rfl rfl rfl rfl) rfl rfl ?_)))
 refine RS.fcall (u:=.tup [.agg (cGSession r5.1),.int .i64 r5.2]) (args:=[.sl 0 0 2 2]) (σ1:=⟨[],1⟩) rfl (op_call rfl rfl Try.fn10 Try.hb10 rfl rfl) (Gh.fz (tm':=[.isl false (List.map cGDeriv ([r1,r3]))]) (h':=[]) 0 (.row [.int .i64 r1.Kind,.str r1.Name,.int .i64 r1.From,.int .i64 r1.To,.isl false (List.map cGDeriv r1.Kids),.int .i64 r3.Kind,.str r3.Name,.int .i64 r3.From,.int .i64 r3.To,.isl false (List.map cGDeriv r3.Kids)] 36) 5 rfl (by simp) (by simp only [oneU,fzL_nil,fzL_cons,fz_int,fz_bool,fz_str,fz_nils,fz_nilp,fz_nilm,fz_nilf,fz_junk,fz_isl,fz_map,fz_agg,fz_tup,fz_fn,junkT,fz_sl,fz_p0,Nat.reduceLeDiff,Nat.reduceMul,List.length_cons,List.length_nil,Nat.reduceAdd] <;> simp only [chunks,List.take,List.drop,List.map,cGDeriv_eq,xGDeriv,GDeriv.Kind,GDeriv.Name,GDeriv.From,GDeriv.To,GDeriv.Kids]) (by simp only [fzH,fzB,ug,Nat.beq,cond_true,cond_false,oneU,fzL_nil,fzL_cons,fz_int,fz_bool,fz_str,fz_nils,fz_nilp,fz_nilm,fz_nilf,fz_junk,fz_isl,fz_map,fz_agg,fz_tup,fz_fn,junkT,fz_sl,fz_p0,Nat.reduceLeDiff,Nat.reduceMul,List.length_cons,List.length_nil,Nat.reduceAdd] <;> simp only [chunks,List.take,List.drop,List.map,cGDeriv_eq,xGDeriv,GDeriv.Kind,GDeriv.Name,GDeriv.From,GDeriv.To,GDeriv.Kids])) (Nat.le_of_ble_eq_true rfl) (q04h n ([r1,r3]) r5 h6 _) rfl rfl ?_
 refine RS.mv rfl rfl rfl rfl (RS.op rfl (op_ext rfl rfl) rfl rfl (RS.op rfl (op_ext rfl rfl) rfl rfl (RS.op (u:=.ptr 1 0 0) (σ':=⟨[(1,.row [.nils,.nils,.int .i64 0] 27)],2⟩) rfl (op_alloc Try.inf27 rfl rfl) rfl rfl (RS.opn (u:=.junk) (σ':=⟨[(1,.row (cGSession r5.1) 27)],2⟩) rfl (op_store (sz_of Try.inf27) rfl rfl rfl rfl rfl rfl rfl rfl) rfl (RS.as rfl rfl rfl rfl (RS.done ?_))))))
 repeat refine gq ?_
 repeat refine sq ?_
 obtain ⟨r7,h8,hF⟩:=bindO_some hF
 refine WPU.region Try.tb_ok (RS.op (u:=.agg (cGSession r5.1)) rfl (ld_agg Try.und27 rfl (sz_of Try.inf27) rfl rfl rfl) rfl rfl (RS.call (u:=.tup [.agg (cGProp r7.1),.bool r7.2]) (args:=[.agg (cGSession r5.1)]) rfl (op_call rfl rfl Try.fn15 Try.hb15 rfl rfl) (q044 n (GSession.mk r5.1.Readings r5.1.Decisions r5.1.State) r7 h8 _) rfl rfl (RS.mv rfl rfl rfl rfl (RS.op rfl (op_ext rfl rfl) rfl rfl (RS.op rfl (op_ext rfl rfl) rfl rfl (RS.op (u:=.ptr 2 0 0) (σ':=⟨[(2,.row [.int .i64 0,.str [],.int .i64 0,.int .i64 0] 38),(1,.row (cGSession r5.1) 27)],3⟩) rfl (op_alloc Try.inf38 rfl rfl) rfl rfl (RS.opn (u:=.junk) (σ':=⟨[(2,.row (cGProp r7.1) 38),(1,.row (cGSession r5.1) 27)],3⟩) rfl (op_store (sz_of Try.inf38) rfl rfl rfl rfl rfl rfl rfl rfl) rfl ?_)))))))
 refine RS.as rfl rfl rfl rfl (RS.done ?_)
 repeat refine gq ?_
 repeat refine sq ?_
 obtain ⟨r9,h10,hF⟩:=bindO_some hF
 refine WPU.region Try.tb_ok (RS.op (u:=.agg (cGSession r5.1)) rfl (ld_agg Try.und27 rfl (sz_of Try.inf27) rfl rfl rfl) rfl rfl (RS.call (u:=.tup [.agg (cGSession r9.1),.int .i64 r9.2]) (args:=[.agg (cGSession r5.1)]) rfl (op_call rfl rfl Try.fn19 Try.hb19 rfl rfl) (annotate_Accept_ok n (GSession.mk r5.1.Readings r5.1.Decisions r5.1.State) r9 h10 _) rfl rfl (RS.mv rfl rfl rfl rfl (RS.op rfl (op_ext rfl rfl) rfl rfl (RS.op rfl (op_ext rfl rfl) rfl rfl (RS.op (u:=.ptr 3 0 0) (σ':=⟨[(3,.row [.nils,.nils,.int .i64 0] 27),(2,.row (cGProp r7.1) 38),(1,.row (cGSession r5.1) 27)],4⟩) rfl (op_alloc Try.inf27 rfl rfl) rfl rfl (RS.opn (u:=.junk) (σ':=⟨[(3,.row (cGSession r9.1) 27),(2,.row (cGProp r7.1) 38),(1,.row (cGSession r5.1) 27)],4⟩) rfl (op_store (sz_of Try.inf27) rfl rfl rfl rfl rfl rfl rfl rfl) rfl ?_)))))))
 refine RS.as rfl rfl rfl rfl (RS.done ?_)
 repeat refine gq ?_
 repeat refine sq ?_
 obtain ⟨r11,h12,hF⟩:=bindO_some hF
 refine WPU.region Try.tb_ok (RS.op (u:=.agg (cGSession r5.1)) rfl (ld_agg Try.und27 rfl (sz_of Try.inf27) rfl rfl rfl) rfl rfl (RS.op (u:=.agg [.int .i64 0,.str ([97]),.int .i64 0,.int .i64 1]) rfl (op_bld Try.bd38 rfl rfl rfl) rfl rfl (RS.call (u:=.tup [.agg (cGSession r11.1),.int .i64 r11.2]) (args:=[.agg (cGSession r5.1),.agg [.int .i64 0,.str ([97]),.int .i64 0,.int .i64 1],.bool true]) rfl (op_call rfl rfl Try.fn16 Try.hb16 rfl rfl) (q02k n (GSession.mk r5.1.Readings r5.1.Decisions r5.1.State) (GProp.mk 0 ([97]) 0 1) true r11 h12 _) rfl rfl (RS.mv rfl rfl rfl rfl (RS.op rfl (op_ext rfl rfl) rfl rfl (RS.op rfl (op_ext rfl rfl) rfl rfl (RS.op (u:=.ptr 4 0 0) (σ':=⟨[(4,.row [.nils,.nils,.int .i64 0] 27),(3,.row (cGSession r9.1) 27),(2,.row (cGProp r7.1) 38),(1,.row (cGSession r5.1) 27)],5⟩) rfl (op_alloc Try.inf27 rfl rfl) rfl rfl ?_)))))))
 refine RS.opn (u:=.junk) (σ':=⟨[(4,.row (cGSession r11.1) 27),(3,.row (cGSession r9.1) 27),(2,.row (cGProp r7.1) 38),(1,.row (cGSession r5.1) 27)],5⟩) rfl (op_store (sz_of Try.inf27) rfl rfl rfl rfl rfl rfl rfl rfl) rfl (RS.as rfl rfl rfl rfl (RS.done ?_))
 repeat refine gq ?_
 repeat refine sq ?_
 obtain ⟨r13,h14,hF⟩:=bindO_some hF
 obtain ⟨r15,h16,hF⟩:=bindO_some hF
 obtain ⟨r17,h18,hF⟩:=bindO_some hF
 refine WPU.region Try.tb_ok (RS.call (u:=.agg (xGDeriv r13)) (args:=[.str ([98])]) rfl (op_call rfl rfl Try.fn24 Try.hb24 rfl rfl) (q04s n ([98]) r13 h14 _) rfl rfl (RS.call (u:=.agg (xGDeriv r15)) (args:=[.str ([97])]) rfl (op_call rfl rfl Try.fn24 Try.hb24 rfl rfl) (q04s n ([97]) r15 h16 _) rfl rfl (RS.op (u:=.sl 5 0 2 2) (σ':=⟨[(5,.row [.int .i64 r13.Kind,.str r13.Name,.int .i64 r13.From,.int .i64 r13.To,.isl false (List.map cGDeriv r13.Kids),.int .i64 r15.Kind,.str r15.Name,.int .i64 r15.From,.int .i64 r15.To,.isl false (List.map cGDeriv r15.Kids)] 36),(4,.row (cGSession r11.1) 27),(3,.row (cGSession r9.1) 27),(2,.row (cGProp r7.1) 38),(1,.row (cGSession r5.1) 27)],6⟩) rfl (op_bsl Try.und22 Try.inf36 rfl rfl rfl rfl rfl rfl rfl) rfl rfl ?_)))
 refine RS.fcall (u:=.tup [.agg (cGSession r17.1),.int .i64 r17.2]) (args:=[.sl 5 0 2 2]) (σ1:=⟨[(4,.row (cGSession r11.1) 27),(3,.row (cGSession r9.1) 27),(2,.row (cGProp r7.1) 38),(1,.row (cGSession r5.1) 27)],6⟩) rfl (op_call rfl rfl Try.fn10 Try.hb10 rfl rfl) (Gh.fz (tm':=[.isl false (List.map cGDeriv ([r13,r15]))]) (h':=[(4,.row (cGSession r11.1) 27),(3,.row (cGSession r9.1) 27),(2,.row (cGProp r7.1) 38),(1,.row (cGSession r5.1) 27)]) 5 (.row [.int .i64 r13.Kind,.str r13.Name,.int .i64 r13.From,.int .i64 r13.To,.isl false (List.map cGDeriv r13.Kids),.int .i64 r15.Kind,.str r15.Name,.int .i64 r15.From,.int .i64 r15.To,.isl false (List.map cGDeriv r15.Kids)] 36) 5 rfl (by simp) (by simp only [oneU,fzL_nil,fzL_cons,fz_int,fz_bool,fz_str,fz_nils,fz_nilp,fz_nilm,fz_nilf,fz_junk,fz_isl,fz_map,fz_agg,fz_tup,fz_fn,junkT,fz_sl,fz_p0,fz_cGProp,q01k,Nat.reduceLeDiff,Nat.reduceMul,List.length_cons,List.length_nil,Nat.reduceAdd] <;> simp only [chunks,List.take,List.drop,List.map,cGDeriv_eq,xGDeriv,GDeriv.Kind,GDeriv.Name,GDeriv.From,GDeriv.To,GDeriv.Kids]) (by simp only [fzH,fzB,ug,Nat.beq,cond_true,cond_false,oneU,fzL_nil,fzL_cons,fz_int,fz_bool,fz_str,fz_nils,fz_nilp,fz_nilm,fz_nilf,fz_junk,fz_isl,fz_map,fz_agg,fz_tup,fz_fn,junkT,fz_sl,fz_p0,fz_cGProp,q01k,Nat.reduceLeDiff,Nat.reduceMul,List.length_cons,List.length_nil,Nat.reduceAdd] <;> simp only [chunks,List.take,List.drop,List.map,cGDeriv_eq,xGDeriv,GDeriv.Kind,GDeriv.Name,GDeriv.From,GDeriv.To,GDeriv.Kids])) (Nat.le_of_ble_eq_true rfl) (q04h n ([r13,r15]) r17 h18 _) rfl rfl ?_
 refine RS.mv rfl rfl rfl rfl (RS.op rfl (op_ext rfl rfl) rfl rfl (RS.op rfl (op_ext rfl rfl) rfl rfl (RS.op (u:=.ptr 6 0 0) (σ':=⟨[(6,.row [.nils,.nils,.int .i64 0] 27),(4,.row (cGSession r11.1) 27),(3,.row (cGSession r9.1) 27),(2,.row (cGProp r7.1) 38),(1,.row (cGSession r5.1) 27)],7⟩) rfl (op_alloc Try.inf27 rfl rfl) rfl rfl (RS.opn (u:=.junk) (σ':=⟨[(6,.row (cGSession r17.1) 27),(4,.row (cGSession r11.1) 27),(3,.row (cGSession r9.1) 27),(2,.row (cGProp r7.1) 38),(1,.row (cGSession r5.1) 27)],7⟩) rfl (op_store (sz_of Try.inf27) rfl rfl rfl rfl rfl rfl rfl rfl) rfl (RS.as rfl rfl rfl rfl (RS.done ?_))))))
 repeat refine gq ?_
 repeat refine sq ?_
 obtain ⟨r19,h20,hF⟩:=bindO_some hF
 refine WPU.region Try.tb_ok (RS.op (u:=.agg (cGSession r17.1)) rfl (ld_agg Try.und27 rfl (sz_of Try.inf27) rfl rfl rfl) rfl rfl (RS.call (u:=.tup [.agg (cGProp r19.1),.bool r19.2]) (args:=[.agg (cGSession r17.1)]) rfl (op_call rfl rfl Try.fn15 Try.hb15 rfl rfl) (q044 n (GSession.mk r17.1.Readings r17.1.Decisions r17.1.State) r19 h20 _) rfl rfl (RS.mv rfl rfl rfl rfl (RS.op rfl (op_ext rfl rfl) rfl rfl (RS.op rfl (op_ext rfl rfl) rfl rfl (RS.op (u:=.ptr 7 0 0) (σ':=⟨[(7,.row [.int .i64 0,.str [],.int .i64 0,.int .i64 0] 38),(6,.row (cGSession r17.1) 27),(4,.row (cGSession r11.1) 27),(3,.row (cGSession r9.1) 27),(2,.row (cGProp r7.1) 38),(1,.row (cGSession r5.1) 27)],8⟩) rfl (op_alloc Try.inf38 rfl rfl) rfl rfl (RS.opn (u:=.junk) (σ':=⟨[(7,.row (cGProp r19.1) 38),(6,.row (cGSession r17.1) 27),(4,.row (cGSession r11.1) 27),(3,.row (cGSession r9.1) 27),(2,.row (cGProp r7.1) 38),(1,.row (cGSession r5.1) 27)],8⟩) rfl (op_store (sz_of Try.inf38) rfl rfl rfl rfl rfl rfl rfl rfl) rfl ?_)))))))
 refine RS.as rfl rfl rfl rfl (RS.done ?_)
 repeat refine gq ?_
 repeat refine sq ?_
 obtain ⟨r21,h22,hF⟩:=bindO_some hF
 refine WPU.region Try.tb_ok (RS.op (u:=.agg (cGSession r17.1)) rfl (ld_agg Try.und27 rfl (sz_of Try.inf27) rfl rfl rfl) rfl rfl (RS.op (u:=.agg [.int .i64 0,.str ([97]),.int .i64 0,.int .i64 1]) rfl (op_bld Try.bd38 rfl rfl rfl) rfl rfl (RS.call (u:=.tup [.agg (cGSession r21.1),.int .i64 r21.2]) (args:=[.agg (cGSession r17.1),.agg [.int .i64 0,.str ([97]),.int .i64 0,.int .i64 1],.bool false]) rfl (op_call rfl rfl Try.fn16 Try.hb16 rfl rfl) (q02k n (GSession.mk r17.1.Readings r17.1.Decisions r17.1.State) (GProp.mk 0 ([97]) 0 1) false r21 h22 _) rfl rfl (RS.mv rfl rfl rfl rfl (RS.op rfl (op_ext rfl rfl) rfl rfl (RS.op rfl (op_ext rfl rfl) rfl rfl (RS.op (u:=.ptr 8 0 0) (σ':=⟨[(8,.row [.nils,.nils,.int .i64 0] 27),(7,.row (cGProp r19.1) 38),(6,.row (cGSession r17.1) 27),(4,.row (cGSession r11.1) 27),(3,.row (cGSession r9.1) 27),(2,.row (cGProp r7.1) 38),(1,.row (cGSession r5.1) 27)],9⟩) rfl (op_alloc Try.inf27 rfl rfl) rfl rfl ?_)))))))
 refine RS.opn (u:=.junk) (σ':=⟨[(8,.row (cGSession r21.1) 27),(7,.row (cGProp r19.1) 38),(6,.row (cGSession r17.1) 27),(4,.row (cGSession r11.1) 27),(3,.row (cGSession r9.1) 27),(2,.row (cGProp r7.1) 38),(1,.row (cGSession r5.1) 27)],9⟩) rfl (op_store (sz_of Try.inf27) rfl rfl rfl rfl rfl rfl rfl rfl) rfl (RS.as rfl rfl rfl rfl (RS.done ?_))
 repeat refine gq ?_
 repeat refine sq ?_
 obtain ⟨r23,h24,hF⟩:=bindO_some hF
 refine WPU.region Try.tb_ok (RS.op (u:=.agg (cGSession r21.1)) rfl (ld_agg Try.und27 rfl (sz_of Try.inf27) rfl rfl rfl) rfl rfl (RS.op (u:=.agg [.int .i64 0,.str ([98]),.int .i64 0,.int .i64 1]) rfl (op_bld Try.bd38 rfl rfl rfl) rfl rfl (RS.call (u:=.tup [.agg (cGSession r23.1),.int .i64 r23.2]) (args:=[.agg (cGSession r21.1),.agg [.int .i64 0,.str ([98]),.int .i64 0,.int .i64 1],.bool false]) rfl (op_call rfl rfl Try.fn16 Try.hb16 rfl rfl) (q02k n (GSession.mk r21.1.Readings r21.1.Decisions r21.1.State) (GProp.mk 0 ([98]) 0 1) false r23 h24 _) rfl rfl (RS.mv rfl rfl rfl rfl (RS.op rfl (op_ext rfl rfl) rfl rfl (RS.op rfl (op_ext rfl rfl) rfl rfl (RS.op (u:=.ptr 9 0 0) (σ':=⟨[(9,.row [.nils,.nils,.int .i64 0] 27),(8,.row (cGSession r21.1) 27),(7,.row (cGProp r19.1) 38),(6,.row (cGSession r17.1) 27),(4,.row (cGSession r11.1) 27),(3,.row (cGSession r9.1) 27),(2,.row (cGProp r7.1) 38),(1,.row (cGSession r5.1) 27)],10⟩) rfl (op_alloc Try.inf27 rfl rfl) rfl rfl ?_)))))))
 refine RS.opn (u:=.junk) (σ':=⟨[(9,.row (cGSession r23.1) 27),(8,.row (cGSession r21.1) 27),(7,.row (cGProp r19.1) 38),(6,.row (cGSession r17.1) 27),(4,.row (cGSession r11.1) 27),(3,.row (cGSession r9.1) 27),(2,.row (cGProp r7.1) 38),(1,.row (cGSession r5.1) 27)],10⟩) rfl (op_store (sz_of Try.inf27) rfl rfl rfl rfl rfl rfl rfl rfl) rfl (RS.as rfl rfl rfl rfl (RS.done ?_))
 repeat refine gq ?_
 repeat refine sq ?_
 obtain ⟨r25,h26,hF⟩:=bindO_some hF
 refine WPU.region Try.tb_ok (RS.call (u:=.tup [.agg (cGSession r25.1),.int .i64 r25.2]) (args:=[.nils]) rfl (op_call rfl rfl Try.fn10 Try.hb10 rfl rfl) (EvU.wkA (args':=[.isl false []]) (.cons (.nil false) .nil) (fun s=>q04h n [] r25 h26 s) _) rfl rfl (RS.mv rfl rfl rfl rfl (RS.op rfl (op_ext rfl rfl) rfl rfl (RS.op rfl (op_ext rfl rfl) rfl rfl (RS.op (u:=.ptr 10 0 0) (σ':=⟨[(10,.row [.nils,.nils,.int .i64 0] 27),(9,.row (cGSession r23.1) 27),(8,.row (cGSession r21.1) 27),(7,.row (cGProp r19.1) 38),(6,.row (cGSession r17.1) 27),(4,.row (cGSession r11.1) 27),(3,.row (cGSession r9.1) 27),(2,.row (cGProp r7.1) 38),(1,.row (cGSession r5.1) 27)],11⟩) rfl (op_alloc Try.inf27 rfl rfl) rfl rfl (RS.opn (u:=.junk) (σ':=⟨[(10,.row (cGSession r25.1) 27),(9,.row (cGSession r23.1) 27),(8,.row (cGSession r21.1) 27),(7,.row (cGProp r19.1) 38),(6,.row (cGSession r17.1) 27),(4,.row (cGSession r11.1) 27),(3,.row (cGSession r9.1) 27),(2,.row (cGProp r7.1) 38),(1,.row (cGSession r5.1) 27)],11⟩) rfl (op_store (sz_of Try.inf27) rfl rfl rfl rfl rfl rfl rfl rfl) rfl (RS.as rfl rfl rfl rfl ?_)))))))
 refine RS.done ?_
 repeat refine gq ?_
 repeat refine sq ?_
 obtain ⟨b42,h43,hF⟩:=bindO_some hF
 refine WPU.joinK (fun tm σ=>tm = fr 133 [(0,.bool b42)]∧σ = ⟨[(10,.row (cGSession r25.1) 27),(9,.row (cGSession r23.1) 27),(8,.row (cGSession r21.1) 27),(7,.row (cGProp r19.1) 38),(6,.row (cGSession r17.1) 27),(4,.row (cGSession r11.1) 27),(3,.row (cGSession r9.1) 27),(2,.row (cGProp r7.1) 38),(1,.row (cGSession r5.1) 27)],11⟩) ?_ ?_
 rintro _ _ ⟨rfl,rfl⟩
 repeat refine gq ?_
 repeat refine sq ?_
 refine WPU.ret ?_
 repeat refine gq ?_
 have hr:=Option.some.inj hF
 subst hr
 exact ⟨.inr rfl,[.bool b42],res_t rfl (res_n),.bool b42,⟨[],0⟩,Nat.le_refl _,Gh.toR (.bool b42) rfl,rfl,BU.h⟩
 rcases bool_tf (r5.2 == 0) with h27 | h27
 replace h43:=cond_t h27 h43
 rcases bool_tf ((r5.1.Readings.length : Int) == 1) with h28 | h28
 replace h43:=cond_t h28 h43
 rcases bool_tf (!r7.2) with h29 | h29
 replace h43:=cond_t h29 h43
 rcases bool_tf (r9.2 == 0) with h30 | h30
 replace h43:=cond_t h30 h43
 rcases bool_tf (r9.1.State == 1) with h31 | h31
 replace h43:=cond_t h31 h43
 rcases bool_tf (r11.2 == 16) with h32 | h32
 replace h43:=cond_t h32 h43
 rcases bool_tf (r17.2 == 0) with h33 | h33
 replace h43:=cond_t h33 h43
 obtain ⟨x34,h35,h43⟩:=bindO_some h43
 rcases bool_tf (bytesEq x34.Name ([97])) with h36 | h36
 replace h43:=cond_t h36 h43
 rcases bool_tf r19.2 with h37 | h37
 replace h43:=cond_t h37 h43
 rcases bool_tf (eqGProp (GProp.mk r19.1.Kind r19.1.Name r19.1.From r19.1.To) (GProp.mk 0 ([97]) 0 1)) with h38 | h38
 replace h43:=cond_t h38 h43
 rcases bool_tf (r21.2 == 0) with h39 | h39
 replace h43:=cond_t h39 h43
 rcases bool_tf ((r21.1.Decisions.length : Int) == 1) with h40 | h40
 replace h43:=cond_t h40 h43
 rcases bool_tf (r23.2 == 17) with h41 | h41
 replace h43:=cond_t h41 h43
 replace h43:=Option.some.inj h43
 subst h43
 refine WPU.region Try.tb_ok (RS.mv rfl rfl rfl rfl (RS.op rfl (op_int rfl rfl (ix_eql _ _ _) rfl) rfl rfl (RS.mv rfl rfl rfl rfl (RS.op (u:=.ptr 1 0 0) (want1 rfl rfl rfl h27) (op_fa Try.und27 rfl (sz_of Try.inf22) rfl rfl rfl) rfl rfl (RS.op (u:=.isl false (List.map cGDeriv r5.1.Readings)) (want1 rfl rfl rfl h27) (ld_one Try.und22 rfl rfl rfl rfl) rfl rfl (RS.op (want1 rfl rfl rfl h27) (op_len rfl rfl rfl (len_isl cGDeriv Try.und22)) rfl rfl (RS.op (want1 rfl rfl rfl h27) (op_int rfl rfl (ix_eql _ _ _) rfl) rfl rfl ?_)))))))
 refine RS.op (u:=.bool ((r5.1.Readings.length : Int) == 1)) rfl (op_pick1 rfl h27 rfl) rfl rfl (RS.mv rfl rfl rfl rfl (RS.op (want1 rfl rfl rfl h28) (op_move rfl) rfl rfl (RS.op (u:=.bool (!r7.2)) (want1 rfl rfl rfl h28) (op_un rfl rfl rfl rfl) rfl rfl (RS.op (u:=.bool (!r7.2)) rfl (op_pick1 rfl h28 rfl) rfl rfl (RS.mv rfl rfl rfl rfl (RS.op (want1 rfl rfl rfl h29) (op_move rfl) rfl rfl (RS.op (want1 rfl rfl rfl h29) (op_int rfl rfl (ix_eql _ _ _) rfl) rfl rfl ?_)))))))
 refine RS.op (u:=.bool (r9.2 == 0)) rfl (op_pick1 rfl h29 rfl) rfl rfl (RS.mv rfl rfl rfl rfl (RS.op (u:=.ptr 3 0 2) (want1 rfl rfl rfl h30) (op_fa Try.und27 rfl (sz_of Try.inf3) rfl rfl rfl) rfl rfl (RS.op (u:=.int .i64 r9.1.State) (want1 rfl rfl rfl h30) (ld_one Try.und3 rfl rfl rfl rfl) rfl rfl (RS.op (want1 rfl rfl rfl h30) (op_int rfl rfl (ix_eql _ _ _) rfl) rfl rfl (RS.op (u:=.bool (r9.1.State == 1)) rfl (op_pick1 rfl h30 rfl) rfl rfl (RS.mv rfl rfl rfl rfl (RS.op (want1 rfl rfl rfl h31) (op_move rfl) rfl rfl ?_)))))))
 refine RS.op (want1 rfl rfl rfl h31) (op_int rfl rfl (ix_eql _ _ _) rfl) rfl rfl (RS.op (u:=.bool (r11.2 == 16)) rfl (op_pick1 rfl h31 rfl) rfl rfl (RS.mv rfl rfl rfl rfl (RS.op (want1 rfl rfl rfl h32) (op_move rfl) rfl rfl (RS.op (want1 rfl rfl rfl h32) (op_int rfl rfl (ix_eql _ _ _) rfl) rfl rfl (RS.op (u:=.bool (r17.2 == 0)) rfl (op_pick1 rfl h32 rfl) rfl rfl (RS.mv rfl rfl rfl rfl (RS.op (u:=.ptr 6 0 0) (want1 rfl rfl rfl h33) (op_fa Try.und27 rfl (sz_of Try.inf22) rfl rfl rfl) rfl rfl ?_)))))))
 refine RS.op (u:=.isl false (List.map cGDeriv r17.1.Readings)) (want1 rfl rfl rfl h33) (ld_one Try.und22 rfl rfl rfl rfl) rfl rfl (RS.op (u:=.iptr (xGDeriv x34)) (want1 rfl rfl rfl h33) (op_ia rfl rfl (ia_isl cGDeriv Try.und22 (sz_of Try.inf36) len_cGDeriv h35 (cGDeriv_eq x34))) rfl rfl (RS.op (u:=.iptr [.str x34.Name,.int .i64 x34.From,.int .i64 x34.To,.isl false (List.map cGDeriv x34.Kids)]) (want1 rfl rfl rfl h33) (op_fi Try.und36 rfl (sz_of Try.inf9) rfl rfl) rfl rfl (RS.op (u:=.str x34.Name) (want1 rfl rfl rfl h33) (li_one Try.und9 rfl rfl rfl) rfl rfl (RS.op (u:=.bool (bytesEq x34.Name ([97]))) (want1 rfl rfl rfl h33) (op_str rfl rfl rfl rfl) rfl rfl (RS.op (u:=.bool (bytesEq x34.Name ([97]))) rfl (op_pick1 rfl h33 rfl) rfl rfl (RS.mv rfl rfl rfl rfl (RS.op (want1 rfl rfl rfl h36) (op_move rfl) rfl rfl ?_)))))))
 refine RS.op (u:=.bool r19.2) rfl (op_pick1 rfl h36 rfl) rfl rfl (RS.mv rfl rfl rfl rfl (RS.op (u:=.agg (cGProp r19.1)) (want1 rfl rfl rfl h37) (ld_agg Try.und38 rfl (sz_of Try.inf38) rfl rfl rfl) rfl rfl (RS.op (u:=.agg [.int .i64 0,.str ([97]),.int .i64 0,.int .i64 1]) (want1 rfl rfl rfl h37) (op_bld Try.bd38 rfl rfl rfl) rfl rfl (RS.op (u:=.bool (eqGProp (GProp.mk r19.1.Kind r19.1.Name r19.1.From r19.1.To) (GProp.mk 0 ([97]) 0 1))) (want1 rfl rfl rfl h37) (op_bin rfl rfl (eqq38_eql (GProp.mk r19.1.Kind r19.1.Name r19.1.From r19.1.To) (GProp.mk 0 ([97]) 0 1))) rfl rfl (RS.op (u:=.bool (eqGProp (GProp.mk r19.1.Kind r19.1.Name r19.1.From r19.1.To) (GProp.mk 0 ([97]) 0 1))) rfl (op_pick1 rfl h37 rfl) rfl rfl (RS.mv rfl rfl rfl rfl (RS.op (want1 rfl rfl rfl h38) (op_move rfl) rfl rfl ?_)))))))
 refine RS.op (want1 rfl rfl rfl h38) (op_int rfl rfl (ix_eql _ _ _) rfl) rfl rfl (RS.op (u:=.bool (r21.2 == 0)) rfl (op_pick1 rfl h38 rfl) rfl rfl (RS.mv rfl rfl rfl rfl (RS.op (u:=.ptr 8 0 1) (want1 rfl rfl rfl h39) (op_fa Try.und27 rfl (sz_of Try.inf25) rfl rfl rfl) rfl rfl (RS.op (u:=.isl false (List.map cGDecision r21.1.Decisions)) (want1 rfl rfl rfl h39) (ld_one Try.und25 rfl rfl rfl rfl) rfl rfl (RS.op (want1 rfl rfl rfl h39) (op_len rfl rfl rfl (len_isl cGDecision Try.und25)) rfl rfl (RS.op (want1 rfl rfl rfl h39) (op_int rfl rfl (ix_eql _ _ _) rfl) rfl rfl (RS.op (u:=.bool ((r21.1.Decisions.length : Int) == 1)) rfl (op_pick1 rfl h39 rfl) rfl rfl ?_)))))))
 refine RS.mv rfl rfl rfl rfl (RS.op (want1 rfl rfl rfl h40) (op_move rfl) rfl rfl (RS.op (want1 rfl rfl rfl h40) (op_int rfl rfl (ix_eql _ _ _) rfl) rfl rfl (RS.op (u:=.bool (r23.2 == 17)) rfl (op_pick1 rfl h40 rfl) rfl rfl (RS.mv rfl rfl rfl rfl (RS.op (want1 rfl rfl rfl h41) (op_move rfl) rfl rfl (RS.op (want1 rfl rfl rfl h41) (op_int rfl rfl (ix_eql _ _ _) rfl) rfl rfl (RS.op (u:=.bool (r25.2 == 1)) rfl (op_pick1 rfl h41 rfl) rfl rfl ?_)))))))
 refine RS.as rfl rfl rfl rfl (RS.done ?_)
 repeat refine gq ?_
 exact ⟨_,_,⟨rfl,rfl⟩,(Nat.zero_le _),Gh.toC (n1:=11) ⟨rfl,trivial⟩ rfl (Nat.zero_le _) (by simp)⟩
 replace h43:=cond_f h41 h43
 replace h43:=Option.some.inj h43
 subst h43
 refine WPU.region Try.tb_ok (RS.mv rfl rfl rfl rfl (RS.op rfl (op_int rfl rfl (ix_eql _ _ _) rfl) rfl rfl (RS.mv rfl rfl rfl rfl (RS.op (u:=.ptr 1 0 0) (want1 rfl rfl rfl h27) (op_fa Try.und27 rfl (sz_of Try.inf22) rfl rfl rfl) rfl rfl (RS.op (u:=.isl false (List.map cGDeriv r5.1.Readings)) (want1 rfl rfl rfl h27) (ld_one Try.und22 rfl rfl rfl rfl) rfl rfl (RS.op (want1 rfl rfl rfl h27) (op_len rfl rfl rfl (len_isl cGDeriv Try.und22)) rfl rfl (RS.op (want1 rfl rfl rfl h27) (op_int rfl rfl (ix_eql _ _ _) rfl) rfl rfl ?_)))))))
 refine RS.op (u:=.bool ((r5.1.Readings.length : Int) == 1)) rfl (op_pick1 rfl h27 rfl) rfl rfl (RS.mv rfl rfl rfl rfl (RS.op (want1 rfl rfl rfl h28) (op_move rfl) rfl rfl (RS.op (u:=.bool (!r7.2)) (want1 rfl rfl rfl h28) (op_un rfl rfl rfl rfl) rfl rfl (RS.op (u:=.bool (!r7.2)) rfl (op_pick1 rfl h28 rfl) rfl rfl (RS.mv rfl rfl rfl rfl (RS.op (want1 rfl rfl rfl h29) (op_move rfl) rfl rfl (RS.op (want1 rfl rfl rfl h29) (op_int rfl rfl (ix_eql _ _ _) rfl) rfl rfl ?_)))))))
 refine RS.op (u:=.bool (r9.2 == 0)) rfl (op_pick1 rfl h29 rfl) rfl rfl (RS.mv rfl rfl rfl rfl (RS.op (u:=.ptr 3 0 2) (want1 rfl rfl rfl h30) (op_fa Try.und27 rfl (sz_of Try.inf3) rfl rfl rfl) rfl rfl (RS.op (u:=.int .i64 r9.1.State) (want1 rfl rfl rfl h30) (ld_one Try.und3 rfl rfl rfl rfl) rfl rfl (RS.op (want1 rfl rfl rfl h30) (op_int rfl rfl (ix_eql _ _ _) rfl) rfl rfl (RS.op (u:=.bool (r9.1.State == 1)) rfl (op_pick1 rfl h30 rfl) rfl rfl (RS.mv rfl rfl rfl rfl (RS.op (want1 rfl rfl rfl h31) (op_move rfl) rfl rfl ?_)))))))
 refine RS.op (want1 rfl rfl rfl h31) (op_int rfl rfl (ix_eql _ _ _) rfl) rfl rfl (RS.op (u:=.bool (r11.2 == 16)) rfl (op_pick1 rfl h31 rfl) rfl rfl (RS.mv rfl rfl rfl rfl (RS.op (want1 rfl rfl rfl h32) (op_move rfl) rfl rfl (RS.op (want1 rfl rfl rfl h32) (op_int rfl rfl (ix_eql _ _ _) rfl) rfl rfl (RS.op (u:=.bool (r17.2 == 0)) rfl (op_pick1 rfl h32 rfl) rfl rfl (RS.mv rfl rfl rfl rfl (RS.op (u:=.ptr 6 0 0) (want1 rfl rfl rfl h33) (op_fa Try.und27 rfl (sz_of Try.inf22) rfl rfl rfl) rfl rfl ?_)))))))
 refine RS.op (u:=.isl false (List.map cGDeriv r17.1.Readings)) (want1 rfl rfl rfl h33) (ld_one Try.und22 rfl rfl rfl rfl) rfl rfl (RS.op (u:=.iptr (xGDeriv x34)) (want1 rfl rfl rfl h33) (op_ia rfl rfl (ia_isl cGDeriv Try.und22 (sz_of Try.inf36) len_cGDeriv h35 (cGDeriv_eq x34))) rfl rfl (RS.op (u:=.iptr [.str x34.Name,.int .i64 x34.From,.int .i64 x34.To,.isl false (List.map cGDeriv x34.Kids)]) (want1 rfl rfl rfl h33) (op_fi Try.und36 rfl (sz_of Try.inf9) rfl rfl) rfl rfl (RS.op (u:=.str x34.Name) (want1 rfl rfl rfl h33) (li_one Try.und9 rfl rfl rfl) rfl rfl (RS.op (u:=.bool (bytesEq x34.Name ([97]))) (want1 rfl rfl rfl h33) (op_str rfl rfl rfl rfl) rfl rfl (RS.op (u:=.bool (bytesEq x34.Name ([97]))) rfl (op_pick1 rfl h33 rfl) rfl rfl (RS.mv rfl rfl rfl rfl (RS.op (want1 rfl rfl rfl h36) (op_move rfl) rfl rfl ?_)))))))
 refine RS.op (u:=.bool r19.2) rfl (op_pick1 rfl h36 rfl) rfl rfl (RS.mv rfl rfl rfl rfl (RS.op (u:=.agg (cGProp r19.1)) (want1 rfl rfl rfl h37) (ld_agg Try.und38 rfl (sz_of Try.inf38) rfl rfl rfl) rfl rfl (RS.op (u:=.agg [.int .i64 0,.str ([97]),.int .i64 0,.int .i64 1]) (want1 rfl rfl rfl h37) (op_bld Try.bd38 rfl rfl rfl) rfl rfl (RS.op (u:=.bool (eqGProp (GProp.mk r19.1.Kind r19.1.Name r19.1.From r19.1.To) (GProp.mk 0 ([97]) 0 1))) (want1 rfl rfl rfl h37) (op_bin rfl rfl (eqq38_eql (GProp.mk r19.1.Kind r19.1.Name r19.1.From r19.1.To) (GProp.mk 0 ([97]) 0 1))) rfl rfl (RS.op (u:=.bool (eqGProp (GProp.mk r19.1.Kind r19.1.Name r19.1.From r19.1.To) (GProp.mk 0 ([97]) 0 1))) rfl (op_pick1 rfl h37 rfl) rfl rfl (RS.mv rfl rfl rfl rfl (RS.op (want1 rfl rfl rfl h38) (op_move rfl) rfl rfl ?_)))))))
 refine RS.op (want1 rfl rfl rfl h38) (op_int rfl rfl (ix_eql _ _ _) rfl) rfl rfl (RS.op (u:=.bool (r21.2 == 0)) rfl (op_pick1 rfl h38 rfl) rfl rfl (RS.mv rfl rfl rfl rfl (RS.op (u:=.ptr 8 0 1) (want1 rfl rfl rfl h39) (op_fa Try.und27 rfl (sz_of Try.inf25) rfl rfl rfl) rfl rfl (RS.op (u:=.isl false (List.map cGDecision r21.1.Decisions)) (want1 rfl rfl rfl h39) (ld_one Try.und25 rfl rfl rfl rfl) rfl rfl (RS.op (want1 rfl rfl rfl h39) (op_len rfl rfl rfl (len_isl cGDecision Try.und25)) rfl rfl (RS.op (want1 rfl rfl rfl h39) (op_int rfl rfl (ix_eql _ _ _) rfl) rfl rfl (RS.op (u:=.bool ((r21.1.Decisions.length : Int) == 1)) rfl (op_pick1 rfl h39 rfl) rfl rfl ?_)))))))
 refine RS.mv rfl rfl rfl rfl (RS.op (want1 rfl rfl rfl h40) (op_move rfl) rfl rfl (RS.op (want1 rfl rfl rfl h40) (op_int rfl rfl (ix_eql _ _ _) rfl) rfl rfl (RS.op (u:=.bool (r23.2 == 17)) rfl (op_pick1 rfl h40 rfl) rfl rfl (RS.mv rfl rfl rfl rfl ?_))))
 repeat refine RS.no (want0 rfl rfl rfl h41) rfl rfl ?_
 refine RS.op (u:=.bool false) rfl (op_pick0 rfl h41 rfl) rfl rfl (RS.as rfl rfl rfl rfl (RS.done ?_))
 repeat refine gq ?_
 exact ⟨_,_,⟨rfl,rfl⟩,(Nat.zero_le _),Gh.toC (n1:=11) ⟨rfl,trivial⟩ rfl (Nat.zero_le _) (by simp)⟩
 replace h43:=cond_f h40 h43
 replace h43:=Option.some.inj h43
 subst h43
 refine WPU.region Try.tb_ok (RS.mv rfl rfl rfl rfl (RS.op rfl (op_int rfl rfl (ix_eql _ _ _) rfl) rfl rfl (RS.mv rfl rfl rfl rfl (RS.op (u:=.ptr 1 0 0) (want1 rfl rfl rfl h27) (op_fa Try.und27 rfl (sz_of Try.inf22) rfl rfl rfl) rfl rfl (RS.op (u:=.isl false (List.map cGDeriv r5.1.Readings)) (want1 rfl rfl rfl h27) (ld_one Try.und22 rfl rfl rfl rfl) rfl rfl (RS.op (want1 rfl rfl rfl h27) (op_len rfl rfl rfl (len_isl cGDeriv Try.und22)) rfl rfl (RS.op (want1 rfl rfl rfl h27) (op_int rfl rfl (ix_eql _ _ _) rfl) rfl rfl ?_)))))))
 refine RS.op (u:=.bool ((r5.1.Readings.length : Int) == 1)) rfl (op_pick1 rfl h27 rfl) rfl rfl (RS.mv rfl rfl rfl rfl (RS.op (want1 rfl rfl rfl h28) (op_move rfl) rfl rfl (RS.op (u:=.bool (!r7.2)) (want1 rfl rfl rfl h28) (op_un rfl rfl rfl rfl) rfl rfl (RS.op (u:=.bool (!r7.2)) rfl (op_pick1 rfl h28 rfl) rfl rfl (RS.mv rfl rfl rfl rfl (RS.op (want1 rfl rfl rfl h29) (op_move rfl) rfl rfl (RS.op (want1 rfl rfl rfl h29) (op_int rfl rfl (ix_eql _ _ _) rfl) rfl rfl ?_)))))))
 refine RS.op (u:=.bool (r9.2 == 0)) rfl (op_pick1 rfl h29 rfl) rfl rfl (RS.mv rfl rfl rfl rfl (RS.op (u:=.ptr 3 0 2) (want1 rfl rfl rfl h30) (op_fa Try.und27 rfl (sz_of Try.inf3) rfl rfl rfl) rfl rfl (RS.op (u:=.int .i64 r9.1.State) (want1 rfl rfl rfl h30) (ld_one Try.und3 rfl rfl rfl rfl) rfl rfl (RS.op (want1 rfl rfl rfl h30) (op_int rfl rfl (ix_eql _ _ _) rfl) rfl rfl (RS.op (u:=.bool (r9.1.State == 1)) rfl (op_pick1 rfl h30 rfl) rfl rfl (RS.mv rfl rfl rfl rfl (RS.op (want1 rfl rfl rfl h31) (op_move rfl) rfl rfl ?_)))))))
 refine RS.op (want1 rfl rfl rfl h31) (op_int rfl rfl (ix_eql _ _ _) rfl) rfl rfl (RS.op (u:=.bool (r11.2 == 16)) rfl (op_pick1 rfl h31 rfl) rfl rfl (RS.mv rfl rfl rfl rfl (RS.op (want1 rfl rfl rfl h32) (op_move rfl) rfl rfl (RS.op (want1 rfl rfl rfl h32) (op_int rfl rfl (ix_eql _ _ _) rfl) rfl rfl (RS.op (u:=.bool (r17.2 == 0)) rfl (op_pick1 rfl h32 rfl) rfl rfl (RS.mv rfl rfl rfl rfl (RS.op (u:=.ptr 6 0 0) (want1 rfl rfl rfl h33) (op_fa Try.und27 rfl (sz_of Try.inf22) rfl rfl rfl) rfl rfl ?_)))))))
 refine RS.op (u:=.isl false (List.map cGDeriv r17.1.Readings)) (want1 rfl rfl rfl h33) (ld_one Try.und22 rfl rfl rfl rfl) rfl rfl (RS.op (u:=.iptr (xGDeriv x34)) (want1 rfl rfl rfl h33) (op_ia rfl rfl (ia_isl cGDeriv Try.und22 (sz_of Try.inf36) len_cGDeriv h35 (cGDeriv_eq x34))) rfl rfl (RS.op (u:=.iptr [.str x34.Name,.int .i64 x34.From,.int .i64 x34.To,.isl false (List.map cGDeriv x34.Kids)]) (want1 rfl rfl rfl h33) (op_fi Try.und36 rfl (sz_of Try.inf9) rfl rfl) rfl rfl (RS.op (u:=.str x34.Name) (want1 rfl rfl rfl h33) (li_one Try.und9 rfl rfl rfl) rfl rfl (RS.op (u:=.bool (bytesEq x34.Name ([97]))) (want1 rfl rfl rfl h33) (op_str rfl rfl rfl rfl) rfl rfl (RS.op (u:=.bool (bytesEq x34.Name ([97]))) rfl (op_pick1 rfl h33 rfl) rfl rfl (RS.mv rfl rfl rfl rfl (RS.op (want1 rfl rfl rfl h36) (op_move rfl) rfl rfl ?_)))))))
 refine RS.op (u:=.bool r19.2) rfl (op_pick1 rfl h36 rfl) rfl rfl (RS.mv rfl rfl rfl rfl (RS.op (u:=.agg (cGProp r19.1)) (want1 rfl rfl rfl h37) (ld_agg Try.und38 rfl (sz_of Try.inf38) rfl rfl rfl) rfl rfl (RS.op (u:=.agg [.int .i64 0,.str ([97]),.int .i64 0,.int .i64 1]) (want1 rfl rfl rfl h37) (op_bld Try.bd38 rfl rfl rfl) rfl rfl (RS.op (u:=.bool (eqGProp (GProp.mk r19.1.Kind r19.1.Name r19.1.From r19.1.To) (GProp.mk 0 ([97]) 0 1))) (want1 rfl rfl rfl h37) (op_bin rfl rfl (eqq38_eql (GProp.mk r19.1.Kind r19.1.Name r19.1.From r19.1.To) (GProp.mk 0 ([97]) 0 1))) rfl rfl (RS.op (u:=.bool (eqGProp (GProp.mk r19.1.Kind r19.1.Name r19.1.From r19.1.To) (GProp.mk 0 ([97]) 0 1))) rfl (op_pick1 rfl h37 rfl) rfl rfl (RS.mv rfl rfl rfl rfl (RS.op (want1 rfl rfl rfl h38) (op_move rfl) rfl rfl ?_)))))))
 refine RS.op (want1 rfl rfl rfl h38) (op_int rfl rfl (ix_eql _ _ _) rfl) rfl rfl (RS.op (u:=.bool (r21.2 == 0)) rfl (op_pick1 rfl h38 rfl) rfl rfl (RS.mv rfl rfl rfl rfl (RS.op (u:=.ptr 8 0 1) (want1 rfl rfl rfl h39) (op_fa Try.und27 rfl (sz_of Try.inf25) rfl rfl rfl) rfl rfl (RS.op (u:=.isl false (List.map cGDecision r21.1.Decisions)) (want1 rfl rfl rfl h39) (ld_one Try.und25 rfl rfl rfl rfl) rfl rfl (RS.op (want1 rfl rfl rfl h39) (op_len rfl rfl rfl (len_isl cGDecision Try.und25)) rfl rfl (RS.op (want1 rfl rfl rfl h39) (op_int rfl rfl (ix_eql _ _ _) rfl) rfl rfl (RS.op (u:=.bool ((r21.1.Decisions.length : Int) == 1)) rfl (op_pick1 rfl h39 rfl) rfl rfl ?_)))))))
 refine RS.mv rfl rfl rfl rfl ?_
 repeat refine RS.no (want0 rfl rfl rfl h40) rfl rfl ?_
 refine RS.op (u:=.bool false) rfl (op_pick0 rfl h40 rfl) rfl rfl (RS.mv rfl rfl rfl rfl ?_)
 repeat refine RS.no (want0 rfl rfl rfl rfl) rfl rfl ?_
 refine RS.op (u:=.bool false) rfl (op_pick0 rfl rfl rfl) rfl rfl (RS.as rfl rfl rfl rfl (RS.done ?_))
 repeat refine gq ?_
 exact ⟨_,_,⟨rfl,rfl⟩,(Nat.zero_le _),Gh.toC (n1:=11) ⟨rfl,trivial⟩ rfl (Nat.zero_le _) (by simp)⟩
 replace h43:=cond_f h39 h43
 replace h43:=Option.some.inj h43
 subst h43
 refine WPU.region Try.tb_ok (RS.mv rfl rfl rfl rfl (RS.op rfl (op_int rfl rfl (ix_eql _ _ _) rfl) rfl rfl (RS.mv rfl rfl rfl rfl (RS.op (u:=.ptr 1 0 0) (want1 rfl rfl rfl h27) (op_fa Try.und27 rfl (sz_of Try.inf22) rfl rfl rfl) rfl rfl (RS.op (u:=.isl false (List.map cGDeriv r5.1.Readings)) (want1 rfl rfl rfl h27) (ld_one Try.und22 rfl rfl rfl rfl) rfl rfl (RS.op (want1 rfl rfl rfl h27) (op_len rfl rfl rfl (len_isl cGDeriv Try.und22)) rfl rfl (RS.op (want1 rfl rfl rfl h27) (op_int rfl rfl (ix_eql _ _ _) rfl) rfl rfl ?_)))))))
 refine RS.op (u:=.bool ((r5.1.Readings.length : Int) == 1)) rfl (op_pick1 rfl h27 rfl) rfl rfl (RS.mv rfl rfl rfl rfl (RS.op (want1 rfl rfl rfl h28) (op_move rfl) rfl rfl (RS.op (u:=.bool (!r7.2)) (want1 rfl rfl rfl h28) (op_un rfl rfl rfl rfl) rfl rfl (RS.op (u:=.bool (!r7.2)) rfl (op_pick1 rfl h28 rfl) rfl rfl (RS.mv rfl rfl rfl rfl (RS.op (want1 rfl rfl rfl h29) (op_move rfl) rfl rfl (RS.op (want1 rfl rfl rfl h29) (op_int rfl rfl (ix_eql _ _ _) rfl) rfl rfl ?_)))))))
 refine RS.op (u:=.bool (r9.2 == 0)) rfl (op_pick1 rfl h29 rfl) rfl rfl (RS.mv rfl rfl rfl rfl (RS.op (u:=.ptr 3 0 2) (want1 rfl rfl rfl h30) (op_fa Try.und27 rfl (sz_of Try.inf3) rfl rfl rfl) rfl rfl (RS.op (u:=.int .i64 r9.1.State) (want1 rfl rfl rfl h30) (ld_one Try.und3 rfl rfl rfl rfl) rfl rfl (RS.op (want1 rfl rfl rfl h30) (op_int rfl rfl (ix_eql _ _ _) rfl) rfl rfl (RS.op (u:=.bool (r9.1.State == 1)) rfl (op_pick1 rfl h30 rfl) rfl rfl (RS.mv rfl rfl rfl rfl (RS.op (want1 rfl rfl rfl h31) (op_move rfl) rfl rfl ?_)))))))
 refine RS.op (want1 rfl rfl rfl h31) (op_int rfl rfl (ix_eql _ _ _) rfl) rfl rfl (RS.op (u:=.bool (r11.2 == 16)) rfl (op_pick1 rfl h31 rfl) rfl rfl (RS.mv rfl rfl rfl rfl (RS.op (want1 rfl rfl rfl h32) (op_move rfl) rfl rfl (RS.op (want1 rfl rfl rfl h32) (op_int rfl rfl (ix_eql _ _ _) rfl) rfl rfl (RS.op (u:=.bool (r17.2 == 0)) rfl (op_pick1 rfl h32 rfl) rfl rfl (RS.mv rfl rfl rfl rfl (RS.op (u:=.ptr 6 0 0) (want1 rfl rfl rfl h33) (op_fa Try.und27 rfl (sz_of Try.inf22) rfl rfl rfl) rfl rfl ?_)))))))
 refine RS.op (u:=.isl false (List.map cGDeriv r17.1.Readings)) (want1 rfl rfl rfl h33) (ld_one Try.und22 rfl rfl rfl rfl) rfl rfl (RS.op (u:=.iptr (xGDeriv x34)) (want1 rfl rfl rfl h33) (op_ia rfl rfl (ia_isl cGDeriv Try.und22 (sz_of Try.inf36) len_cGDeriv h35 (cGDeriv_eq x34))) rfl rfl (RS.op (u:=.iptr [.str x34.Name,.int .i64 x34.From,.int .i64 x34.To,.isl false (List.map cGDeriv x34.Kids)]) (want1 rfl rfl rfl h33) (op_fi Try.und36 rfl (sz_of Try.inf9) rfl rfl) rfl rfl (RS.op (u:=.str x34.Name) (want1 rfl rfl rfl h33) (li_one Try.und9 rfl rfl rfl) rfl rfl (RS.op (u:=.bool (bytesEq x34.Name ([97]))) (want1 rfl rfl rfl h33) (op_str rfl rfl rfl rfl) rfl rfl (RS.op (u:=.bool (bytesEq x34.Name ([97]))) rfl (op_pick1 rfl h33 rfl) rfl rfl (RS.mv rfl rfl rfl rfl (RS.op (want1 rfl rfl rfl h36) (op_move rfl) rfl rfl ?_)))))))
 refine RS.op (u:=.bool r19.2) rfl (op_pick1 rfl h36 rfl) rfl rfl (RS.mv rfl rfl rfl rfl (RS.op (u:=.agg (cGProp r19.1)) (want1 rfl rfl rfl h37) (ld_agg Try.und38 rfl (sz_of Try.inf38) rfl rfl rfl) rfl rfl (RS.op (u:=.agg [.int .i64 0,.str ([97]),.int .i64 0,.int .i64 1]) (want1 rfl rfl rfl h37) (op_bld Try.bd38 rfl rfl rfl) rfl rfl (RS.op (u:=.bool (eqGProp (GProp.mk r19.1.Kind r19.1.Name r19.1.From r19.1.To) (GProp.mk 0 ([97]) 0 1))) (want1 rfl rfl rfl h37) (op_bin rfl rfl (eqq38_eql (GProp.mk r19.1.Kind r19.1.Name r19.1.From r19.1.To) (GProp.mk 0 ([97]) 0 1))) rfl rfl (RS.op (u:=.bool (eqGProp (GProp.mk r19.1.Kind r19.1.Name r19.1.From r19.1.To) (GProp.mk 0 ([97]) 0 1))) rfl (op_pick1 rfl h37 rfl) rfl rfl (RS.mv rfl rfl rfl rfl (RS.op (want1 rfl rfl rfl h38) (op_move rfl) rfl rfl ?_)))))))
 refine RS.op (want1 rfl rfl rfl h38) (op_int rfl rfl (ix_eql _ _ _) rfl) rfl rfl (RS.op (u:=.bool (r21.2 == 0)) rfl (op_pick1 rfl h38 rfl) rfl rfl (RS.mv rfl rfl rfl rfl ?_))
 repeat refine RS.no (want0 rfl rfl rfl h39) rfl rfl ?_
 refine RS.op (u:=.bool false) rfl (op_pick0 rfl h39 rfl) rfl rfl (RS.mv rfl rfl rfl rfl ?_)
 repeat refine RS.no (want0 rfl rfl rfl rfl) rfl rfl ?_
 refine RS.op (u:=.bool false) rfl (op_pick0 rfl rfl rfl) rfl rfl (RS.mv rfl rfl rfl rfl ?_)
 repeat refine RS.no (want0 rfl rfl rfl rfl) rfl rfl ?_
 refine RS.op (u:=.bool false) rfl (op_pick0 rfl rfl rfl) rfl rfl (RS.as rfl rfl rfl rfl (RS.done ?_))
 repeat refine gq ?_
 exact ⟨_,_,⟨rfl,rfl⟩,(Nat.zero_le _),Gh.toC (n1:=11) ⟨rfl,trivial⟩ rfl (Nat.zero_le _) (by simp)⟩
 replace h43:=cond_f h38 h43
 replace h43:=Option.some.inj h43
 subst h43
 refine WPU.region Try.tb_ok (RS.mv rfl rfl rfl rfl (RS.op rfl (op_int rfl rfl (ix_eql _ _ _) rfl) rfl rfl (RS.mv rfl rfl rfl rfl (RS.op (u:=.ptr 1 0 0) (want1 rfl rfl rfl h27) (op_fa Try.und27 rfl (sz_of Try.inf22) rfl rfl rfl) rfl rfl (RS.op (u:=.isl false (List.map cGDeriv r5.1.Readings)) (want1 rfl rfl rfl h27) (ld_one Try.und22 rfl rfl rfl rfl) rfl rfl (RS.op (want1 rfl rfl rfl h27) (op_len rfl rfl rfl (len_isl cGDeriv Try.und22)) rfl rfl (RS.op (want1 rfl rfl rfl h27) (op_int rfl rfl (ix_eql _ _ _) rfl) rfl rfl ?_)))))))
 refine RS.op (u:=.bool ((r5.1.Readings.length : Int) == 1)) rfl (op_pick1 rfl h27 rfl) rfl rfl (RS.mv rfl rfl rfl rfl (RS.op (want1 rfl rfl rfl h28) (op_move rfl) rfl rfl (RS.op (u:=.bool (!r7.2)) (want1 rfl rfl rfl h28) (op_un rfl rfl rfl rfl) rfl rfl (RS.op (u:=.bool (!r7.2)) rfl (op_pick1 rfl h28 rfl) rfl rfl (RS.mv rfl rfl rfl rfl (RS.op (want1 rfl rfl rfl h29) (op_move rfl) rfl rfl (RS.op (want1 rfl rfl rfl h29) (op_int rfl rfl (ix_eql _ _ _) rfl) rfl rfl ?_)))))))
 refine RS.op (u:=.bool (r9.2 == 0)) rfl (op_pick1 rfl h29 rfl) rfl rfl (RS.mv rfl rfl rfl rfl (RS.op (u:=.ptr 3 0 2) (want1 rfl rfl rfl h30) (op_fa Try.und27 rfl (sz_of Try.inf3) rfl rfl rfl) rfl rfl (RS.op (u:=.int .i64 r9.1.State) (want1 rfl rfl rfl h30) (ld_one Try.und3 rfl rfl rfl rfl) rfl rfl (RS.op (want1 rfl rfl rfl h30) (op_int rfl rfl (ix_eql _ _ _) rfl) rfl rfl (RS.op (u:=.bool (r9.1.State == 1)) rfl (op_pick1 rfl h30 rfl) rfl rfl (RS.mv rfl rfl rfl rfl (RS.op (want1 rfl rfl rfl h31) (op_move rfl) rfl rfl ?_)))))))
 refine RS.op (want1 rfl rfl rfl h31) (op_int rfl rfl (ix_eql _ _ _) rfl) rfl rfl (RS.op (u:=.bool (r11.2 == 16)) rfl (op_pick1 rfl h31 rfl) rfl rfl (RS.mv rfl rfl rfl rfl (RS.op (want1 rfl rfl rfl h32) (op_move rfl) rfl rfl (RS.op (want1 rfl rfl rfl h32) (op_int rfl rfl (ix_eql _ _ _) rfl) rfl rfl (RS.op (u:=.bool (r17.2 == 0)) rfl (op_pick1 rfl h32 rfl) rfl rfl (RS.mv rfl rfl rfl rfl (RS.op (u:=.ptr 6 0 0) (want1 rfl rfl rfl h33) (op_fa Try.und27 rfl (sz_of Try.inf22) rfl rfl rfl) rfl rfl ?_)))))))
 refine RS.op (u:=.isl false (List.map cGDeriv r17.1.Readings)) (want1 rfl rfl rfl h33) (ld_one Try.und22 rfl rfl rfl rfl) rfl rfl (RS.op (u:=.iptr (xGDeriv x34)) (want1 rfl rfl rfl h33) (op_ia rfl rfl (ia_isl cGDeriv Try.und22 (sz_of Try.inf36) len_cGDeriv h35 (cGDeriv_eq x34))) rfl rfl (RS.op (u:=.iptr [.str x34.Name,.int .i64 x34.From,.int .i64 x34.To,.isl false (List.map cGDeriv x34.Kids)]) (want1 rfl rfl rfl h33) (op_fi Try.und36 rfl (sz_of Try.inf9) rfl rfl) rfl rfl (RS.op (u:=.str x34.Name) (want1 rfl rfl rfl h33) (li_one Try.und9 rfl rfl rfl) rfl rfl (RS.op (u:=.bool (bytesEq x34.Name ([97]))) (want1 rfl rfl rfl h33) (op_str rfl rfl rfl rfl) rfl rfl (RS.op (u:=.bool (bytesEq x34.Name ([97]))) rfl (op_pick1 rfl h33 rfl) rfl rfl (RS.mv rfl rfl rfl rfl (RS.op (want1 rfl rfl rfl h36) (op_move rfl) rfl rfl ?_)))))))
 refine RS.op (u:=.bool r19.2) rfl (op_pick1 rfl h36 rfl) rfl rfl (RS.mv rfl rfl rfl rfl (RS.op (u:=.agg (cGProp r19.1)) (want1 rfl rfl rfl h37) (ld_agg Try.und38 rfl (sz_of Try.inf38) rfl rfl rfl) rfl rfl (RS.op (u:=.agg [.int .i64 0,.str ([97]),.int .i64 0,.int .i64 1]) (want1 rfl rfl rfl h37) (op_bld Try.bd38 rfl rfl rfl) rfl rfl (RS.op (u:=.bool (eqGProp (GProp.mk r19.1.Kind r19.1.Name r19.1.From r19.1.To) (GProp.mk 0 ([97]) 0 1))) (want1 rfl rfl rfl h37) (op_bin rfl rfl (eqq38_eql (GProp.mk r19.1.Kind r19.1.Name r19.1.From r19.1.To) (GProp.mk 0 ([97]) 0 1))) rfl rfl (RS.op (u:=.bool (eqGProp (GProp.mk r19.1.Kind r19.1.Name r19.1.From r19.1.To) (GProp.mk 0 ([97]) 0 1))) rfl (op_pick1 rfl h37 rfl) rfl rfl (RS.mv rfl rfl rfl rfl ?_))))))
 repeat refine RS.no (want0 rfl rfl rfl h38) rfl rfl ?_
 refine RS.op (u:=.bool false) rfl (op_pick0 rfl h38 rfl) rfl rfl (RS.mv rfl rfl rfl rfl ?_)
 repeat refine RS.no (want0 rfl rfl rfl rfl) rfl rfl ?_
 refine RS.op (u:=.bool false) rfl (op_pick0 rfl rfl rfl) rfl rfl (RS.mv rfl rfl rfl rfl ?_)
 repeat refine RS.no (want0 rfl rfl rfl rfl) rfl rfl ?_
 refine RS.op (u:=.bool false) rfl (op_pick0 rfl rfl rfl) rfl rfl (RS.mv rfl rfl rfl rfl ?_)
 repeat refine RS.no (want0 rfl rfl rfl rfl) rfl rfl ?_
 refine RS.op (u:=.bool false) rfl (op_pick0 rfl rfl rfl) rfl rfl (RS.as rfl rfl rfl rfl (RS.done ?_))
 repeat refine gq ?_
 exact ⟨_,_,⟨rfl,rfl⟩,(Nat.zero_le _),Gh.toC (n1:=11) ⟨rfl,trivial⟩ rfl (Nat.zero_le _) (by simp)⟩
 replace h43:=cond_f h37 h43
 replace h43:=Option.some.inj h43
 subst h43
 refine WPU.region Try.tb_ok (RS.mv rfl rfl rfl rfl (RS.op rfl (op_int rfl rfl (ix_eql _ _ _) rfl) rfl rfl (RS.mv rfl rfl rfl rfl (RS.op (u:=.ptr 1 0 0) (want1 rfl rfl rfl h27) (op_fa Try.und27 rfl (sz_of Try.inf22) rfl rfl rfl) rfl rfl (RS.op (u:=.isl false (List.map cGDeriv r5.1.Readings)) (want1 rfl rfl rfl h27) (ld_one Try.und22 rfl rfl rfl rfl) rfl rfl (RS.op (want1 rfl rfl rfl h27) (op_len rfl rfl rfl (len_isl cGDeriv Try.und22)) rfl rfl (RS.op (want1 rfl rfl rfl h27) (op_int rfl rfl (ix_eql _ _ _) rfl) rfl rfl ?_)))))))
 refine RS.op (u:=.bool ((r5.1.Readings.length : Int) == 1)) rfl (op_pick1 rfl h27 rfl) rfl rfl (RS.mv rfl rfl rfl rfl (RS.op (want1 rfl rfl rfl h28) (op_move rfl) rfl rfl (RS.op (u:=.bool (!r7.2)) (want1 rfl rfl rfl h28) (op_un rfl rfl rfl rfl) rfl rfl (RS.op (u:=.bool (!r7.2)) rfl (op_pick1 rfl h28 rfl) rfl rfl (RS.mv rfl rfl rfl rfl (RS.op (want1 rfl rfl rfl h29) (op_move rfl) rfl rfl (RS.op (want1 rfl rfl rfl h29) (op_int rfl rfl (ix_eql _ _ _) rfl) rfl rfl ?_)))))))
 refine RS.op (u:=.bool (r9.2 == 0)) rfl (op_pick1 rfl h29 rfl) rfl rfl (RS.mv rfl rfl rfl rfl (RS.op (u:=.ptr 3 0 2) (want1 rfl rfl rfl h30) (op_fa Try.und27 rfl (sz_of Try.inf3) rfl rfl rfl) rfl rfl (RS.op (u:=.int .i64 r9.1.State) (want1 rfl rfl rfl h30) (ld_one Try.und3 rfl rfl rfl rfl) rfl rfl (RS.op (want1 rfl rfl rfl h30) (op_int rfl rfl (ix_eql _ _ _) rfl) rfl rfl (RS.op (u:=.bool (r9.1.State == 1)) rfl (op_pick1 rfl h30 rfl) rfl rfl (RS.mv rfl rfl rfl rfl (RS.op (want1 rfl rfl rfl h31) (op_move rfl) rfl rfl ?_)))))))
 refine RS.op (want1 rfl rfl rfl h31) (op_int rfl rfl (ix_eql _ _ _) rfl) rfl rfl (RS.op (u:=.bool (r11.2 == 16)) rfl (op_pick1 rfl h31 rfl) rfl rfl (RS.mv rfl rfl rfl rfl (RS.op (want1 rfl rfl rfl h32) (op_move rfl) rfl rfl (RS.op (want1 rfl rfl rfl h32) (op_int rfl rfl (ix_eql _ _ _) rfl) rfl rfl (RS.op (u:=.bool (r17.2 == 0)) rfl (op_pick1 rfl h32 rfl) rfl rfl (RS.mv rfl rfl rfl rfl (RS.op (u:=.ptr 6 0 0) (want1 rfl rfl rfl h33) (op_fa Try.und27 rfl (sz_of Try.inf22) rfl rfl rfl) rfl rfl ?_)))))))
 refine RS.op (u:=.isl false (List.map cGDeriv r17.1.Readings)) (want1 rfl rfl rfl h33) (ld_one Try.und22 rfl rfl rfl rfl) rfl rfl (RS.op (u:=.iptr (xGDeriv x34)) (want1 rfl rfl rfl h33) (op_ia rfl rfl (ia_isl cGDeriv Try.und22 (sz_of Try.inf36) len_cGDeriv h35 (cGDeriv_eq x34))) rfl rfl (RS.op (u:=.iptr [.str x34.Name,.int .i64 x34.From,.int .i64 x34.To,.isl false (List.map cGDeriv x34.Kids)]) (want1 rfl rfl rfl h33) (op_fi Try.und36 rfl (sz_of Try.inf9) rfl rfl) rfl rfl (RS.op (u:=.str x34.Name) (want1 rfl rfl rfl h33) (li_one Try.und9 rfl rfl rfl) rfl rfl (RS.op (u:=.bool (bytesEq x34.Name ([97]))) (want1 rfl rfl rfl h33) (op_str rfl rfl rfl rfl) rfl rfl (RS.op (u:=.bool (bytesEq x34.Name ([97]))) rfl (op_pick1 rfl h33 rfl) rfl rfl (RS.mv rfl rfl rfl rfl (RS.op (want1 rfl rfl rfl h36) (op_move rfl) rfl rfl ?_)))))))
 refine RS.op (u:=.bool r19.2) rfl (op_pick1 rfl h36 rfl) rfl rfl (RS.mv rfl rfl rfl rfl ?_)
 repeat refine RS.no (want0 rfl rfl rfl h37) rfl rfl ?_
 refine RS.op (u:=.bool false) rfl (op_pick0 rfl h37 rfl) rfl rfl (RS.mv rfl rfl rfl rfl ?_)
 repeat refine RS.no (want0 rfl rfl rfl rfl) rfl rfl ?_
 refine RS.op (u:=.bool false) rfl (op_pick0 rfl rfl rfl) rfl rfl (RS.mv rfl rfl rfl rfl ?_)
 repeat refine RS.no (want0 rfl rfl rfl rfl) rfl rfl ?_
 refine RS.op (u:=.bool false) rfl (op_pick0 rfl rfl rfl) rfl rfl (RS.mv rfl rfl rfl rfl ?_)
 repeat refine RS.no (want0 rfl rfl rfl rfl) rfl rfl ?_
 refine RS.op (u:=.bool false) rfl (op_pick0 rfl rfl rfl) rfl rfl (RS.mv rfl rfl rfl rfl ?_)
 repeat refine RS.no (want0 rfl rfl rfl rfl) rfl rfl ?_
 refine RS.op (u:=.bool false) rfl (op_pick0 rfl rfl rfl) rfl rfl (RS.as rfl rfl rfl rfl (RS.done ?_))
 repeat refine gq ?_
 exact ⟨_,_,⟨rfl,rfl⟩,(Nat.zero_le _),Gh.toC (n1:=11) ⟨rfl,trivial⟩ rfl (Nat.zero_le _) (by simp)⟩
 replace h43:=cond_f h36 h43
 replace h43:=Option.some.inj h43
 subst h43
 refine WPU.region Try.tb_ok (RS.mv rfl rfl rfl rfl (RS.op rfl (op_int rfl rfl (ix_eql _ _ _) rfl) rfl rfl (RS.mv rfl rfl rfl rfl (RS.op (u:=.ptr 1 0 0) (want1 rfl rfl rfl h27) (op_fa Try.und27 rfl (sz_of Try.inf22) rfl rfl rfl) rfl rfl (RS.op (u:=.isl false (List.map cGDeriv r5.1.Readings)) (want1 rfl rfl rfl h27) (ld_one Try.und22 rfl rfl rfl rfl) rfl rfl (RS.op (want1 rfl rfl rfl h27) (op_len rfl rfl rfl (len_isl cGDeriv Try.und22)) rfl rfl (RS.op (want1 rfl rfl rfl h27) (op_int rfl rfl (ix_eql _ _ _) rfl) rfl rfl ?_)))))))
 refine RS.op (u:=.bool ((r5.1.Readings.length : Int) == 1)) rfl (op_pick1 rfl h27 rfl) rfl rfl (RS.mv rfl rfl rfl rfl (RS.op (want1 rfl rfl rfl h28) (op_move rfl) rfl rfl (RS.op (u:=.bool (!r7.2)) (want1 rfl rfl rfl h28) (op_un rfl rfl rfl rfl) rfl rfl (RS.op (u:=.bool (!r7.2)) rfl (op_pick1 rfl h28 rfl) rfl rfl (RS.mv rfl rfl rfl rfl (RS.op (want1 rfl rfl rfl h29) (op_move rfl) rfl rfl (RS.op (want1 rfl rfl rfl h29) (op_int rfl rfl (ix_eql _ _ _) rfl) rfl rfl ?_)))))))
 refine RS.op (u:=.bool (r9.2 == 0)) rfl (op_pick1 rfl h29 rfl) rfl rfl (RS.mv rfl rfl rfl rfl (RS.op (u:=.ptr 3 0 2) (want1 rfl rfl rfl h30) (op_fa Try.und27 rfl (sz_of Try.inf3) rfl rfl rfl) rfl rfl (RS.op (u:=.int .i64 r9.1.State) (want1 rfl rfl rfl h30) (ld_one Try.und3 rfl rfl rfl rfl) rfl rfl (RS.op (want1 rfl rfl rfl h30) (op_int rfl rfl (ix_eql _ _ _) rfl) rfl rfl (RS.op (u:=.bool (r9.1.State == 1)) rfl (op_pick1 rfl h30 rfl) rfl rfl (RS.mv rfl rfl rfl rfl (RS.op (want1 rfl rfl rfl h31) (op_move rfl) rfl rfl ?_)))))))
 refine RS.op (want1 rfl rfl rfl h31) (op_int rfl rfl (ix_eql _ _ _) rfl) rfl rfl (RS.op (u:=.bool (r11.2 == 16)) rfl (op_pick1 rfl h31 rfl) rfl rfl (RS.mv rfl rfl rfl rfl (RS.op (want1 rfl rfl rfl h32) (op_move rfl) rfl rfl (RS.op (want1 rfl rfl rfl h32) (op_int rfl rfl (ix_eql _ _ _) rfl) rfl rfl (RS.op (u:=.bool (r17.2 == 0)) rfl (op_pick1 rfl h32 rfl) rfl rfl (RS.mv rfl rfl rfl rfl (RS.op (u:=.ptr 6 0 0) (want1 rfl rfl rfl h33) (op_fa Try.und27 rfl (sz_of Try.inf22) rfl rfl rfl) rfl rfl ?_)))))))
 refine RS.op (u:=.isl false (List.map cGDeriv r17.1.Readings)) (want1 rfl rfl rfl h33) (ld_one Try.und22 rfl rfl rfl rfl) rfl rfl (RS.op (u:=.iptr (xGDeriv x34)) (want1 rfl rfl rfl h33) (op_ia rfl rfl (ia_isl cGDeriv Try.und22 (sz_of Try.inf36) len_cGDeriv h35 (cGDeriv_eq x34))) rfl rfl (RS.op (u:=.iptr [.str x34.Name,.int .i64 x34.From,.int .i64 x34.To,.isl false (List.map cGDeriv x34.Kids)]) (want1 rfl rfl rfl h33) (op_fi Try.und36 rfl (sz_of Try.inf9) rfl rfl) rfl rfl (RS.op (u:=.str x34.Name) (want1 rfl rfl rfl h33) (li_one Try.und9 rfl rfl rfl) rfl rfl (RS.op (u:=.bool (bytesEq x34.Name ([97]))) (want1 rfl rfl rfl h33) (op_str rfl rfl rfl rfl) rfl rfl (RS.op (u:=.bool (bytesEq x34.Name ([97]))) rfl (op_pick1 rfl h33 rfl) rfl rfl (RS.mv rfl rfl rfl rfl (RS.no (want0 rfl rfl rfl h36) rfl rfl ?_)))))))
 refine RS.op (u:=.bool false) rfl (op_pick0 rfl h36 rfl) rfl rfl (RS.mv rfl rfl rfl rfl ?_)
 repeat refine RS.no (want0 rfl rfl rfl rfl) rfl rfl ?_
 refine RS.op (u:=.bool false) rfl (op_pick0 rfl rfl rfl) rfl rfl (RS.mv rfl rfl rfl rfl ?_)
 repeat refine RS.no (want0 rfl rfl rfl rfl) rfl rfl ?_
 refine RS.op (u:=.bool false) rfl (op_pick0 rfl rfl rfl) rfl rfl (RS.mv rfl rfl rfl rfl ?_)
 repeat refine RS.no (want0 rfl rfl rfl rfl) rfl rfl ?_
 refine RS.op (u:=.bool false) rfl (op_pick0 rfl rfl rfl) rfl rfl (RS.mv rfl rfl rfl rfl ?_)
 repeat refine RS.no (want0 rfl rfl rfl rfl) rfl rfl ?_
 refine RS.op (u:=.bool false) rfl (op_pick0 rfl rfl rfl) rfl rfl (RS.mv rfl rfl rfl rfl ?_)
 repeat refine RS.no (want0 rfl rfl rfl rfl) rfl rfl ?_
 refine RS.op (u:=.bool false) rfl (op_pick0 rfl rfl rfl) rfl rfl (RS.as rfl rfl rfl rfl (RS.done ?_))
 repeat refine gq ?_
 exact ⟨_,_,⟨rfl,rfl⟩,(Nat.zero_le _),Gh.toC (n1:=11) ⟨rfl,trivial⟩ rfl (Nat.zero_le _) (by simp)⟩
 replace h43:=cond_f h33 h43
 replace h43:=Option.some.inj h43
 subst h43
 refine WPU.region Try.tb_ok (RS.mv rfl rfl rfl rfl (RS.op rfl (op_int rfl rfl (ix_eql _ _ _) rfl) rfl rfl (RS.mv rfl rfl rfl rfl (RS.op (u:=.ptr 1 0 0) (want1 rfl rfl rfl h27) (op_fa Try.und27 rfl (sz_of Try.inf22) rfl rfl rfl) rfl rfl (RS.op (u:=.isl false (List.map cGDeriv r5.1.Readings)) (want1 rfl rfl rfl h27) (ld_one Try.und22 rfl rfl rfl rfl) rfl rfl (RS.op (want1 rfl rfl rfl h27) (op_len rfl rfl rfl (len_isl cGDeriv Try.und22)) rfl rfl (RS.op (want1 rfl rfl rfl h27) (op_int rfl rfl (ix_eql _ _ _) rfl) rfl rfl ?_)))))))
 refine RS.op (u:=.bool ((r5.1.Readings.length : Int) == 1)) rfl (op_pick1 rfl h27 rfl) rfl rfl (RS.mv rfl rfl rfl rfl (RS.op (want1 rfl rfl rfl h28) (op_move rfl) rfl rfl (RS.op (u:=.bool (!r7.2)) (want1 rfl rfl rfl h28) (op_un rfl rfl rfl rfl) rfl rfl (RS.op (u:=.bool (!r7.2)) rfl (op_pick1 rfl h28 rfl) rfl rfl (RS.mv rfl rfl rfl rfl (RS.op (want1 rfl rfl rfl h29) (op_move rfl) rfl rfl (RS.op (want1 rfl rfl rfl h29) (op_int rfl rfl (ix_eql _ _ _) rfl) rfl rfl ?_)))))))
 refine RS.op (u:=.bool (r9.2 == 0)) rfl (op_pick1 rfl h29 rfl) rfl rfl (RS.mv rfl rfl rfl rfl (RS.op (u:=.ptr 3 0 2) (want1 rfl rfl rfl h30) (op_fa Try.und27 rfl (sz_of Try.inf3) rfl rfl rfl) rfl rfl (RS.op (u:=.int .i64 r9.1.State) (want1 rfl rfl rfl h30) (ld_one Try.und3 rfl rfl rfl rfl) rfl rfl (RS.op (want1 rfl rfl rfl h30) (op_int rfl rfl (ix_eql _ _ _) rfl) rfl rfl (RS.op (u:=.bool (r9.1.State == 1)) rfl (op_pick1 rfl h30 rfl) rfl rfl (RS.mv rfl rfl rfl rfl (RS.op (want1 rfl rfl rfl h31) (op_move rfl) rfl rfl ?_)))))))
 refine RS.op (want1 rfl rfl rfl h31) (op_int rfl rfl (ix_eql _ _ _) rfl) rfl rfl (RS.op (u:=.bool (r11.2 == 16)) rfl (op_pick1 rfl h31 rfl) rfl rfl (RS.mv rfl rfl rfl rfl (RS.op (want1 rfl rfl rfl h32) (op_move rfl) rfl rfl (RS.op (want1 rfl rfl rfl h32) (op_int rfl rfl (ix_eql _ _ _) rfl) rfl rfl (RS.op (u:=.bool (r17.2 == 0)) rfl (op_pick1 rfl h32 rfl) rfl rfl (RS.mv rfl rfl rfl rfl ?_))))))
 repeat refine RS.no (want0 rfl rfl rfl h33) rfl rfl ?_
 refine RS.op (u:=.bool false) rfl (op_pick0 rfl h33 rfl) rfl rfl (RS.mv rfl rfl rfl rfl (RS.no (want0 rfl rfl rfl rfl) rfl rfl (RS.op (u:=.bool false) rfl (op_pick0 rfl rfl rfl) rfl rfl (RS.mv rfl rfl rfl rfl ?_))))
 repeat refine RS.no (want0 rfl rfl rfl rfl) rfl rfl ?_
 refine RS.op (u:=.bool false) rfl (op_pick0 rfl rfl rfl) rfl rfl (RS.mv rfl rfl rfl rfl ?_)
 repeat refine RS.no (want0 rfl rfl rfl rfl) rfl rfl ?_
 refine RS.op (u:=.bool false) rfl (op_pick0 rfl rfl rfl) rfl rfl (RS.mv rfl rfl rfl rfl ?_)
 repeat refine RS.no (want0 rfl rfl rfl rfl) rfl rfl ?_
 refine RS.op (u:=.bool false) rfl (op_pick0 rfl rfl rfl) rfl rfl (RS.mv rfl rfl rfl rfl ?_)
 repeat refine RS.no (want0 rfl rfl rfl rfl) rfl rfl ?_
 refine RS.op (u:=.bool false) rfl (op_pick0 rfl rfl rfl) rfl rfl (RS.mv rfl rfl rfl rfl ?_)
 repeat refine RS.no (want0 rfl rfl rfl rfl) rfl rfl ?_
 refine RS.op (u:=.bool false) rfl (op_pick0 rfl rfl rfl) rfl rfl (RS.as rfl rfl rfl rfl (RS.done ?_))
 repeat refine gq ?_
 exact ⟨_,_,⟨rfl,rfl⟩,(Nat.zero_le _),Gh.toC (n1:=11) ⟨rfl,trivial⟩ rfl (Nat.zero_le _) (by simp)⟩
 replace h43:=cond_f h32 h43
 replace h43:=Option.some.inj h43
 subst h43
 refine WPU.region Try.tb_ok (RS.mv rfl rfl rfl rfl (RS.op rfl (op_int rfl rfl (ix_eql _ _ _) rfl) rfl rfl (RS.mv rfl rfl rfl rfl (RS.op (u:=.ptr 1 0 0) (want1 rfl rfl rfl h27) (op_fa Try.und27 rfl (sz_of Try.inf22) rfl rfl rfl) rfl rfl (RS.op (u:=.isl false (List.map cGDeriv r5.1.Readings)) (want1 rfl rfl rfl h27) (ld_one Try.und22 rfl rfl rfl rfl) rfl rfl (RS.op (want1 rfl rfl rfl h27) (op_len rfl rfl rfl (len_isl cGDeriv Try.und22)) rfl rfl (RS.op (want1 rfl rfl rfl h27) (op_int rfl rfl (ix_eql _ _ _) rfl) rfl rfl ?_)))))))
 refine RS.op (u:=.bool ((r5.1.Readings.length : Int) == 1)) rfl (op_pick1 rfl h27 rfl) rfl rfl (RS.mv rfl rfl rfl rfl (RS.op (want1 rfl rfl rfl h28) (op_move rfl) rfl rfl (RS.op (u:=.bool (!r7.2)) (want1 rfl rfl rfl h28) (op_un rfl rfl rfl rfl) rfl rfl (RS.op (u:=.bool (!r7.2)) rfl (op_pick1 rfl h28 rfl) rfl rfl (RS.mv rfl rfl rfl rfl (RS.op (want1 rfl rfl rfl h29) (op_move rfl) rfl rfl (RS.op (want1 rfl rfl rfl h29) (op_int rfl rfl (ix_eql _ _ _) rfl) rfl rfl ?_)))))))
 refine RS.op (u:=.bool (r9.2 == 0)) rfl (op_pick1 rfl h29 rfl) rfl rfl (RS.mv rfl rfl rfl rfl (RS.op (u:=.ptr 3 0 2) (want1 rfl rfl rfl h30) (op_fa Try.und27 rfl (sz_of Try.inf3) rfl rfl rfl) rfl rfl (RS.op (u:=.int .i64 r9.1.State) (want1 rfl rfl rfl h30) (ld_one Try.und3 rfl rfl rfl rfl) rfl rfl (RS.op (want1 rfl rfl rfl h30) (op_int rfl rfl (ix_eql _ _ _) rfl) rfl rfl (RS.op (u:=.bool (r9.1.State == 1)) rfl (op_pick1 rfl h30 rfl) rfl rfl (RS.mv rfl rfl rfl rfl (RS.op (want1 rfl rfl rfl h31) (op_move rfl) rfl rfl ?_)))))))
 refine RS.op (want1 rfl rfl rfl h31) (op_int rfl rfl (ix_eql _ _ _) rfl) rfl rfl (RS.op (u:=.bool (r11.2 == 16)) rfl (op_pick1 rfl h31 rfl) rfl rfl (RS.mv rfl rfl rfl rfl ?_))
 repeat refine RS.no (want0 rfl rfl rfl h32) rfl rfl ?_
 refine RS.op (u:=.bool false) rfl (op_pick0 rfl h32 rfl) rfl rfl (RS.mv rfl rfl rfl rfl ?_)
 repeat refine RS.no (want0 rfl rfl rfl rfl) rfl rfl ?_
 refine RS.op (u:=.bool false) rfl (op_pick0 rfl rfl rfl) rfl rfl (RS.mv rfl rfl rfl rfl (RS.no (want0 rfl rfl rfl rfl) rfl rfl (RS.op (u:=.bool false) rfl (op_pick0 rfl rfl rfl) rfl rfl (RS.mv rfl rfl rfl rfl ?_))))
 repeat refine RS.no (want0 rfl rfl rfl rfl) rfl rfl ?_
 refine RS.op (u:=.bool false) rfl (op_pick0 rfl rfl rfl) rfl rfl (RS.mv rfl rfl rfl rfl ?_)
 repeat refine RS.no (want0 rfl rfl rfl rfl) rfl rfl ?_
 refine RS.op (u:=.bool false) rfl (op_pick0 rfl rfl rfl) rfl rfl (RS.mv rfl rfl rfl rfl ?_)
 repeat refine RS.no (want0 rfl rfl rfl rfl) rfl rfl ?_
 refine RS.op (u:=.bool false) rfl (op_pick0 rfl rfl rfl) rfl rfl (RS.mv rfl rfl rfl rfl ?_)
 repeat refine RS.no (want0 rfl rfl rfl rfl) rfl rfl ?_
 refine RS.op (u:=.bool false) rfl (op_pick0 rfl rfl rfl) rfl rfl (RS.mv rfl rfl rfl rfl ?_)
 repeat refine RS.no (want0 rfl rfl rfl rfl) rfl rfl ?_
 refine RS.op (u:=.bool false) rfl (op_pick0 rfl rfl rfl) rfl rfl (RS.as rfl rfl rfl rfl (RS.done ?_))
 repeat refine gq ?_
 exact ⟨_,_,⟨rfl,rfl⟩,(Nat.zero_le _),Gh.toC (n1:=11) ⟨rfl,trivial⟩ rfl (Nat.zero_le _) (by simp)⟩
 replace h43:=cond_f h31 h43
 replace h43:=Option.some.inj h43
 subst h43
 refine WPU.region Try.tb_ok (RS.mv rfl rfl rfl rfl (RS.op rfl (op_int rfl rfl (ix_eql _ _ _) rfl) rfl rfl (RS.mv rfl rfl rfl rfl (RS.op (u:=.ptr 1 0 0) (want1 rfl rfl rfl h27) (op_fa Try.und27 rfl (sz_of Try.inf22) rfl rfl rfl) rfl rfl (RS.op (u:=.isl false (List.map cGDeriv r5.1.Readings)) (want1 rfl rfl rfl h27) (ld_one Try.und22 rfl rfl rfl rfl) rfl rfl (RS.op (want1 rfl rfl rfl h27) (op_len rfl rfl rfl (len_isl cGDeriv Try.und22)) rfl rfl (RS.op (want1 rfl rfl rfl h27) (op_int rfl rfl (ix_eql _ _ _) rfl) rfl rfl ?_)))))))
 refine RS.op (u:=.bool ((r5.1.Readings.length : Int) == 1)) rfl (op_pick1 rfl h27 rfl) rfl rfl (RS.mv rfl rfl rfl rfl (RS.op (want1 rfl rfl rfl h28) (op_move rfl) rfl rfl (RS.op (u:=.bool (!r7.2)) (want1 rfl rfl rfl h28) (op_un rfl rfl rfl rfl) rfl rfl (RS.op (u:=.bool (!r7.2)) rfl (op_pick1 rfl h28 rfl) rfl rfl (RS.mv rfl rfl rfl rfl (RS.op (want1 rfl rfl rfl h29) (op_move rfl) rfl rfl (RS.op (want1 rfl rfl rfl h29) (op_int rfl rfl (ix_eql _ _ _) rfl) rfl rfl ?_)))))))
 refine RS.op (u:=.bool (r9.2 == 0)) rfl (op_pick1 rfl h29 rfl) rfl rfl (RS.mv rfl rfl rfl rfl (RS.op (u:=.ptr 3 0 2) (want1 rfl rfl rfl h30) (op_fa Try.und27 rfl (sz_of Try.inf3) rfl rfl rfl) rfl rfl (RS.op (u:=.int .i64 r9.1.State) (want1 rfl rfl rfl h30) (ld_one Try.und3 rfl rfl rfl rfl) rfl rfl (RS.op (want1 rfl rfl rfl h30) (op_int rfl rfl (ix_eql _ _ _) rfl) rfl rfl (RS.op (u:=.bool (r9.1.State == 1)) rfl (op_pick1 rfl h30 rfl) rfl rfl (RS.mv rfl rfl rfl rfl ?_))))))
 repeat refine RS.no (want0 rfl rfl rfl h31) rfl rfl ?_
 refine RS.op (u:=.bool false) rfl (op_pick0 rfl h31 rfl) rfl rfl (RS.mv rfl rfl rfl rfl ?_)
 repeat refine RS.no (want0 rfl rfl rfl rfl) rfl rfl ?_
 refine RS.op (u:=.bool false) rfl (op_pick0 rfl rfl rfl) rfl rfl (RS.mv rfl rfl rfl rfl ?_)
 repeat refine RS.no (want0 rfl rfl rfl rfl) rfl rfl ?_
 refine RS.op (u:=.bool false) rfl (op_pick0 rfl rfl rfl) rfl rfl (RS.mv rfl rfl rfl rfl (RS.no (want0 rfl rfl rfl rfl) rfl rfl (RS.op (u:=.bool false) rfl (op_pick0 rfl rfl rfl) rfl rfl (RS.mv rfl rfl rfl rfl ?_))))
 repeat refine RS.no (want0 rfl rfl rfl rfl) rfl rfl ?_
 refine RS.op (u:=.bool false) rfl (op_pick0 rfl rfl rfl) rfl rfl (RS.mv rfl rfl rfl rfl ?_)
 repeat refine RS.no (want0 rfl rfl rfl rfl) rfl rfl ?_
 refine RS.op (u:=.bool false) rfl (op_pick0 rfl rfl rfl) rfl rfl (RS.mv rfl rfl rfl rfl ?_)
 repeat refine RS.no (want0 rfl rfl rfl rfl) rfl rfl ?_
 refine RS.op (u:=.bool false) rfl (op_pick0 rfl rfl rfl) rfl rfl (RS.mv rfl rfl rfl rfl ?_)
 repeat refine RS.no (want0 rfl rfl rfl rfl) rfl rfl ?_
 refine RS.op (u:=.bool false) rfl (op_pick0 rfl rfl rfl) rfl rfl (RS.mv rfl rfl rfl rfl ?_)
 repeat refine RS.no (want0 rfl rfl rfl rfl) rfl rfl ?_
 refine RS.op (u:=.bool false) rfl (op_pick0 rfl rfl rfl) rfl rfl (RS.as rfl rfl rfl rfl (RS.done ?_))
 repeat refine gq ?_
 exact ⟨_,_,⟨rfl,rfl⟩,(Nat.zero_le _),Gh.toC (n1:=11) ⟨rfl,trivial⟩ rfl (Nat.zero_le _) (by simp)⟩
 replace h43:=cond_f h30 h43
 replace h43:=Option.some.inj h43
 subst h43
 refine WPU.region Try.tb_ok (RS.mv rfl rfl rfl rfl (RS.op rfl (op_int rfl rfl (ix_eql _ _ _) rfl) rfl rfl (RS.mv rfl rfl rfl rfl (RS.op (u:=.ptr 1 0 0) (want1 rfl rfl rfl h27) (op_fa Try.und27 rfl (sz_of Try.inf22) rfl rfl rfl) rfl rfl (RS.op (u:=.isl false (List.map cGDeriv r5.1.Readings)) (want1 rfl rfl rfl h27) (ld_one Try.und22 rfl rfl rfl rfl) rfl rfl (RS.op (want1 rfl rfl rfl h27) (op_len rfl rfl rfl (len_isl cGDeriv Try.und22)) rfl rfl (RS.op (want1 rfl rfl rfl h27) (op_int rfl rfl (ix_eql _ _ _) rfl) rfl rfl ?_)))))))
 refine RS.op (u:=.bool ((r5.1.Readings.length : Int) == 1)) rfl (op_pick1 rfl h27 rfl) rfl rfl (RS.mv rfl rfl rfl rfl (RS.op (want1 rfl rfl rfl h28) (op_move rfl) rfl rfl (RS.op (u:=.bool (!r7.2)) (want1 rfl rfl rfl h28) (op_un rfl rfl rfl rfl) rfl rfl (RS.op (u:=.bool (!r7.2)) rfl (op_pick1 rfl h28 rfl) rfl rfl (RS.mv rfl rfl rfl rfl (RS.op (want1 rfl rfl rfl h29) (op_move rfl) rfl rfl (RS.op (want1 rfl rfl rfl h29) (op_int rfl rfl (ix_eql _ _ _) rfl) rfl rfl ?_)))))))
 refine RS.op (u:=.bool (r9.2 == 0)) rfl (op_pick1 rfl h29 rfl) rfl rfl (RS.mv rfl rfl rfl rfl ?_)
 repeat refine RS.no (want0 rfl rfl rfl h30) rfl rfl ?_
 refine RS.op (u:=.bool false) rfl (op_pick0 rfl h30 rfl) rfl rfl (RS.mv rfl rfl rfl rfl ?_)
 repeat refine RS.no (want0 rfl rfl rfl rfl) rfl rfl ?_
 refine RS.op (u:=.bool false) rfl (op_pick0 rfl rfl rfl) rfl rfl (RS.mv rfl rfl rfl rfl ?_)
 repeat refine RS.no (want0 rfl rfl rfl rfl) rfl rfl ?_
 refine RS.op (u:=.bool false) rfl (op_pick0 rfl rfl rfl) rfl rfl (RS.mv rfl rfl rfl rfl ?_)
 repeat refine RS.no (want0 rfl rfl rfl rfl) rfl rfl ?_
 refine RS.op (u:=.bool false) rfl (op_pick0 rfl rfl rfl) rfl rfl (RS.mv rfl rfl rfl rfl (RS.no (want0 rfl rfl rfl rfl) rfl rfl (RS.op (u:=.bool false) rfl (op_pick0 rfl rfl rfl) rfl rfl (RS.mv rfl rfl rfl rfl ?_))))
 repeat refine RS.no (want0 rfl rfl rfl rfl) rfl rfl ?_
 refine RS.op (u:=.bool false) rfl (op_pick0 rfl rfl rfl) rfl rfl (RS.mv rfl rfl rfl rfl ?_)
 repeat refine RS.no (want0 rfl rfl rfl rfl) rfl rfl ?_
 refine RS.op (u:=.bool false) rfl (op_pick0 rfl rfl rfl) rfl rfl (RS.mv rfl rfl rfl rfl ?_)
 repeat refine RS.no (want0 rfl rfl rfl rfl) rfl rfl ?_
 refine RS.op (u:=.bool false) rfl (op_pick0 rfl rfl rfl) rfl rfl (RS.mv rfl rfl rfl rfl ?_)
 repeat refine RS.no (want0 rfl rfl rfl rfl) rfl rfl ?_
 refine RS.op (u:=.bool false) rfl (op_pick0 rfl rfl rfl) rfl rfl (RS.mv rfl rfl rfl rfl ?_)
 repeat refine RS.no (want0 rfl rfl rfl rfl) rfl rfl ?_
 refine RS.op (u:=.bool false) rfl (op_pick0 rfl rfl rfl) rfl rfl (RS.as rfl rfl rfl rfl (RS.done ?_))
 repeat refine gq ?_
 exact ⟨_,_,⟨rfl,rfl⟩,(Nat.zero_le _),Gh.toC (n1:=11) ⟨rfl,trivial⟩ rfl (Nat.zero_le _) (by simp)⟩
 replace h43:=cond_f h29 h43
 replace h43:=Option.some.inj h43
 subst h43
 refine WPU.region Try.tb_ok (RS.mv rfl rfl rfl rfl (RS.op rfl (op_int rfl rfl (ix_eql _ _ _) rfl) rfl rfl (RS.mv rfl rfl rfl rfl (RS.op (u:=.ptr 1 0 0) (want1 rfl rfl rfl h27) (op_fa Try.und27 rfl (sz_of Try.inf22) rfl rfl rfl) rfl rfl (RS.op (u:=.isl false (List.map cGDeriv r5.1.Readings)) (want1 rfl rfl rfl h27) (ld_one Try.und22 rfl rfl rfl rfl) rfl rfl (RS.op (want1 rfl rfl rfl h27) (op_len rfl rfl rfl (len_isl cGDeriv Try.und22)) rfl rfl (RS.op (want1 rfl rfl rfl h27) (op_int rfl rfl (ix_eql _ _ _) rfl) rfl rfl ?_)))))))
 refine RS.op (u:=.bool ((r5.1.Readings.length : Int) == 1)) rfl (op_pick1 rfl h27 rfl) rfl rfl (RS.mv rfl rfl rfl rfl (RS.op (want1 rfl rfl rfl h28) (op_move rfl) rfl rfl (RS.op (u:=.bool (!r7.2)) (want1 rfl rfl rfl h28) (op_un rfl rfl rfl rfl) rfl rfl (RS.op (u:=.bool (!r7.2)) rfl (op_pick1 rfl h28 rfl) rfl rfl (RS.mv rfl rfl rfl rfl ?_)))))
 repeat refine RS.no (want0 rfl rfl rfl h29) rfl rfl ?_
 refine RS.op (u:=.bool false) rfl (op_pick0 rfl h29 rfl) rfl rfl (RS.mv rfl rfl rfl rfl ?_)
 repeat refine RS.no (want0 rfl rfl rfl rfl) rfl rfl ?_
 refine RS.op (u:=.bool false) rfl (op_pick0 rfl rfl rfl) rfl rfl (RS.mv rfl rfl rfl rfl ?_)
 repeat refine RS.no (want0 rfl rfl rfl rfl) rfl rfl ?_
 refine RS.op (u:=.bool false) rfl (op_pick0 rfl rfl rfl) rfl rfl (RS.mv rfl rfl rfl rfl ?_)
 repeat refine RS.no (want0 rfl rfl rfl rfl) rfl rfl ?_
 refine RS.op (u:=.bool false) rfl (op_pick0 rfl rfl rfl) rfl rfl (RS.mv rfl rfl rfl rfl ?_)
 repeat refine RS.no (want0 rfl rfl rfl rfl) rfl rfl ?_
 refine RS.op (u:=.bool false) rfl (op_pick0 rfl rfl rfl) rfl rfl (RS.mv rfl rfl rfl rfl (RS.no (want0 rfl rfl rfl rfl) rfl rfl (RS.op (u:=.bool false) rfl (op_pick0 rfl rfl rfl) rfl rfl (RS.mv rfl rfl rfl rfl ?_))))
 repeat refine RS.no (want0 rfl rfl rfl rfl) rfl rfl ?_
 refine RS.op (u:=.bool false) rfl (op_pick0 rfl rfl rfl) rfl rfl (RS.mv rfl rfl rfl rfl ?_)
 repeat refine RS.no (want0 rfl rfl rfl rfl) rfl rfl ?_
 refine RS.op (u:=.bool false) rfl (op_pick0 rfl rfl rfl) rfl rfl (RS.mv rfl rfl rfl rfl ?_)
 repeat refine RS.no (want0 rfl rfl rfl rfl) rfl rfl ?_
 refine RS.op (u:=.bool false) rfl (op_pick0 rfl rfl rfl) rfl rfl (RS.mv rfl rfl rfl rfl ?_)
 repeat refine RS.no (want0 rfl rfl rfl rfl) rfl rfl ?_
 refine RS.op (u:=.bool false) rfl (op_pick0 rfl rfl rfl) rfl rfl (RS.mv rfl rfl rfl rfl ?_)
 repeat refine RS.no (want0 rfl rfl rfl rfl) rfl rfl ?_
 refine RS.op (u:=.bool false) rfl (op_pick0 rfl rfl rfl) rfl rfl (RS.as rfl rfl rfl rfl (RS.done ?_))
 repeat refine gq ?_
 exact ⟨_,_,⟨rfl,rfl⟩,(Nat.zero_le _),Gh.toC (n1:=11) ⟨rfl,trivial⟩ rfl (Nat.zero_le _) (by simp)⟩
 replace h43:=cond_f h28 h43
 replace h43:=Option.some.inj h43
 subst h43
 refine WPU.region Try.tb_ok (RS.mv rfl rfl rfl rfl (RS.op rfl (op_int rfl rfl (ix_eql _ _ _) rfl) rfl rfl (RS.mv rfl rfl rfl rfl (RS.op (u:=.ptr 1 0 0) (want1 rfl rfl rfl h27) (op_fa Try.und27 rfl (sz_of Try.inf22) rfl rfl rfl) rfl rfl (RS.op (u:=.isl false (List.map cGDeriv r5.1.Readings)) (want1 rfl rfl rfl h27) (ld_one Try.und22 rfl rfl rfl rfl) rfl rfl (RS.op (want1 rfl rfl rfl h27) (op_len rfl rfl rfl (len_isl cGDeriv Try.und22)) rfl rfl (RS.op (want1 rfl rfl rfl h27) (op_int rfl rfl (ix_eql _ _ _) rfl) rfl rfl ?_)))))))
 refine RS.op (u:=.bool ((r5.1.Readings.length : Int) == 1)) rfl (op_pick1 rfl h27 rfl) rfl rfl (RS.mv rfl rfl rfl rfl ?_)
 repeat refine RS.no (want0 rfl rfl rfl h28) rfl rfl ?_
 refine RS.op (u:=.bool false) rfl (op_pick0 rfl h28 rfl) rfl rfl (RS.mv rfl rfl rfl rfl ?_)
 repeat refine RS.no (want0 rfl rfl rfl rfl) rfl rfl ?_
 refine RS.op (u:=.bool false) rfl (op_pick0 rfl rfl rfl) rfl rfl (RS.mv rfl rfl rfl rfl ?_)
 repeat refine RS.no (want0 rfl rfl rfl rfl) rfl rfl ?_
 refine RS.op (u:=.bool false) rfl (op_pick0 rfl rfl rfl) rfl rfl (RS.mv rfl rfl rfl rfl ?_)
 repeat refine RS.no (want0 rfl rfl rfl rfl) rfl rfl ?_
 refine RS.op (u:=.bool false) rfl (op_pick0 rfl rfl rfl) rfl rfl (RS.mv rfl rfl rfl rfl ?_)
 repeat refine RS.no (want0 rfl rfl rfl rfl) rfl rfl ?_
 refine RS.op (u:=.bool false) rfl (op_pick0 rfl rfl rfl) rfl rfl (RS.mv rfl rfl rfl rfl ?_)
 repeat refine RS.no (want0 rfl rfl rfl rfl) rfl rfl ?_
 refine RS.op (u:=.bool false) rfl (op_pick0 rfl rfl rfl) rfl rfl (RS.mv rfl rfl rfl rfl (RS.no (want0 rfl rfl rfl rfl) rfl rfl (RS.op (u:=.bool false) rfl (op_pick0 rfl rfl rfl) rfl rfl (RS.mv rfl rfl rfl rfl ?_))))
 repeat refine RS.no (want0 rfl rfl rfl rfl) rfl rfl ?_
 refine RS.op (u:=.bool false) rfl (op_pick0 rfl rfl rfl) rfl rfl (RS.mv rfl rfl rfl rfl ?_)
 repeat refine RS.no (want0 rfl rfl rfl rfl) rfl rfl ?_
 refine RS.op (u:=.bool false) rfl (op_pick0 rfl rfl rfl) rfl rfl (RS.mv rfl rfl rfl rfl ?_)
 repeat refine RS.no (want0 rfl rfl rfl rfl) rfl rfl ?_
 refine RS.op (u:=.bool false) rfl (op_pick0 rfl rfl rfl) rfl rfl (RS.mv rfl rfl rfl rfl ?_)
 repeat refine RS.no (want0 rfl rfl rfl rfl) rfl rfl ?_
 refine RS.op (u:=.bool false) rfl (op_pick0 rfl rfl rfl) rfl rfl (RS.mv rfl rfl rfl rfl ?_)
 repeat refine RS.no (want0 rfl rfl rfl rfl) rfl rfl ?_
 refine RS.op (u:=.bool false) rfl (op_pick0 rfl rfl rfl) rfl rfl (RS.as rfl rfl rfl rfl (RS.done ?_))
 repeat refine gq ?_
 exact ⟨_,_,⟨rfl,rfl⟩,(Nat.zero_le _),Gh.toC (n1:=11) ⟨rfl,trivial⟩ rfl (Nat.zero_le _) (by simp)⟩
 replace h43:=cond_f h27 h43
 replace h43:=Option.some.inj h43
 subst h43
 refine WPU.region Try.tb_ok (RS.mv rfl rfl rfl rfl (RS.op rfl (op_int rfl rfl (ix_eql _ _ _) rfl) rfl rfl (RS.mv rfl rfl rfl rfl ?_)))
 repeat refine RS.no (want0 rfl rfl rfl h27) rfl rfl ?_
 refine RS.op (u:=.bool false) rfl (op_pick0 rfl h27 rfl) rfl rfl (RS.mv rfl rfl rfl rfl ?_)
 repeat refine RS.no (want0 rfl rfl rfl rfl) rfl rfl ?_
 refine RS.op (u:=.bool false) rfl (op_pick0 rfl rfl rfl) rfl rfl (RS.mv rfl rfl rfl rfl ?_)
 repeat refine RS.no (want0 rfl rfl rfl rfl) rfl rfl ?_
 refine RS.op (u:=.bool false) rfl (op_pick0 rfl rfl rfl) rfl rfl (RS.mv rfl rfl rfl rfl ?_)
 repeat refine RS.no (want0 rfl rfl rfl rfl) rfl rfl ?_
 refine RS.op (u:=.bool false) rfl (op_pick0 rfl rfl rfl) rfl rfl (RS.mv rfl rfl rfl rfl ?_)
 repeat refine RS.no (want0 rfl rfl rfl rfl) rfl rfl ?_
 refine RS.op (u:=.bool false) rfl (op_pick0 rfl rfl rfl) rfl rfl (RS.mv rfl rfl rfl rfl ?_)
 repeat refine RS.no (want0 rfl rfl rfl rfl) rfl rfl ?_
 refine RS.op (u:=.bool false) rfl (op_pick0 rfl rfl rfl) rfl rfl (RS.mv rfl rfl rfl rfl ?_)
 repeat refine RS.no (want0 rfl rfl rfl rfl) rfl rfl ?_
 refine RS.op (u:=.bool false) rfl (op_pick0 rfl rfl rfl) rfl rfl (RS.mv rfl rfl rfl rfl (RS.no (want0 rfl rfl rfl rfl) rfl rfl (RS.op (u:=.bool false) rfl (op_pick0 rfl rfl rfl) rfl rfl (RS.mv rfl rfl rfl rfl ?_))))
 repeat refine RS.no (want0 rfl rfl rfl rfl) rfl rfl ?_
 refine RS.op (u:=.bool false) rfl (op_pick0 rfl rfl rfl) rfl rfl (RS.mv rfl rfl rfl rfl ?_)
 repeat refine RS.no (want0 rfl rfl rfl rfl) rfl rfl ?_
 refine RS.op (u:=.bool false) rfl (op_pick0 rfl rfl rfl) rfl rfl (RS.mv rfl rfl rfl rfl ?_)
 repeat refine RS.no (want0 rfl rfl rfl rfl) rfl rfl ?_
 refine RS.op (u:=.bool false) rfl (op_pick0 rfl rfl rfl) rfl rfl (RS.mv rfl rfl rfl rfl ?_)
 repeat refine RS.no (want0 rfl rfl rfl rfl) rfl rfl ?_
 refine RS.op (u:=.bool false) rfl (op_pick0 rfl rfl rfl) rfl rfl (RS.mv rfl rfl rfl rfl ?_)
 repeat refine RS.no (want0 rfl rfl rfl rfl) rfl rfl ?_
 refine RS.op (u:=.bool false) rfl (op_pick0 rfl rfl rfl) rfl rfl (RS.as rfl rfl rfl rfl (RS.done ?_))
 repeat refine gq ?_
 exact ⟨_,_,⟨rfl,rfl⟩,(Nat.zero_le _),Gh.toC (n1:=11) ⟨rfl,trivial⟩ rfl (Nat.zero_le _) (by simp)⟩
theorem q03i (n : Nat)  (r : Bool) (hF : q01h n  = some r) (σ : Sg) : EvU Try.prog 9 [] σ (fun u σ'=>u = .bool r∧σ' = σ) :=
 EvU.pure1C (law46_exampleHolds_0 n  r hF) σ
def q02c (z29 : Int) (rc1 : Int→Option (Bool))  : Option (Bool) :=
 rc1 (IntKind.i64.wrap (z29 + 1))
def q01f (n : Nat) (r11 : GSession × Bool) (z29 : Int) (rc1 : Int→Option (Bool)) (x33 : Int) : Nat→Int→Option (Bool)
 | 0,_=>none
 | m2 + 1,z45 =>
  cond (decide (z45 < (r11.1.Decisions.length : Int)))
   (bindO (idxO r11.1.Decisions z45) fun x47 =>
   bindO (idxO r11.1.Readings x33) fun x49 =>
   bindO (disc_Holds n x49 x47.Propx) fun r51 =>
   cond (!(r51 == x47.Yes))
    (some false)
    ((q01f n r11 z29 rc1 x33 m2) (IntKind.i64.wrap (z45 + 1))))
   (q02c z29 rc1)
def q02b (n : Nat)  : Option (Bool) :=
 bindO (q01h n) fun r30 =>
 some r30
def q00n (n : Nat) (r11 : GSession × Bool) (r16 : (List Int)) : Nat→Int→Option (Bool)
 | 0,_=>none
 | m1 + 1,z29 =>
  cond (decide (z29 < (r16.length : Int)))
   (bindO (idxO r16 z29) fun x33 =>
   q01f n r11 z29 (q00n n r11 r16 m1) x33 n 0)
   (q02b n)
def q033 (n : Nat) (p1 : List GDeriv) (p2 : List GStep) : Option (Bool) :=
 bindO (bindO (law46_light n p1) fun r3 =>
 cond (!r3)
  (some true)
  (some (decide ((p2.length : Int) > 10)))) fun b6 =>
 cond b6
  (bindO (q01h n) fun r9 =>
  some r9)
  (bindO (law46_run n p1 p2) fun r11 =>
  cond (!r11.2)
   (bindO (q01h n) fun r14 =>
   some r14)
   (bindO (q02q n r11.1.Readings r11.1.Decisions) fun r16 =>
   bindO (cond ((r16.length : Int) == 0)
    (some true)
    (cond (r11.1.State == 1)
     (some ((r16.length : Int) != 1))
     (some false))) fun b20 =>
   cond b20
    (some false)
    (q00n n r11 r16 n 0)))
theorem law46_AnnotateKeeps_0 (n : Nat) (p1 : List GDeriv) (p2 : List GStep) (r : Bool) (hF : q033 n p1 p2 = some r) : EvU Try.prog 7 [.isl false (List.map cGDeriv p1),.isl false (List.map cGStep p2)] ⟨[],0⟩ (fun u _=>u = .bool r∧Bel 0 u):=by
 unfold q033 at hF
 refine EvU.of_body Try.tb_ok Try.fn7 rfl ?_
 refine WPU.ghost (tm':=fr 75 [(0,.isl false (List.map cGDeriv p1)),(1,.isl false (List.map cGStep p2))]) (Gh.start (Nat.le_of_ble_eq_true rfl)) (Nat.zero_le _) ?_
 repeat refine sq ?_
 refine WPU.region Try.tb_ok (RS.as rfl rfl rfl rfl (RS.done ?_))
 repeat refine gq ?_
 repeat refine sq ?_
 obtain ⟨b6,h7,hF⟩:=bindO_some hF
 refine WPU.joinK (fun tm σ=>tm = fr 75 [(0,.isl false (List.map cGDeriv p1)),(1,.isl false (List.map cGStep p2)),(19,.bool b6)]∧σ = ⟨[],0⟩) ?_ ?_
 rintro _ _ ⟨rfl,rfl⟩
 repeat refine gq ?_
 repeat refine sq ?_
 refine WPU.condS (t:=b6) rfl (fun h8=>?_) (fun h8=>?_)
 replace hF:=cond_t h8 hF
 repeat refine sq ?_
 obtain ⟨r9,h10,hF⟩:=bindO_some hF
 refine WPU.region Try.tb_ok (RS.call (u:=.bool r9) (args:=[]) rfl (op_call rfl rfl Try.fn9 Try.hb9 rfl rfl) (q03i n  r9 h10 _) rfl rfl (RS.as rfl rfl rfl rfl (RS.done ?_)))
 repeat refine gq ?_
 repeat refine sq ?_
 refine WPU.ret ?_
 repeat refine gq ?_
 have hr:=Option.some.inj hF
 subst hr
 exact ⟨.inr rfl,[.bool r9],res_t rfl (res_n),.bool r9,⟨[],0⟩,Nat.le_refl _,Gh.toR (.bool r9) rfl,rfl,BU.h⟩
 replace hF:=cond_f h8 hF
 repeat refine sq ?_
 refine WPU.skip ?_
 repeat refine gq ?_
 repeat refine sq ?_
 obtain ⟨r11,h12,hF⟩:=bindO_some hF
 refine WPU.region Try.tb_ok ?_
 repeat refine RS.mv rfl rfl rfl rfl ?_
 refine RS.call (u:=.tup [.agg (cGSession r11.1),.bool r11.2]) (args:=[.isl false (List.map cGDeriv p1),.isl false (List.map cGStep p2)]) rfl (op_call rfl rfl Try.fn20 Try.hb20 rfl rfl) (law46_run_ok n p1 p2 r11 h12 _) rfl rfl (RS.mv rfl rfl rfl rfl (RS.op rfl (op_ext rfl rfl) rfl rfl (RS.op rfl (op_ext rfl rfl) rfl rfl (RS.op (u:=.ptr 0 0 0) (σ':=⟨[(0,.row [.nils,.nils,.int .i64 0] 27)],1⟩) rfl (op_alloc Try.inf27 rfl rfl) rfl rfl (RS.opn (u:=.junk) (σ':=⟨[(0,.row (cGSession r11.1) 27)],1⟩) rfl (op_store (sz_of Try.inf27) rfl rfl rfl rfl rfl rfl rfl rfl) rfl (RS.as rfl rfl rfl rfl (RS.done ?_)))))))
 repeat refine gq ?_
 repeat refine sq ?_
 refine WPU.region Try.tb_ok (RS.mv rfl rfl rfl rfl (RS.op (u:=.bool (!r11.2)) rfl (op_un rfl rfl rfl rfl) rfl rfl (RS.done ?_)))
 repeat refine gq ?_
 repeat refine sq ?_
 refine WPU.condS (t:=(!r11.2)) rfl (fun h13=>?_) (fun h13=>?_)
 replace hF:=cond_t h13 hF
 repeat refine sq ?_
 obtain ⟨r14,h15,hF⟩:=bindO_some hF
 refine WPU.region Try.tb_ok (RS.call (u:=.bool r14) (args:=[]) rfl (op_call rfl rfl Try.fn9 Try.hb9 rfl rfl) (q03i n  r14 h15 _) rfl rfl (RS.as rfl rfl rfl rfl (RS.done ?_)))
 repeat refine gq ?_
 repeat refine sq ?_
 refine WPU.ret ?_
 repeat refine gq ?_
 have hr:=Option.some.inj hF
 subst hr
 exact ⟨.inr rfl,[.bool r14],res_t rfl (res_n),.bool r14,⟨[],0⟩,Nat.le_refl _,Gh.toR (.bool r14) rfl,rfl,BU.h⟩
 replace hF:=cond_f h13 hF
 repeat refine sq ?_
 refine WPU.skip ?_
 repeat refine gq ?_
 repeat refine sq ?_
 obtain ⟨r16,h17,hF⟩:=bindO_some hF
 refine WPU.region Try.tb_ok (RS.op (u:=.ptr 0 0 0) rfl (op_fa Try.und27 rfl (sz_of Try.inf22) rfl rfl rfl) rfl rfl (RS.op (u:=.isl false (List.map cGDeriv r11.1.Readings)) rfl (ld_one Try.und22 rfl rfl rfl rfl) rfl rfl (RS.op (u:=.ptr 0 0 1) rfl (op_fa Try.und27 rfl (sz_of Try.inf25) rfl rfl rfl) rfl rfl (RS.op (u:=.isl false (List.map cGDecision r11.1.Decisions)) rfl (ld_one Try.und25 rfl rfl rfl rfl) rfl rfl (RS.call (u:=.isl false (List.map (cI .i64) r16)) (args:=[.isl false (List.map cGDeriv r11.1.Readings),.isl false (List.map cGDecision r11.1.Decisions)]) rfl (op_call rfl rfl Try.fn18 Try.hb18 rfl rfl) (disc_Remaining_ok n r11.1.Readings r11.1.Decisions r16 h17 _) rfl rfl (RS.as rfl rfl rfl rfl (RS.done ?_)))))))
 repeat refine gq ?_
 repeat refine sq ?_
 obtain ⟨b20,h21,hF⟩:=bindO_some hF
 refine WPU.joinK (fun tm σ=>tm = fr 75 [(5,.ptr 0 0 0),(7,.isl false (List.map (cI .i64) r16)),(47,.bool b20)]∧σ = ⟨[(0,.row (cGSession r11.1) 27)],1⟩) ?_ ?_
 rintro _ _ ⟨rfl,rfl⟩
 repeat refine gq ?_
 repeat refine sq ?_
 refine WPU.condS (t:=b20) rfl (fun h22=>?_) (fun h22=>?_)
 replace hF:=cond_t h22 hF
 repeat refine sq ?_
 refine WPU.region Try.tb_ok (RS.as rfl rfl rfl rfl (RS.done ?_))
 repeat refine gq ?_
 repeat refine sq ?_
 refine WPU.ret ?_
 repeat refine gq ?_
 have hr:=Option.some.inj hF
 subst hr
 exact ⟨.inr rfl,[.bool false],res_t rfl (res_n),.bool false,⟨[],0⟩,Nat.le_refl _,Gh.toR (.bool false) rfl,rfl,BU.h⟩
 replace hF:=cond_f h22 hF
 repeat refine sq ?_
 refine WPU.skip ?_
 repeat refine gq ?_
 repeat refine sq ?_
 refine WPU.region Try.tb_ok (RS.mv rfl rfl rfl rfl (RS.op rfl (op_len rfl rfl rfl (len_isl (cI .i64) Try.und43)) rfl rfl (RS.mv rfl rfl rfl rfl (RS.done ?_))))
 repeat refine gq ?_
 repeat refine sq ?_
 refine WPU.ghost (tm':=fr 75 [(5,.ptr 0 0 0),(48,.isl false (List.map (cI .i64) r16)),(49,.int .i64 (r16.length : Int)),(50,.int .i64 0)]) (Gh.sub ⟨rfl,rfl,rfl,rfl,trivial⟩) (Nat.zero_le _) ?_
 refine WPU.loopK (fun m tm σ=>∃ z29 : Int,q00n n r11 r16 m z29 = some r∧tm = fr 75 [(5,.ptr 0 0 0),(48,.isl false (List.map (cI .i64) r16)),(49,.int .i64 (r16.length : Int)),(50,.int .i64 z29)]∧σ = ⟨[(0,.row (cGSession r11.1) 27)],1⟩) (fun tm σ=>q02b n = some r∧tm = fr 75 []∧σ = ⟨[(0,.row (cGSession r11.1) 27)],1⟩) n ⟨0,hF,rfl,rfl⟩ ?_ ?_
 rintro _ _ ⟨hF,rfl,rfl⟩
 unfold q02b at hF
 repeat refine gq ?_
 repeat refine sq ?_
 obtain ⟨r30,h31,hF⟩:=bindO_some hF
 refine WPU.region Try.tb_ok (RS.call (u:=.bool r30) (args:=[]) rfl (op_call rfl rfl Try.fn9 Try.hb9 rfl rfl) (q03i n  r30 h31 _) rfl rfl (RS.as rfl rfl rfl rfl (RS.done ?_)))
 repeat refine gq ?_
 repeat refine sq ?_
 refine WPU.ret ?_
 repeat refine gq ?_
 have hr:=Option.some.inj hF
 subst hr
 exact ⟨.inr rfl,[.bool r30],res_t rfl (res_n),.bool r30,⟨[],0⟩,Nat.le_refl _,Gh.toR (.bool r30) rfl,rfl,BU.h⟩
 rintro m1 _ _ ⟨z29,hF,rfl,rfl⟩
 rcases m1 with _ | m1
 cases hF
 unfold q00n at hF
 repeat refine sq ?_
 refine WPU.region Try.tb_ok (RS.op rfl (op_int rfl rfl (ix_lss _ _ _) rfl) rfl rfl (RS.done ?_))
 repeat refine gq ?_
 repeat refine sq ?_
 refine WPU.condS (t:=(decide (z29 < (r16.length : Int)))) rfl (fun h32=>?_) (fun h32=>?_)
 replace hF:=cond_t h32 hF
 repeat refine sq ?_
 refine WPU.skip ?_
 repeat refine gq ?_
 repeat refine sq ?_
 refine WPU.block ?_
 repeat refine sq ?_
 obtain ⟨x33,h34,hF⟩:=bindO_some hF
 refine WPU.region Try.tb_ok (RS.op (u:=.iptr [.int .i64 x33]) rfl (op_ia rfl rfl (ia_isl (cI .i64) Try.und43 (sz_of Try.inf3) (len_cI .i64) h34 rfl)) rfl rfl (RS.op (u:=.int .i64 x33) rfl (li_one Try.und3 rfl rfl rfl) rfl rfl (RS.as rfl rfl rfl rfl (RS.done ?_))))
 repeat refine gq ?_
 repeat refine sq ?_
 refine WPU.region Try.tb_ok (RS.op (u:=.ptr 0 0 1) rfl (op_fa Try.und27 rfl (sz_of Try.inf25) rfl rfl rfl) rfl rfl (RS.op (u:=.isl false (List.map cGDecision r11.1.Decisions)) rfl (ld_one Try.und25 rfl rfl rfl rfl) rfl rfl (RS.op rfl (op_len rfl rfl rfl (len_isl cGDecision Try.und25)) rfl rfl (RS.mv rfl rfl rfl rfl (RS.done ?_)))))
 repeat refine gq ?_
 repeat refine sq ?_
 refine WPU.ghost (tm':=fr 75 [(5,.ptr 0 0 0),(9,.int .i64 x33),(48,.isl false (List.map (cI .i64) r16)),(49,.int .i64 (r16.length : Int)),(50,.int .i64 z29),(55,.isl false (List.map cGDecision r11.1.Decisions)),(56,.int .i64 (r11.1.Decisions.length : Int)),(57,.int .i64 0)]) (Gh.sub ⟨rfl,rfl,rfl,rfl,rfl,rfl,rfl,rfl,trivial⟩) (Nat.zero_le _) ?_
 refine WPU.loopK (fun m tm σ=>∃ z45 : Int,q01f n r11 z29 (q00n n r11 r16 m1) x33 m z45 = some r∧tm = fr 75 [(5,.ptr 0 0 0),(9,.int .i64 x33),(48,.isl false (List.map (cI .i64) r16)),(49,.int .i64 (r16.length : Int)),(50,.int .i64 z29),(55,.isl false (List.map cGDecision r11.1.Decisions)),(56,.int .i64 (r11.1.Decisions.length : Int)),(57,.int .i64 z45)]∧σ = ⟨[(0,.row (cGSession r11.1) 27)],1⟩) (fun tm σ=>q02c z29 (q00n n r11 r16 m1) = some r∧tm = fr 75 [(5,.ptr 0 0 0),(48,.isl false (List.map (cI .i64) r16)),(49,.int .i64 (r16.length : Int)),(50,.int .i64 z29)]∧σ = ⟨[(0,.row (cGSession r11.1) 27)],1⟩) n ⟨0,hF,rfl,rfl⟩ ?_ ?_
 rintro _ _ ⟨hF,rfl,rfl⟩
 unfold q02c at hF
 repeat refine gq ?_
 repeat refine sq ?_
 refine WPU.region Try.tb_ok (RS.op rfl (op_int rfl rfl (ix_add _ _ _) rfl) rfl rfl (RS.mv rfl rfl rfl rfl (RS.done ?_)))
 repeat refine gq ?_
 exact ⟨m1,_,_,Nat.lt_succ_self _,⟨(IntKind.i64.wrap (z29 + 1)),hF,rfl,rfl⟩,(Nat.zero_le _),Gh.toC (n1:=1) ⟨rfl,rfl,rfl,rfl,trivial⟩ rfl (Nat.zero_le _) (by simp)⟩
 rintro m2 _ _ ⟨z45,hF,rfl,rfl⟩
 rcases m2 with _ | m2
 cases hF
 unfold q01f at hF
 repeat refine sq ?_
 refine WPU.region Try.tb_ok (RS.op rfl (op_int rfl rfl (ix_lss _ _ _) rfl) rfl rfl (RS.done ?_))
 repeat refine gq ?_
 repeat refine sq ?_
 refine WPU.condS (t:=(decide (z45 < (r11.1.Decisions.length : Int)))) rfl (fun h46=>?_) (fun h46=>?_)
 replace hF:=cond_t h46 hF
 repeat refine sq ?_
 refine WPU.skip ?_
 repeat refine gq ?_
 repeat refine sq ?_
 refine WPU.block ?_
 repeat refine sq ?_
 obtain ⟨x47,h48,hF⟩:=bindO_some hF
 refine WPU.region Try.tb_ok (RS.op (u:=.iptr (cGDecision x47)) rfl (op_ia rfl rfl (ia_isl cGDecision Try.und25 (sz_of Try.inf57) q004 h48 rfl)) rfl rfl (RS.op (u:=.agg (cGDecision x47)) rfl (li_agg Try.und57 rfl (sz_of Try.inf57) rfl rfl) rfl rfl (RS.op (u:=.ptr 1 0 0) (σ':=⟨[(1,.row [.int .i64 0,.str [],.int .i64 0,.int .i64 0,.bool false] 57),(0,.row (cGSession r11.1) 27)],2⟩) rfl (op_alloc Try.inf57 rfl rfl) rfl rfl (RS.opn (u:=.junk) (σ':=⟨[(1,.row (cGDecision x47) 57),(0,.row (cGSession r11.1) 27)],2⟩) rfl (op_store (sz_of Try.inf57) rfl rfl rfl rfl rfl rfl rfl rfl) rfl (RS.done ?_)))))
 repeat refine gq ?_
 repeat refine sq ?_
 obtain ⟨x49,h50,hF⟩:=bindO_some hF
 obtain ⟨r51,h52,hF⟩:=bindO_some hF
 refine WPU.drawE Try.tb_ok [] (by kernel_rfl) ?_
 refine RD.look (u:=.ptr 0 0 0) rfl (op_fa Try.und27 rfl (sz_of Try.inf22) rfl rfl rfl) rfl rfl (RD.look (u:=.isl false (List.map cGDeriv r11.1.Readings)) rfl (ld_one Try.und22 rfl rfl rfl rfl) rfl rfl (RD.mv rfl rfl rfl rfl (RD.look (u:=.iptr (xGDeriv x49)) rfl (op_ia rfl rfl (ia_isl cGDeriv Try.und22 (sz_of Try.inf36) len_cGDeriv h50 (cGDeriv_eq x49))) rfl rfl (RD.look (u:=.agg (xGDeriv x49)) rfl (li_agg Try.und36 rfl (sz_of Try.inf36) rfl rfl) rfl rfl (RD.look (u:=.ptr 1 0 0) rfl (op_fa Try.und57 rfl (sz_of Try.inf38) rfl rfl rfl) rfl rfl (RD.look (u:=.agg (cGProp x47.Propx)) rfl (ld_agg Try.und38 rfl (sz_of Try.inf38) rfl rfl rfl) rfl rfl (RD.free (u:=.bool r51) (args:=[.agg (xGDeriv x49),.agg (cGProp x47.Propx)]) rfl (op_call rfl rfl Try.fn17 Try.hb17 rfl rfl) (fun s=>disc_Holds_ok n x49 x47.Propx r51 h52 s) rfl rfl ?_)))))))
 refine RD.look (u:=.ptr 1 0 4) rfl (op_fa Try.und57 rfl (sz_of Try.inf4) rfl rfl rfl) rfl rfl (RD.look (u:=.bool x47.Yes) rfl (ld_one Try.und4 rfl rfl rfl rfl) rfl rfl ?_)
 refine RD.look (u:=.bool (!(r51 == x47.Yes))) rfl (op_bin rfl rfl (by simp only [g2,toV,binX,guardX,eqv,cond_true,ofV,Try.und4])) rfl rfl ?_
 refine RD.done ⟨by kernel_rfl,trivial,?_⟩
 repeat refine gq ?_
 repeat refine sq ?_
 refine WPU.condS (t:=(!(r51 == x47.Yes))) rfl (fun h53=>?_) (fun h53=>?_)
 replace hF:=cond_t h53 hF
 repeat refine sq ?_
 refine WPU.region Try.tb_ok (RS.as rfl rfl rfl rfl (RS.done ?_))
 repeat refine gq ?_
 repeat refine sq ?_
 refine WPU.ret ?_
 repeat refine gq ?_
 have hr:=Option.some.inj hF
 subst hr
 exact ⟨.inr rfl,[.bool false],res_t rfl (res_n),.bool false,⟨[],0⟩,Nat.le_refl _,Gh.toR (.bool false) rfl,rfl,BU.h⟩
 replace hF:=cond_f h53 hF
 repeat refine sq ?_
 refine WPU.skip ?_
 repeat refine gq ?_
 repeat refine sq ?_
 refine WPU.region Try.tb_ok (RS.op rfl (op_int rfl rfl (ix_add _ _ _) rfl) rfl rfl (RS.mv rfl rfl rfl rfl (RS.done ?_)))
 repeat refine gq ?_
 exact ⟨m2,_,_,Nat.lt_succ_self _,⟨(IntKind.i64.wrap (z45 + 1)),hF,rfl,rfl⟩,(Nat.zero_le _),Gh.toC (n1:=1) ⟨rfl,rfl,rfl,rfl,rfl,rfl,rfl,rfl,trivial⟩ rfl (Nat.zero_le _) (by simp)⟩
 replace hF:=cond_f h46 hF
 repeat refine sq ?_
 refine WPU.exit ?_
 repeat refine gq ?_
 exact ⟨_,_,⟨hF,rfl,rfl⟩,(Nat.zero_le _),Gh.toC (n1:=1) ⟨rfl,rfl,rfl,rfl,trivial⟩ rfl (Nat.zero_le _) (by simp)⟩
 replace hF:=cond_f h32 hF
 repeat refine sq ?_
 refine WPU.exit ?_
 repeat refine gq ?_
 exact ⟨_,_,⟨hF,rfl,rfl⟩,(Nat.zero_le _),Gh.toC (n1:=1) trivial rfl (Nat.zero_le _) (by simp)⟩
 rcases bool_tf ((r16.length : Int) == 0) with h18 | h18
 replace h21:=cond_t h18 h21
 replace h21:=Option.some.inj h21
 subst h21
 refine WPU.region Try.tb_ok (RS.mv rfl rfl rfl rfl (RS.op rfl (op_len rfl rfl rfl (len_isl (cI .i64) Try.und43)) rfl rfl (RS.op rfl (op_int rfl rfl (ix_eql _ _ _) rfl) rfl rfl (RS.mv rfl rfl rfl rfl ?_))))
 repeat refine RS.no (want0 rfl rfl rfl h18) rfl rfl ?_
 repeat refine RS.no (wantT rfl rfl rfl) rfl rfl ?_
 refine RS.no (want0 rfl rfl rfl h18) rfl rfl (RS.op (u:=.bool true) rfl (op_pick1 rfl h18 rfl) rfl rfl (RS.done ?_))
 repeat refine gq ?_
 exact ⟨_,_,⟨rfl,rfl⟩,(Nat.zero_le _),Gh.toC (n1:=1) ⟨rfl,rfl,rfl,trivial⟩ rfl (Nat.zero_le _) (by simp)⟩
 replace h21:=cond_f h18 h21
 rcases bool_tf (r11.1.State == 1) with h19 | h19
 replace h21:=cond_t h19 h21
 replace h21:=Option.some.inj h21
 subst h21
 refine WPU.region Try.tb_ok (RS.mv rfl rfl rfl rfl (RS.op rfl (op_len rfl rfl rfl (len_isl (cI .i64) Try.und43)) rfl rfl (RS.op rfl (op_int rfl rfl (ix_eql _ _ _) rfl) rfl rfl (RS.mv rfl rfl rfl rfl (RS.op (u:=.ptr 0 0 2) (want1 rfl rfl rfl h18) (op_fa Try.und27 rfl (sz_of Try.inf3) rfl rfl rfl) rfl rfl (RS.op (u:=.int .i64 r11.1.State) (want1 rfl rfl rfl h18) (ld_one Try.und3 rfl rfl rfl rfl) rfl rfl (RS.op (want1 rfl rfl rfl h18) (op_int rfl rfl (ix_eql _ _ _) rfl) rfl rfl ?_)))))))
 refine RS.op (want1 rfl rfl rfl h18) (op_move rfl) rfl rfl (RS.op (want1 rfl rfl rfl h19) (op_move rfl) rfl rfl (RS.op (want1 rfl rfl rfl h19) (op_len rfl rfl rfl (len_isl (cI .i64) Try.und43)) rfl rfl (RS.op (want1 rfl rfl rfl h19) (op_int rfl rfl (ix_neq _ _ _) rfl) rfl rfl (RS.op (u:=.bool ((r16.length : Int) != 1)) (want1 rfl rfl rfl h18) (op_pick1 rfl h19 rfl) rfl rfl (RS.op (u:=.bool ((r16.length : Int) != 1)) rfl (op_pick0 rfl h18 rfl) rfl rfl (RS.done ?_))))))
 repeat refine gq ?_
 exact ⟨_,_,⟨rfl,rfl⟩,(Nat.zero_le _),Gh.toC (n1:=1) ⟨rfl,rfl,rfl,trivial⟩ rfl (Nat.zero_le _) (by simp)⟩
 replace h21:=cond_f h19 h21
 replace h21:=Option.some.inj h21
 subst h21
 refine WPU.region Try.tb_ok (RS.mv rfl rfl rfl rfl (RS.op rfl (op_len rfl rfl rfl (len_isl (cI .i64) Try.und43)) rfl rfl (RS.op rfl (op_int rfl rfl (ix_eql _ _ _) rfl) rfl rfl (RS.mv rfl rfl rfl rfl (RS.op (u:=.ptr 0 0 2) (want1 rfl rfl rfl h18) (op_fa Try.und27 rfl (sz_of Try.inf3) rfl rfl rfl) rfl rfl (RS.op (u:=.int .i64 r11.1.State) (want1 rfl rfl rfl h18) (ld_one Try.und3 rfl rfl rfl rfl) rfl rfl (RS.op (want1 rfl rfl rfl h18) (op_int rfl rfl (ix_eql _ _ _) rfl) rfl rfl ?_)))))))
 refine RS.op (want1 rfl rfl rfl h18) (op_move rfl) rfl rfl ?_
 repeat refine RS.no (want0 rfl rfl rfl h19) rfl rfl ?_
 refine RS.op (u:=.bool false) (want1 rfl rfl rfl h18) (op_pick0 rfl h19 rfl) rfl rfl (RS.op (u:=.bool false) rfl (op_pick0 rfl h18 rfl) rfl rfl (RS.done ?_))
 repeat refine gq ?_
 exact ⟨_,_,⟨rfl,rfl⟩,(Nat.zero_le _),Gh.toC (n1:=1) ⟨rfl,rfl,rfl,trivial⟩ rfl (Nat.zero_le _) (by simp)⟩
 obtain ⟨r3,h4,h7⟩:=bindO_some h7
 rcases bool_tf (!r3) with h5 | h5
 replace h7:=cond_t h5 h7
 replace h7:=Option.some.inj h7
 subst h7
 refine WPU.region Try.tb_ok (RS.mv rfl rfl rfl rfl (RS.call (u:=.bool r3) (args:=[.isl false (List.map cGDeriv p1)]) rfl (op_call rfl rfl Try.fn8 Try.hb8 rfl rfl) (law46_light_ok n p1 r3 h4 _) rfl rfl (RS.op (u:=.bool (!r3)) rfl (op_un rfl rfl rfl rfl) rfl rfl (RS.mv rfl rfl rfl rfl ?_))))
 repeat refine RS.no (want0 rfl rfl rfl h5) rfl rfl ?_
 refine RS.op (u:=.bool true) rfl (op_pick1 rfl h5 rfl) rfl rfl (RS.done ?_)
 repeat refine gq ?_
 exact ⟨_,_,⟨rfl,rfl⟩,(Nat.zero_le _),Gh.toC (n1:=0) ⟨rfl,rfl,rfl,trivial⟩ rfl (Nat.zero_le _) (by simp)⟩
 replace h7:=cond_f h5 h7
 replace h7:=Option.some.inj h7
 subst h7
 refine WPU.region Try.tb_ok (RS.mv rfl rfl rfl rfl (RS.call (u:=.bool r3) (args:=[.isl false (List.map cGDeriv p1)]) rfl (op_call rfl rfl Try.fn8 Try.hb8 rfl rfl) (law46_light_ok n p1 r3 h4 _) rfl rfl (RS.op (u:=.bool (!r3)) rfl (op_un rfl rfl rfl rfl) rfl rfl (RS.mv rfl rfl rfl rfl (RS.op (want1 rfl rfl rfl h5) (op_move rfl) rfl rfl (RS.op (want1 rfl rfl rfl h5) (op_len rfl rfl rfl (len_isl cGStep Try.und47)) rfl rfl (RS.op (want1 rfl rfl rfl h5) (op_int rfl rfl (ix_gtr _ _ _) rfl) rfl rfl ?_)))))))
 refine RS.op (u:=.bool (decide ((p2.length : Int) > 10))) rfl (op_pick0 rfl h5 rfl) rfl rfl (RS.done ?_)
 repeat refine gq ?_
 exact ⟨_,_,⟨rfl,rfl⟩,(Nat.zero_le _),Gh.toC (n1:=0) ⟨rfl,rfl,rfl,trivial⟩ rfl (Nat.zero_le _) (by simp)⟩
end Go.Proofs
end
