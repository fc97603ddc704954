/-
  Texts of the walk: H4 PlA MpA.
-/
import Derived.Test.YtkgbipeaeamohaaGreatDoorP19
set_option linter.unusedSimpArgs false
set_option linter.unusedVariables false
section
namespace Go.Proofs
open Go Go.Rx Go.Vx Tryz
set_option maxRecDepth 20000
set_option maxHeartbeats 4000000
set_option synthInstance.maxSize 4000
set_option synthInstance.maxHeartbeats 200000
theorem qa1 (n:Nat) (p1:List q06) (r:(List q13)×Int) (hF:q7x n p1=some r):EvU Tryz.prog 72 [.isl false (List.map q02 p1)] ⟨[],0⟩ (fun u _=>u = .tup [.isl false (List.map q0h r.1),.int .i64 r.2]∧Bel 0 u):=by
 unfold q7x at hF
 refine bg1 92 fn72 ?_
 obtain ⟨r2,h3,hF⟩:=q00 hF
 refine go ?_
 refine RS.cl rfl (pC (qpi n p1 r2 h3) _) fn94 ?_
 refine go ?_
 refine cF hF (fun h4 hF=>?_) (fun h4 hF=>?_)
 refine go ?_
 obtain rfl:=sI hF
 exact rT (us:=[.nils,.i6 r2]) (u:=.tup [.isl false [],.i6 r2]) (q2o rfl (q2o rfl (q2g))) wR
 obtain ⟨r5,h6,hF⟩:=q00 hF
 refine go ?_
 refine RS.cl rfl (pC (qiu n p1 r5 h6) _) fn95 ?_
 refine gr ?_
 refine gr ?_
 refine WPU.ghost (tm':=fr 92 [(0,.iM q02 p1),(5,.iM cS r5),(6,.vl 0 0 0 (([]:List (List Int)).length)),(7,.i6 0)]) (σ':=⟨[(0,.vec (List.map (cL (cI .u64)) ([]:List (List Int))).flatten 103 1 0)],1⟩) (Gh.trans (z4n 6 103 1 (by decide) NZ rfl rfl) (z4l ⟨rfl,rfl,rfl,rfl,trivial⟩ rfl)) NZ ?_
 refine gS (l':=[(0,_),(5,_),(6,_),(7,_)]) ?_
 refine z4g (fun m tm σ=>∃ z12:Int,∃ l13:List (List Int),∃ t14:Nat,q8l p1 n r5 m z12 l13=some r∧tm=fr 92 [(0,.iM q02 p1),(5,.iM cS r5),(6,.vl 0 t14 0 l13.length),(7,.i6 z12)]∧σ=⟨[(0,.vec (List.map (cL (cI .u64)) l13).flatten 103 1 t14)],1⟩) (fun tm σ=>∃ l15:List (List Int),∃ t16:Nat,qc6 p1 n r5 l15=some r∧tm=fr 92 [(0,.iM q02 p1),(5,.iM cS r5),(6,.vl 0 t16 0 l15.length)]∧σ=⟨[(0,.vec (List.map (cL (cI .u64)) l15).flatten 103 1 t16)],1⟩) n ⟨0,([]:List (List Int)),0,hF,rfl,rfl⟩ ?_ ?_
 rintro _ _ ⟨l15,t16,hF,rfl,rfl⟩
 unfold qc6 at hF
 refine gn ?_
 refine WPU.ghost (tm':=fr 92 [(0,.iM q02 p1),(5,.iM cS r5),(6,.iM (cL (cI .u64)) l15)]) (σ':=⟨[],1⟩) (Gh.trans (Gh.sub (l':=[(0,.iM q02 p1),(5,.iM cS r5),(6,.vl 0 t16 0 l15.length)]) ⟨rfl,rfl,rfl,trivial⟩) (z4z 0 1)) NZ ?_
 obtain ⟨r17,h18,hF⟩:=q00 hF
 refine go ?_
 refine RS.cl rfl (pC (qns n l15 r17 h18) _) fn97 ?_
 refine go ?_
 refine RS.q rfl (q0c rfl rfl rfl (q08 (cL (cI .u64)) und148)) ?_
 refine go ?_
 refine cF hF (fun h19 hF=>?_) (fun h19 hF=>?_)
 refine go ?_
 obtain rfl:=sI hF
 exact rT (us:=[.nils,.i6 7]) (u:=.tup [.isl false [],.i6 7]) (q2o rfl (q2o rfl (q2g))) wR
 refine gr ?_
 refine gr ?_
 refine WPU.ghost (tm':=fr 92 [(0,.iM q02 p1),(5,.iM cS r5),(6,.iM (cL (cI .u64)) l15),(8,.iM (cL (cI .u64)) r17),(9,.vl 1 0 0 (([]:List q13).length)),(10,.i6 0)]) (σ':=⟨[(1,.vec (List.map q0h ([]:List q13)).flatten 105 2 0)],2⟩) (Gh.trans (z4n 9 105 2 (by decide) NZ rfl rfl) (z4l ⟨rfl,rfl,rfl,rfl,rfl,rfl,trivial⟩ rfl)) NZ ?_
 refine gS (l':=[(0,_),(5,_),(6,_),(8,_),(9,_),(10,_)]) ?_
 refine z4g (fun m tm σ=>∃ z27:Int,∃ l28:List q13,∃ t29:Nat,q4t p1 n r5 l15 r17 m z27 l28=some r∧tm=fr 92 [(0,.iM q02 p1),(5,.iM cS r5),(6,.iM (cL (cI .u64)) l15),(8,.iM (cL (cI .u64)) r17),(9,.vl 1 t29 0 l28.length),(10,.i6 z27)]∧σ=⟨[(1,.vec (List.map q0h l28).flatten 105 2 t29)],2⟩) (fun tm σ=>∃ l30:List q13,∃ t31:Nat,qc7 l30=some r∧tm=fr 92 [(9,.vl 1 t31 0 l30.length)]∧σ=⟨[(1,.vec (List.map q0h l30).flatten 105 2 t31)],2⟩) n ⟨0,([]:List q13),0,hF,rfl,rfl⟩ ?_ ?_
 rintro _ _ ⟨l30,t31,hF,rfl,rfl⟩
 unfold qc7 at hF
 refine go ?_
 obtain rfl:=sI hF
 exact rT (us:=[.vl 1 t31 0 l30.length,.i6 0]) (u:=.tup [.iM q0h l30,.i6 0]) (q2o rfl (q2o rfl (q2g))) (fR 1 2)
 rintro (_|m2) _ _ ⟨z27,l28,t29,hF,rfl,rfl⟩
 cases hF
 unfold q4t at hF
 refine go ?_
 refine RS.q rfl (q0c rfl rfl rfl (q08 (cL (cI .u64)) und148)) ?_
 refine go ?_
 refine cF hF (fun h32 hF=>?_) (fun h32 hF=>?_)
 refine go ?_
 refine WPU.block ?_
 obtain ⟨x33,h34,hF⟩:=q00 hF
 obtain ⟨r35,h36,hF⟩:=q00 hF
 obtain ⟨x37,h38,hF⟩:=q00 hF
 refine go ?_
 refine z4i Tryz.tb_ok [(0,13),(1,13),(2,13),(3,13),(4,13),(5,13),(6,13),(8,13),(9,13),(10,13),(11,13),(12,13)] (by kernel_rfl) ?_
 repeat refine RD.mv rfl rfl rfl rfl ?_
 refine RD.q rfl (q0f rfl rfl (q0a (cL (cI .u64)) und148 (q03 inf103) (q4h (cI .u64)) h34 rfl)) (RD.q rfl (q0d und103 rfl rfl rfl) ?_)
 refine z4w rfl (pC (qre n p1 r5 l15 x33 r35 h36)) fn98 ?_
 repeat refine RD.mv rfl rfl rfl rfl ?_
 refine RD.q rfl (q0f rfl rfl (q0a (cL (cI .u64)) und148 (q03 inf103) (q4h (cI .u64)) h38 rfl)) (RD.q rfl (q0d und103 rfl rfl rfl) (RD.q (u:=.agg [.str r35,.iM (cI .u64) x37]) rfl (q3l bd105 rfl rfl rfl) (RD.act (u:=.ptr 2 0 0) (σ':=⟨[(2,.row [.str [],.nils] 105),(1,.vec (List.map q0h l28).flatten 105 2 t29)],3⟩) rfl (q0v inf105 rfl rfl) rfl rfl ?_)))
 refine z4t (u:=.junk) (σ':=⟨[(2,.row [.str r35,.iM (cI .u64) x37] 105),(1,.vec (List.map q0h l28).flatten 105 2 t29)],3⟩) rfl (q0l (q03 inf105) rfl rfl rfl rfl rfl rfl rfl rfl) rfl ?_
 refine RD.done ⟨by kernel_rfl,⟨q27 rfl,⟨q27 rfl,⟨q27 rfl,⟨q27 rfl,⟨q27 rfl,⟨q0f rfl rfl (q0a (cL (cI .u64)) und148 (q03 inf103) (q4h (cI .u64)) h34 rfl),⟨q0d und103 rfl rfl rfl,⟨q27 rfl,⟨q27 rfl,⟨q0f rfl rfl (q0a (cL (cI .u64)) und148 (q03 inf103) (q4h (cI .u64)) h38 rfl),⟨q0d und103 rfl rfl rfl,⟨q3l bd105 rfl rfl rfl,trivial⟩⟩⟩⟩⟩⟩⟩⟩⟩⟩⟩⟩,?_⟩
 refine go ?_
 refine RS.q rfl (q0c rfl rfl rfl (q6o und99 rfl)) ?_
 refine go ?_
 refine gS (l':=[(0,_),(5,_),(6,_),(8,_),(9,_),(10,_),(11,_),(12,_)]) ?_
 refine z4g (fun m tm σ=>∃ z49:Int,q8m n z27 l28 (q4t p1 n r5 l15 r17 m2) r35 x37 m z49=some r∧tm=fr 92 [(0,.iM q02 p1),(5,.iM cS r5),(6,.iM (cL (cI .u64)) l15),(8,.iM (cL (cI .u64)) r17),(9,.vl 1 t29 0 l28.length),(10,.i6 z27),(11,.ptr 2 0 0),(12,.i6 z49)]∧σ=⟨[(2,.row [.str r35,.iM (cI .u64) x37] 105),(1,.vec (List.map q0h l28).flatten 105 2 t29)],3⟩) (fun tm σ=>∃ z50:Int,qc8 z27 l28 (q4t p1 n r5 l15 r17 m2) r35 x37 z50=some r∧tm=fr 92 [(0,.iM q02 p1),(5,.iM cS r5),(6,.iM (cL (cI .u64)) l15),(8,.iM (cL (cI .u64)) r17),(9,.vl 1 t29 0 l28.length),(10,.i6 z27),(11,.ptr 2 0 0),(12,.i6 z50)]∧σ=⟨[(2,.row [.str r35,.iM (cI .u64) x37] 105),(1,.vec (List.map q0h l28).flatten 105 2 t29)],3⟩) n ⟨(l28.length:Int),hF,rfl,rfl⟩ ?_ ?_
 rintro _ _ ⟨z50,hF,rfl,rfl⟩
 unfold qc8 at hF
 obtain ⟨h51,hF⟩:=q0b hF
 obtain ⟨h52,hF⟩:=q0b hF
 obtain ⟨h53,hF⟩:=q0b hF
 refine go ?_
 refine RS.q (u:=.vl 1 t29 0 z50.toNat) rfl (qbb rfl qry (z1s rfl) qry (z0z q0h und99 (q03 inf105) q1z (vo rfl) (Nat.le_of_eq (Nat.zero_add _)) (qwd h51.1 h51.2))) (RS.q (u:=.vl 3 0 0 (((l28.drop 0).take z50.toNat).length)) (σ':=⟨[(3,.vec (List.map q0h ((l28.drop 0).take z50.toNat)).flatten 105 2 0),(2,.row [.str r35,.iM (cI .u64) x37] 105),(1,.vec (List.map q0h l28).flatten 105 2 t29)],4⟩) rfl (q1u rfl rfl rfl rfl (qs5 q0h ((l28.drop 0).take z50.toNat) und99 und99 inf105 rfl (qus q0h q1z (vo rfl) h52) h53)) ?_)
 obtain ⟨h54,hF⟩:=q0b hF
 refine go ?_
 refine RS.q (u:=.agg [.str r35,.iM (cI .u64) x37]) rfl (q0p und105 rfl (q03 inf105) rfl rfl rfl) (RS.q (u:=.sl 4 0 1 1) (σ':=⟨[(4,.row [.str r35,.iM (cI .u64) x37] 105),(3,.vec (List.map q0h ((l28.drop 0).take z50.toNat)).flatten 105 2 0),(2,.row [.str r35,.iM (cI .u64) x37] 105),(1,.vec (List.map q0h l28).flatten 105 2 t29)],5⟩) rfl (q0j und99 inf105 rfl rfl rfl rfl rfl rfl rfl) (RS.q (u:=.vl 3 1 0 ((((l28.drop 0).take z50.toNat)++[(q13.mk r35 x37)]).length)) (σ':=⟨[(4,.row [.str r35,.iM (cI .u64) x37] 105),(3,.vec (List.map q0h (((l28.drop 0).take z50.toNat)++[(q13.mk r35 x37)])).flatten 105 2 1),(2,.row [.str r35,.iM (cI .u64) x37] 105),(1,.vec (List.map q0h l28).flatten 105 2 t29)],5⟩) rfl (q1u rfl rfl rfl rfl (q2a q0h ([(q13.mk r35 x37)]) und99 und99 inf105 rfl q1z rfl (q1q q0h [(q13.mk r35 x37)] rfl rfl rfl rfl) h54)) ?_))
 obtain ⟨h55,hF⟩:=q0b hF
 obtain ⟨h56,hF⟩:=q0b hF
 obtain ⟨h57,hF⟩:=q0b hF
 refine go ?_
 refine RS.q (u:=.vl 1 t29 (0+z50.toNat) (l28.length - z50.toNat)) rfl (qbb rfl (z1s rfl) qry qry (z0z q0h und99 (q03 inf105) q1z (vo rfl) (Nat.le_of_eq (Nat.zero_add _)) (qwe h55.1 h55.2))) (RS.q (u:=.vl 3 2 0 (((((l28.drop 0).take z50.toNat)++[(q13.mk r35 x37)])++((l28.drop (0+z50.toNat)).take (l28.length - z50.toNat))).length)) (σ':=⟨[(4,.row [.str r35,.iM (cI .u64) x37] 105),(3,.vec (List.map q0h ((((l28.drop 0).take z50.toNat)++[(q13.mk r35 x37)])++((l28.drop (0+z50.toNat)).take (l28.length - z50.toNat)))).flatten 105 2 2),(2,.row [.str r35,.iM (cI .u64) x37] 105),(1,.vec (List.map q0h l28).flatten 105 2 t29)],5⟩) rfl (q1u rfl rfl rfl rfl (q2a q0h ((l28.drop (0+z50.toNat)).take (l28.length - z50.toNat)) und99 und99 inf105 rfl q1z rfl (qus q0h q1z (vo rfl) h56) h57)) ?_)
 refine go ?_
 exact ⟨m2,_,_,Nat.lt_succ_self _,⟨(IntKind.i64.wrap (z27+1)),((((l28.drop 0).take z50.toNat)++[(q13.mk r35 x37)])++((l28.drop (0+z50.toNat)).take (l28.length - z50.toNat))),2,hF,rfl,rfl⟩,NZ,Gh.trans (Gh.sub (l':=[(0,.iM q02 p1),(5,.iM cS r5),(6,.iM (cL (cI .u64)) l15),(8,.iM (cL (cI .u64)) r17),(9,.vl 3 2 0 (((((l28.drop 0).take z50.toNat)++[(q13.mk r35 x37)])++((l28.drop (0+z50.toNat)).take (l28.length - z50.toNat))).length)),(10,.i6 (IntKind.i64.wrap (z27+1)))]) ⟨rfl,rfl,rfl,rfl,rfl,rfl,trivial⟩) (Gh.trans (Gh.mv (l':=[(0,.iM q02 p1),(5,.iM cS r5),(6,.iM (cL (cI .u64)) l15),(8,.iM (cL (cI .u64)) r17),(9,.vl 1 2 0 (((((l28.drop 0).take z50.toNat)++[(q13.mk r35 x37)])++((l28.drop (0+z50.toNat)).take (l28.length - z50.toNat))).length)),(10,.i6 (IntKind.i64.wrap (z27+1)))]) (h':=[(4,.row [.str r35,.iM (cI .u64) x37] 105),(1,.vec (List.map q0h ((((l28.drop 0).take z50.toNat)++[(q13.mk r35 x37)])++((l28.drop (0+z50.toNat)).take (l28.length - z50.toNat)))).flatten 105 2 2),(2,.row [.str r35,.iM (cI .u64) x37] 105)]) 1 3 NZ rfl rfl (by simp only [rS,rU,rUL,qfa,mvN,Nat.beq,cond_true,cond_false]) rfl (by simp only [avH,rB,qoh,rUL,rU,qfa,qua,mvN,Nat.beq,cond_true,cond_false,and_self])) (Gh.toC (n1:=2) ⟨rfl,rfl,rfl,rfl,rfl,rfl,trivial⟩ rfl NZ (by simp)))⟩
 rintro (_|m3) _ _ ⟨z49,hF,rfl,rfl⟩
 cases hF
 unfold q8m at hF
 obtain ⟨b63,h64,hF⟩:=q00 hF
 refine gn ?_
 refine z4h (fun tm σ=>tm=fr 92 [(0,.iM q02 p1),(5,.iM cS r5),(6,.iM (cL (cI .u64)) l15),(8,.iM (cL (cI .u64)) r17),(9,.vl 1 t29 0 l28.length),(10,.i6 z27),(11,.ptr 2 0 0),(12,.i6 z49),(73,.bool b63)]∧σ=⟨[(2,.row [.str r35,.iM (cI .u64) x37] 105),(1,.vec (List.map q0h l28).flatten 105 2 t29)],3⟩) ?_ ?_
 rintro _ _ ⟨rfl,rfl⟩
 refine go ?_
 refine cF hF (fun h65 hF=>?_) (fun h65 hF=>?_)
 refine go ?_
 refine WPU.block ?_
 refine go ?_
 exact lC ⟨_,hF,rfl,rfl⟩
 refine go ?_
 exact xC ⟨z49,hF,rfl,rfl⟩
 rcases gB h64 with ⟨h58,h64⟩ | ⟨h58,h64⟩
 obtain ⟨x59,h60,h64⟩:=q00 h64
 obtain ⟨r61,h62,h64⟩:=q00 h64
 obtain rfl:=sI h64
 refine z4i Tryz.tb_ok [] (by kernel_rfl) ?_
 refine RD.mv rfl rfl rfl rfl (RD.q rfl (q3b rfl rfl (qmb _ _ _) rfl) (RD.mv rfl rfl rfl rfl (RD.w (u:=.agg [.str r35,.iM (cI .u64) x37]) rfl (q0p und105 rfl (q03 inf105) rfl rfl rfl) (RD.w rfl (q27 rfl) (RD.w rfl (q27 rfl) (RD.w rfl (q3b rfl rfl (qxo _ _ _) rfl) ?_))))))
 refine RD.w rfl (q0f rfl rfl (q90 q0h und99 (q03 inf105) (by decide) q1z (vo rfl) h60)) ?_
 refine RD.w (u:=.agg (q0h x59)) rfl (z2d q0h und105 rfl (q03 inf105) q1z rfl rfl h60 rfl) ?_
 refine z4w rfl (pC (qnr n (q13.mk r35 x37) x59 r61 h62)) fn99 ?_
 refine RD.q rfl (qil rfl h58 rfl) ?_
 refine RD.done ⟨by kernel_rfl,trivial,?_⟩
 refine go ?_
 exact xC ⟨rfl,rfl⟩
 obtain rfl:=sI h64
 refine z4i Tryz.tb_ok [] (by kernel_rfl) ?_
 refine RD.mv rfl rfl rfl rfl (RD.q rfl (q3b rfl rfl (qmb _ _ _) rfl) (RD.mv rfl rfl rfl rfl ?_))
 repeat refine RD.no (qvx rfl rfl rfl h58) rfl rfl ?_
 refine RD.q rfl (qik rfl h58 rfl) ?_
 refine RD.done ⟨by kernel_rfl,trivial,?_⟩
 refine go ?_
 exact xC ⟨rfl,rfl⟩
 refine go ?_
 exact xC ⟨l28,t29,hF,rfl,rfl⟩
 rintro (_|m1) _ _ ⟨z12,l13,t14,hF,rfl,rfl⟩
 cases hF
 unfold q8l at hF
 refine go ?_
 refine RS.q rfl (q0c rfl rfl rfl (q08 cS und80)) ?_
 refine go ?_
 refine cF hF (fun h66 hF=>?_) (fun h66 hF=>?_)
 refine go ?_
 refine WPU.block ?_
 obtain ⟨x67,h68,hF⟩:=q00 hF
 obtain ⟨r69,h70,hF⟩:=q00 hF
 obtain ⟨h71,hF⟩:=q0b hF
 refine go ?_
 refine RS.q rfl (q0f rfl rfl (q0a cS und80 (q03 inf9) q1s h68 rfl)) (RS.q rfl (q0d und9 rfl rfl rfl) (RS.cl rfl (pC (qrd n p1 r5 x67 r69 h70) _) fn96 (RS.q (u:=.sl 1 0 1 1) (σ':=⟨[(1,.row [.iM (cI .u64) r69] 103),(0,.vec (List.map (cL (cI .u64)) l13).flatten 103 1 t14)],2⟩) rfl (q0j und148 inf103 rfl rfl rfl rfl rfl rfl rfl) (RS.q (u:=.vl 0 (t14+1) 0 ((l13++[r69]).length)) (σ':=⟨[(1,.row [.iM (cI .u64) r69] 103),(0,.vec (List.map (cL (cI .u64)) (l13++[r69])).flatten 103 1 (t14+1))],2⟩) rfl (q1u rfl rfl rfl rfl (q2a (cL (cI .u64)) ([r69]) und148 und148 inf103 rfl (q4h (cI .u64)) rfl (q1q (cL (cI .u64)) [r69] rfl rfl rfl rfl) h71)) ?_))))
 refine go ?_
 exact lC ⟨_,(l13++[r69]),(t14+1),hF,rfl,rfl⟩
 refine go ?_
 exact xC ⟨l13,t14,hF,rfl,rfl⟩
def qch   : Option ((List UInt8)×Bool) :=
 some ([],false)
def q8r (p1:q06) (p2:List UInt8):Nat→Int→Option ((List UInt8)×Bool)
 | 0,_=>none
 | m1+1,z8 =>
  cond (decide (z8<(p1.Feats.length:Int)))
   (q04 (q15 p1.Feats z8) fun x10 =>
   cond (q1x x10.Feat p2)
    (q04 (q15 p1.Feats z8) fun x13 =>
    some (x13.Value,true))
    ((q8r p1 p2 m1) (IntKind.i64.wrap (z8+1))))
   (qch)
def qeb (n:Nat) (p1:q06) (p2:List UInt8):Option ((List UInt8)×Bool) :=
 q8r p1 p2 n 0
theorem qix (n:Nat) (p1:q06) (p2:List UInt8) (r:(List UInt8)×Bool) (hF:qeb n p1 p2=some r):EvU Tryz.prog 117 [.agg (q02 p1),.str p2] ⟨[],0⟩ (fun u _=>u = .tup [.str r.1,.bool r.2]∧Bel 0 u):=by
 unfold qeb at hF
 refine bg2 28 fn117 ?_
 refine go ?_
 refine RS.q (u:=.ptr 0 0 0) (σ':=⟨[(0,.row (q02 p1) 127)],1⟩) rfl (q2p rfl rfl rfl) ?_
 refine go ?_
 refine gS (l':=[(1,_),(2,_),(6,_)]) ?_
 refine z4g (fun m tm σ=>∃ z8:Int,q8r p1 p2 m z8=some r∧tm=fr 28 [(1,.str p2),(2,.ptr 0 0 0),(6,.i6 z8)]∧σ=⟨[(0,.row (q02 p1) 127)],1⟩) (fun tm σ=>qch=some r∧tm=fr 28 []∧σ=⟨[(0,.row (q02 p1) 127)],1⟩) n ⟨0,hF,rfl,rfl⟩ ?_ ?_
 rintro _ _ ⟨hF,rfl,rfl⟩
 unfold qch at hF
 refine go ?_
 obtain rfl:=sI hF
 exact rt2 rfl rfl rfl rfl rfl
 rintro (_|m1) _ _ ⟨z8,hF,rfl,rfl⟩
 cases hF
 unfold q8r at hF
 refine go ?_
 refine RS.q rfl (q0w und127 rfl (q03 inf125) rfl rfl rfl) (RS.q rfl (q0i und125 rfl rfl rfl rfl) (RS.q rfl (q0c rfl rfl rfl (q08 q0e und125)) ?_))
 refine go ?_
 refine cF hF (fun h9 hF=>?_) (fun h9 hF=>?_)
 refine go ?_
 refine WPU.block ?_
 obtain ⟨x10,h11,hF⟩:=q00 hF
 refine go ?_
 refine RS.q rfl (q0w und127 rfl (q03 inf125) rfl rfl rfl) (RS.q rfl (q0i und125 rfl rfl rfl rfl) ?_)
 refine go ?_
 refine RS.q rfl (q0f rfl rfl (q0a q0e und125 (q03 inf162) q2h h11 rfl)) (RS.q rfl (q1o und162 rfl (q03 inf9) rfl rfl) (RS.q rfl (q0d und9 rfl rfl rfl) ?_))
 refine go ?_
 refine RS.q (u:=.bool (q1x x10.Feat p2)) rfl (q9m rfl rfl rfl rfl) ?_
 refine go ?_
 refine cF hF (fun h12 hF=>?_) (fun h12 hF=>?_)
 obtain ⟨x13,h14,hF⟩:=q00 hF
 refine go ?_
 refine RS.q rfl (q0w und127 rfl (q03 inf125) rfl rfl rfl) (RS.q rfl (q0i und125 rfl rfl rfl rfl) ?_)
 refine go ?_
 refine RS.q rfl (q0f rfl rfl (q0a q0e und125 (q03 inf162) q2h h14 rfl)) (RS.q rfl (q1o und162 rfl (q03 inf9) rfl rfl) (RS.q rfl (q0d und9 rfl rfl rfl) ?_))
 refine go ?_
 obtain rfl:=sI hF
 exact rt2 rfl rfl rfl rfl rfl
 refine go ?_
 exact lC ⟨_,hF,rfl,rfl⟩
 refine go ?_
 exact xC ⟨hF,rfl,rfl⟩
def q8q (z8:Int) (rc1:(List (List UInt8))→Int→Option ((List UInt8)×Bool)) (l21:List (List UInt8)):Option ((List UInt8)×Bool) :=
 rc1 l21 (IntKind.i64.wrap (z8+1))
def qcf (p1:List q06) (n:Nat) (l9:List (List UInt8)):Option ((List UInt8)×Bool) :=
 q04 (q9z n p1 l9) fun r10 =>
 cond ((r10.length:Int) != 1)
  (some ([],false))
  (q04 (q15 r10 0) fun x13 =>
  some (x13,true))
def q4x (p1:List q06) (p2:List UInt8) (n:Nat):Nat→(List (List UInt8))→Int→Option ((List UInt8)×Bool)
 | 0,_,_=>none
 | m1+1,l7,z8 =>
  cond (decide (z8<(p1.length:Int)))
   (q04 (q15 p1 z8) fun x16 =>
   q04 (qeb n x16 p2) fun r18 =>
   cond r18.2
    (q04 (q15 p1 z8) fun x22 =>
    q04 (q95 n l7 x22.Name) fun r24 =>
    q8q z8 (q4x p1 p2 n m1) r24)
    (q8q z8 (q4x p1 p2 n m1) l7))
   (qcf p1 n l7)
def qea (n:Nat) (p1:List q06) (p2:List UInt8):Option ((List UInt8)×Bool) :=
 q4x p1 p2 n n [] 0
theorem qiw (n:Nat) (p1:List q06) (p2:List UInt8) (r:(List UInt8)×Bool) (hF:qea n p1 p2=some r):EvU Tryz.prog 101 [.isl false (List.map q02 p1),.str p2] ⟨[],0⟩ (fun u _=>u = .tup [.str r.1,.bool r.2]∧Bel 0 u):=by
 unfold qea at hF
 refine bg2 43 fn101 ?_
 refine gr ?_
 refine gr ?_
 refine gr ?_
 refine WPU.ghost (tm':=fr 43 [(0,.iM q02 p1),(1,.str p2),(6,.iM cS []),(7,.i6 0)]) (Gh.trans (Gh.sub (l':=[(0,.iM q02 p1),(1,.str p2),(6,.nils),(7,.i6 0)]) ⟨rfl,rfl,rfl,rfl,trivial⟩) (Gh.wkS (l':=[(0,.iM q02 p1),(1,.str p2),(6,.iM cS []),(7,.i6 0)]) (.cons (.refl _) (.cons (.refl _) (.cons (.nil false) (.cons (.refl _) .nil)))))) NZ ?_
 refine gS (l':=[(0,_),(1,_),(6,_),(7,_)]) ?_
 refine z4g (fun m tm σ=>∃ l7:List (List UInt8),∃ z8:Int,q4x p1 p2 n m l7 z8=some r∧tm=fr 43 [(0,.iM q02 p1),(1,.str p2),(6,.iM cS l7),(7,.i6 z8)]∧σ=⟨[],0⟩) (fun tm σ=>∃ l9:List (List UInt8),qcf p1 n l9=some r∧tm=fr 43 [(0,.iM q02 p1),(6,.iM cS l9)]∧σ=⟨[],0⟩) n ⟨[],0,hF,rfl,rfl⟩ ?_ ?_
 rintro _ _ ⟨l9,hF,rfl,rfl⟩
 unfold qcf at hF
 obtain ⟨r10,h11,hF⟩:=q00 hF
 refine go ?_
 refine RS.cl rfl (pC (qfc n p1 l9 r10 h11) _) fn131 ?_
 refine go ?_
 refine RS.q rfl (q0c rfl rfl rfl (q08 cS und80)) ?_
 refine go ?_
 refine cF hF (fun h12 hF=>?_) (fun h12 hF=>?_)
 refine go ?_
 obtain rfl:=sI hF
 exact rt2 rfl rfl rfl rfl rfl
 obtain ⟨x13,h14,hF⟩:=q00 hF
 refine go ?_
 refine RS.q rfl (q0f rfl rfl (q0a cS und80 (q03 inf9) q1s h14 rfl)) (RS.q rfl (q0d und9 rfl rfl rfl) ?_)
 refine go ?_
 obtain rfl:=sI hF
 exact rt2 rfl rfl rfl rfl rfl
 rintro (_|m1) _ _ ⟨l7,z8,hF,rfl,rfl⟩
 cases hF
 unfold q4x at hF
 refine go ?_
 refine RS.q rfl (q0c rfl rfl rfl (q08 q02 und38)) ?_
 refine go ?_
 refine cF hF (fun h15 hF=>?_) (fun h15 hF=>?_)
 refine go ?_
 refine WPU.block ?_
 obtain ⟨x16,h17,hF⟩:=q00 hF
 obtain ⟨r18,h19,hF⟩:=q00 hF
 refine go ?_
 refine RS.q rfl (q0f rfl rfl (q0a q02 und38 (q03 inf127) q0m h17 rfl)) (RS.q (u:=.agg (q02 x16)) rfl (qam und127 rfl (q03 inf127) rfl rfl) ?_)
 refine go ?_
 refine RS.cl rfl (pC (qix n x16 p2 r18 h19) _) fn117 ?_
 refine gr ?_
 refine z4h (fun tm σ=>∃ l21:List (List UInt8),q8q z8 (q4x p1 p2 n m1) l21=some r∧tm=fr 43 [(0,.iM q02 p1),(1,.str p2),(6,.iM cS l21),(7,.i6 z8)]∧σ=⟨[],0⟩) ?_ ?_
 rintro _ _ ⟨l21,hF,rfl,rfl⟩
 unfold q8q at hF
 refine go ?_
 exact lC ⟨l21,(IntKind.i64.wrap (z8+1)),hF,rfl,rfl⟩
 refine cF hF (fun h20 hF=>?_) (fun h20 hF=>?_)
 obtain ⟨x22,h23,hF⟩:=q00 hF
 obtain ⟨r24,h25,hF⟩:=q00 hF
 refine go ?_
 refine RS.q rfl (q0f rfl rfl (q0a q02 und38 (q03 inf127) q0m h23 rfl)) (RS.q rfl (q1o und127 rfl (q03 inf9) rfl rfl) (RS.q rfl (q0d und9 rfl rfl rfl) (RS.cl rfl (pC (q7v n l7 x22.Name r24 h25) _) fn116 ?_)))
 refine go ?_
 exact xC ⟨r24,hF,rfl,rfl⟩
 refine go ?_
 exact xC ⟨l7,hF,rfl,rfl⟩
 refine go ?_
 exact xC ⟨l7,hF,rfl,rfl⟩
def q5c (n:Nat) (r2:(List (List UInt8))) (x9:q06) (z16:Int) (rc2:Int→Option (Int))  : Option (Int) :=
 q04 (q15 x9.Feats z16) fun x30 =>
 q04 (q3c n r2 x30.Value) fun r32 =>
 cond (!r32)
  (some 5)
  (rc2 (IntKind.i64.wrap (z16+1)))
def q3t (n:Nat) (r2:(List (List UInt8))) (x9:q06) (z16:Int) (rc2:Int→Option (Int)):Nat→Int→Option (Int)
 | 0,_=>none
 | m3+1,z29 =>
  cond (decide (z29<z16))
   (q04 (q15 x9.Feats z29) fun x36 =>
   q04 (q15 x9.Feats z16) fun x38 =>
   cond (q1x x36.Feat x38.Feat)
    (some 4)
    ((q3t n r2 x9 z16 rc2 m3) (IntKind.i64.wrap (z29+1))))
   (q5c n r2 x9 z16 rc2)
def q5b (z7:Int) (rc1:Int→Option (Int))  : Option (Int) :=
 rc1 (IntKind.i64.wrap (z7+1))
def q2e (n:Nat) (r2:(List (List UInt8))) (z7:Int) (rc1:Int→Option (Int)) (x9:q06):Nat→Int→Option (Int)
 | 0,_=>none
 | m2+1,z16 =>
  cond (decide (z16<(x9.Feats.length:Int)))
   (q04 (q15 x9.Feats z16) fun x18 =>
   q04 (qds n x18.Feat) fun r20 =>
   cond (!r20)
    (some 1)
    (q3t n r2 x9 z16 (q2e n r2 z7 rc1 x9 m2) n 0))
   (q5b z7 rc1)
def q5a   : Option (Int) :=
 some 0
def q1l (p1:List q06) (n:Nat) (r2:(List (List UInt8))):Nat→Int→Option (Int)
 | 0,_=>none
 | m1+1,z7 =>
  cond (decide (z7<(p1.length:Int)))
   (q04 (q15 p1 z7) fun x9 =>
   q2e n r2 z7 (q1l p1 n r2 m1) x9 n 0)
   (q5a)
def q7b (n:Nat) (p1:List q06):Option (Int) :=
 q04 (qe1 n p1) fun r2 =>
 q1l p1 n r2 n 0
theorem qgh (n:Nat) (p1:List q06) (r:Int) (hF:q7b n p1=some r):EvU Tryz.prog 115 [.isl false (List.map q02 p1)] ⟨[],0⟩ (fun u _=>u = .int .i64 r∧Bel 0 u):=by
 unfold q7b at hF
 refine bg1 58 fn115 ?_
 obtain ⟨r2,h3,hF⟩:=q00 hF
 refine go ?_
 refine RS.cl rfl (pC (qiu n p1 r2 h3) _) fn95 ?_
 refine go ?_
 refine gS (l':=[(0,_),(3,_),(4,_)]) ?_
 refine z4g (fun m tm σ=>∃ z7:Int,q1l p1 n r2 m z7=some r∧tm=fr 58 [(0,.iM q02 p1),(3,.iM cS r2),(4,.i6 z7)]∧σ=⟨[],0⟩) (fun tm σ=>q5a=some r∧tm=fr 58 []∧σ=⟨[],0⟩) n ⟨0,hF,rfl,rfl⟩ ?_ ?_
 rintro _ _ ⟨hF,rfl,rfl⟩
 unfold q5a at hF
 exact gx hF
 rintro (_|m1) _ _ ⟨z7,hF,rfl,rfl⟩
 cases hF
 unfold q1l at hF
 refine go ?_
 refine RS.q rfl (q0c rfl rfl rfl (q08 q02 und38)) ?_
 refine go ?_
 refine cF hF (fun h8 hF=>?_) (fun h8 hF=>?_)
 refine go ?_
 refine WPU.block ?_
 obtain ⟨x9,h10,hF⟩:=q00 hF
 refine go ?_
 refine RS.q rfl (q0f rfl rfl (q0a q02 und38 (q03 inf127) q0m h10 rfl)) (RS.q rfl (q1o und127 rfl (q03 inf125) rfl rfl) (RS.q rfl (q0d und125 rfl rfl rfl) ?_))
 refine go ?_
 refine gS (l':=[(0,_),(3,_),(4,_),(5,_),(6,_)]) ?_
 refine z4g (fun m tm σ=>∃ z16:Int,q2e n r2 z7 (q1l p1 n r2 m1) x9 m z16=some r∧tm=fr 58 [(0,.iM q02 p1),(3,.iM cS r2),(4,.i6 z7),(5,.iM q0e x9.Feats),(6,.i6 z16)]∧σ=⟨[],0⟩) (fun tm σ=>q5b z7 (q1l p1 n r2 m1)=some r∧tm=fr 58 [(0,.iM q02 p1),(3,.iM cS r2),(4,.i6 z7)]∧σ=⟨[],0⟩) n ⟨0,hF,rfl,rfl⟩ ?_ ?_
 rintro _ _ ⟨hF,rfl,rfl⟩
 unfold q5b at hF
 refine go ?_
 exact lC ⟨_,hF,rfl,rfl⟩
 rintro (_|m2) _ _ ⟨z16,hF,rfl,rfl⟩
 cases hF
 unfold q2e at hF
 refine go ?_
 refine RS.q rfl (q0c rfl rfl rfl (q08 q0e und125)) ?_
 refine go ?_
 refine cF hF (fun h17 hF=>?_) (fun h17 hF=>?_)
 refine go ?_
 refine WPU.block ?_
 obtain ⟨x18,h19,hF⟩:=q00 hF
 obtain ⟨r20,h21,hF⟩:=q00 hF
 refine go ?_
 refine RS.q rfl (q0f rfl rfl (q0a q0e und125 (q03 inf162) q2h h19 rfl)) (RS.q rfl (q1o und162 rfl (q03 inf9) rfl rfl) (RS.q rfl (q0d und9 rfl rfl rfl) (RS.cl rfl (pC (qms n x18.Feat r20 h21) _) fn57 ?_)))
 refine go ?_
 refine cF hF (fun h22 hF=>?_) (fun h22 hF=>?_)
 exact gx hF
 refine go ?_
 refine gS (l':=[(0,_),(3,_),(4,_),(5,_),(6,_),(7,_)]) ?_
 refine z4g (fun m tm σ=>∃ z29:Int,q3t n r2 x9 z16 (q2e n r2 z7 (q1l p1 n r2 m1) x9 m2) m z29=some r∧tm=fr 58 [(0,.iM q02 p1),(3,.iM cS r2),(4,.i6 z7),(5,.iM q0e x9.Feats),(6,.i6 z16),(7,.i6 z29)]∧σ=⟨[],0⟩) (fun tm σ=>q5c n r2 x9 z16 (q2e n r2 z7 (q1l p1 n r2 m1) x9 m2)=some r∧tm=fr 58 [(0,.iM q02 p1),(3,.iM cS r2),(4,.i6 z7),(5,.iM q0e x9.Feats),(6,.i6 z16)]∧σ=⟨[],0⟩) n ⟨0,hF,rfl,rfl⟩ ?_ ?_
 rintro _ _ ⟨hF,rfl,rfl⟩
 unfold q5c at hF
 obtain ⟨x30,h31,hF⟩:=q00 hF
 obtain ⟨r32,h33,hF⟩:=q00 hF
 refine go ?_
 refine RS.q rfl (q0f rfl rfl (q0a q0e und125 (q03 inf162) q2h h31 rfl)) (RS.q rfl (q1o und162 rfl (q03 inf9) rfl rfl) (RS.q rfl (q0d und9 rfl rfl rfl) (RS.cl rfl (pC (q2k n r2 x30.Value r32 h33) _) fn126 ?_)))
 refine go ?_
 refine cF hF (fun h34 hF=>?_) (fun h34 hF=>?_)
 exact gx hF
 refine go ?_
 exact lC ⟨_,hF,rfl,rfl⟩
 rintro (_|m3) _ _ ⟨z29,hF,rfl,rfl⟩
 cases hF
 unfold q3t at hF
 refine go ?_
 refine cF hF (fun h35 hF=>?_) (fun h35 hF=>?_)
 refine go ?_
 refine WPU.block ?_
 obtain ⟨x36,h37,hF⟩:=q00 hF
 obtain ⟨x38,h39,hF⟩:=q00 hF
 refine go ?_
 refine z4i Tryz.tb_ok [] (by kernel_rfl) ?_
 repeat refine RD.mv rfl rfl rfl rfl ?_
 refine RD.q rfl (q0f rfl rfl (q0a q0e und125 (q03 inf162) q2h h37 rfl)) (RD.q rfl (q1o und162 rfl (q03 inf9) rfl rfl) (RD.q rfl (q0d und9 rfl rfl rfl) ?_))
 repeat refine RD.mv rfl rfl rfl rfl ?_
 refine RD.q rfl (q0f rfl rfl (q0a q0e und125 (q03 inf162) q2h h39 rfl)) (RD.q rfl (q1o und162 rfl (q03 inf9) rfl rfl) (RD.q rfl (q0d und9 rfl rfl rfl) (RD.q (u:=.bool (q1x x36.Feat x38.Feat)) rfl (q9m rfl rfl rfl rfl) ?_)))
 refine RD.done ⟨by kernel_rfl,trivial,?_⟩
 refine go ?_
 refine cF hF (fun h40 hF=>?_) (fun h40 hF=>?_)
 exact gx hF
 refine go ?_
 exact lC ⟨_,hF,rfl,rfl⟩
 refine go ?_
 exact xC ⟨hF,rfl,rfl⟩
 refine go ?_
 exact xC ⟨hF,rfl,rfl⟩
 refine go ?_
 exact xC ⟨hF,rfl,rfl⟩
def qce (z6:Int) (rc1:(List (List UInt8))→Int→Option ((List (List UInt8)))) (l15:List (List UInt8)):Option ((List (List UInt8))) :=
 rc1 l15 (IntKind.i64.wrap (z6+1))
def q8p (p1:List q06) (n:Nat) (z6:Int) (rc1:(List (List UInt8))→Int→Option ((List (List UInt8)))):Nat→(List (List UInt8))→Int→Option ((List (List UInt8)))
 | 0,_,_=>none
 | m2+1,l13,z14 =>
  q04 (q15 p1 z6) fun x16 =>
  cond (decide (z14<(x16.Feats.length:Int)))
   (q04 (q15 p1 z6) fun x19 =>
   q04 (q15 x19.Feats z14) fun x21 =>
   q04 (q95 n l13 x21.Feat) fun r23 =>
   (q8p p1 n z6 rc1 m2) r23 (IntKind.i64.wrap (z14+1)))
   (qce z6 rc1 l13)
def qcd  (l7:List (List UInt8)):Option ((List (List UInt8))) :=
 some l7
def q4w (p1:List q06) (n:Nat):Nat→(List (List UInt8))→Int→Option ((List (List UInt8)))
 | 0,_,_=>none
 | m1+1,l5,z6 =>
  cond (decide (z6<(p1.length:Int)))
   (q8p p1 n z6 (q4w p1 n m1) n l5 0)
   (qcd l5)
def qb0 (n:Nat) (p1:List q06):Option ((List (List UInt8))) :=
 q4w p1 n n [] 0
theorem qe9 (n:Nat) (p1:List q06) (r:(List (List UInt8))) (hF:qb0 n p1=some r):EvU Tryz.prog 91 [.isl false (List.map q02 p1)] ⟨[],0⟩ (fun u _=>u = .isl false (List.map cS r)∧Bel 0 u):=by
 unfold qb0 at hF
 refine bg1 34 fn91 ?_
 refine gr ?_
 refine gr ?_
 refine gr ?_
 refine WPU.ghost (tm':=fr 34 [(0,.iM q02 p1),(3,.iM cS []),(4,.i6 0)]) (Gh.trans (Gh.sub (l':=[(0,.iM q02 p1),(3,.nils),(4,.i6 0)]) ⟨rfl,rfl,rfl,trivial⟩) (Gh.wkS (l':=[(0,.iM q02 p1),(3,.iM cS []),(4,.i6 0)]) (.cons (.refl _) (.cons (.nil false) (.cons (.refl _) .nil))))) NZ ?_
 refine gS (l':=[(0,_),(3,_),(4,_)]) ?_
 refine z4g (fun m tm σ=>∃ l5:List (List UInt8),∃ z6:Int,q4w p1 n m l5 z6=some r∧tm=fr 34 [(0,.iM q02 p1),(3,.iM cS l5),(4,.i6 z6)]∧σ=⟨[],0⟩) (fun tm σ=>∃ l7:List (List UInt8),qcd l7=some r∧tm=fr 34 [(3,.iM cS l7)]∧σ=⟨[],0⟩) n ⟨[],0,hF,rfl,rfl⟩ ?_ ?_
 rintro _ _ ⟨l7,hF,rfl,rfl⟩
 unfold qcd at hF
 exact gx hF
 rintro (_|m1) _ _ ⟨l5,z6,hF,rfl,rfl⟩
 cases hF
 unfold q4w at hF
 refine go ?_
 refine RS.q rfl (q0c rfl rfl rfl (q08 q02 und38)) ?_
 refine go ?_
 refine cF hF (fun h8 hF=>?_) (fun h8 hF=>?_)
 refine go ?_
 refine WPU.block ?_
 refine go ?_
 refine gS (l':=[(0,_),(3,_),(4,_),(5,_)]) ?_
 refine z4g (fun m tm σ=>∃ l13:List (List UInt8),∃ z14:Int,q8p p1 n z6 (q4w p1 n m1) m l13 z14=some r∧tm=fr 34 [(0,.iM q02 p1),(3,.iM cS l13),(4,.i6 z6),(5,.i6 z14)]∧σ=⟨[],0⟩) (fun tm σ=>∃ l15:List (List UInt8),qce z6 (q4w p1 n m1) l15=some r∧tm=fr 34 [(0,.iM q02 p1),(3,.iM cS l15),(4,.i6 z6)]∧σ=⟨[],0⟩) n ⟨l5,0,hF,rfl,rfl⟩ ?_ ?_
 rintro _ _ ⟨l15,hF,rfl,rfl⟩
 unfold qce at hF
 refine go ?_
 exact lC ⟨l15,(IntKind.i64.wrap (z6+1)),hF,rfl,rfl⟩
 rintro (_|m2) _ _ ⟨l13,z14,hF,rfl,rfl⟩
 cases hF
 unfold q8p at hF
 obtain ⟨x16,h17,hF⟩:=q00 hF
 refine go ?_
 refine RS.q rfl (q0f rfl rfl (q0a q02 und38 (q03 inf127) q0m h17 rfl)) (RS.q rfl (q1o und127 rfl (q03 inf125) rfl rfl) (RS.q rfl (q0d und125 rfl rfl rfl) (RS.q rfl (q0c rfl rfl rfl (q08 q0e und125)) ?_)))
 refine go ?_
 refine cF hF (fun h18 hF=>?_) (fun h18 hF=>?_)
 refine go ?_
 refine WPU.block ?_
 obtain ⟨x19,h20,hF⟩:=q00 hF
 obtain ⟨x21,h22,hF⟩:=q00 hF
 obtain ⟨r23,h24,hF⟩:=q00 hF
 refine go ?_
 refine RS.q rfl (q0f rfl rfl (q0a q02 und38 (q03 inf127) q0m h20 rfl)) (RS.q rfl (q1o und127 rfl (q03 inf125) rfl rfl) (RS.q rfl (q0d und125 rfl rfl rfl) ?_))
 refine go ?_
 refine RS.q rfl (q0f rfl rfl (q0a q0e und125 (q03 inf162) q2h h22 rfl)) (RS.q rfl (q1o und162 rfl (q03 inf9) rfl rfl) (RS.q rfl (q0d und9 rfl rfl rfl) (RS.cl rfl (pC (q7v n l13 x21.Feat r23 h24) _) fn116 ?_)))
 refine go ?_
 exact lC ⟨r23,(IntKind.i64.wrap (z14+1)),hF,rfl,rfl⟩
 refine go ?_
 exact xC ⟨l13,hF,rfl,rfl⟩
 refine go ?_
 exact xC ⟨l5,hF,rfl,rfl⟩
def q4u (n:Nat) (p1:List q13) (p2:Int) (p3:Int):Option (Bool) :=
 q04 (q15 p1 p3) fun x4 =>
 q04 (q15 p1 p2) fun x6 =>
 q04 (q94 n x4.Code x6.Code) fun r8 =>
 some r8
theorem q4j (n:Nat) (p1:List q13) (p2:Int) (p3:Int) (r:Bool) (hF:q4u n p1 p2 p3=some r):EvU Tryz.prog 100 [.isl false (List.map q0h p1),.int .i64 p2,.int .i64 p3] ⟨[],0⟩ (fun u _=>u = .bool r∧Bel 0 u):=by
 unfold q4u at hF
 refine bg3 18 fn100 ?_
 obtain ⟨x4,h5,hF⟩:=q00 hF
 obtain ⟨x6,h7,hF⟩:=q00 hF
 obtain ⟨r8,h9,hF⟩:=q00 hF
 refine go ?_
 refine z4i Tryz.tb_ok [] (by kernel_rfl) ?_
 repeat refine RD.mv rfl rfl rfl rfl ?_
 refine RD.q rfl (q0f rfl rfl (q0a q0h und99 (q03 inf105) q1z h5 rfl)) (RD.q rfl (q1o und105 rfl (q03 inf103) rfl rfl) (RD.q rfl (q0d und103 rfl rfl rfl) ?_))
 repeat refine RD.mv rfl rfl rfl rfl ?_
 refine RD.q rfl (q0f rfl rfl (q0a q0h und99 (q03 inf105) q1z h7 rfl)) (RD.q rfl (q1o und105 rfl (q03 inf103) rfl rfl) (RD.q rfl (q0d und103 rfl rfl rfl) ?_))
 refine z4w rfl (pC (q8a n x4.Code x6.Code r8 h9)) fn133 ?_
 refine RD.as rfl rfl rfl rfl ?_
 refine RD.done ⟨by kernel_rfl,trivial,?_⟩
 exact gx hF
def qb1   : Option (Int) :=
 some (-1)
def q7e (p1:List q13) (p2:List UInt8):Nat→Int→Option (Int)
 | 0,_=>none
 | m1+1,z6 =>
  cond (decide (z6<(p1.length:Int)))
   (q04 (q15 p1 z6) fun x8 =>
   cond (q1x x8.Name p2)
    (some z6)
    ((q7e p1 p2 m1) (IntKind.i64.wrap (z6+1))))
   (qb1)
def q96 (n:Nat) (p1:List q13) (p2:List UInt8):Option (Int) :=
 q7e p1 p2 n 0
theorem qcg (n:Nat) (p1:List q13) (p2:List UInt8) (r:Int) (hF:q96 n p1 p2=some r):EvU Tryz.prog 102 [.isl false (List.map q0h p1),.str p2] ⟨[],0⟩ (fun u _=>u = .int .i64 r∧Bel 0 u):=by
 unfold q96 at hF
 refine bg2 20 fn102 ?_
 refine go ?_
 refine gS (l':=[(0,_),(1,_),(5,_)]) ?_
 refine z4g (fun m tm σ=>∃ z6:Int,q7e p1 p2 m z6=some r∧tm=fr 20 [(0,.iM q0h p1),(1,.str p2),(5,.i6 z6)]∧σ=⟨[],0⟩) (fun tm σ=>qb1=some r∧tm=fr 20 []∧σ=⟨[],0⟩) n ⟨0,hF,rfl,rfl⟩ ?_ ?_
 rintro _ _ ⟨hF,rfl,rfl⟩
 unfold qb1 at hF
 exact gx hF
 rintro (_|m1) _ _ ⟨z6,hF,rfl,rfl⟩
 cases hF
 unfold q7e at hF
 refine go ?_
 refine RS.q rfl (q0c rfl rfl rfl (q08 q0h und99)) ?_
 refine go ?_
 refine cF hF (fun h7 hF=>?_) (fun h7 hF=>?_)
 refine go ?_
 refine WPU.block ?_
 obtain ⟨x8,h9,hF⟩:=q00 hF
 refine go ?_
 refine RS.q rfl (q0f rfl rfl (q0a q0h und99 (q03 inf105) q1z h9 rfl)) (RS.q rfl (q1o und105 rfl (q03 inf9) rfl rfl) (RS.q rfl (q0d und9 rfl rfl rfl) ?_))
 refine go ?_
 refine RS.q (u:=.bool (q1x x8.Name p2)) rfl (q9m rfl rfl rfl rfl) ?_
 refine go ?_
 refine cF hF (fun h10 hF=>?_) (fun h10 hF=>?_)
 exact gx hF
 refine go ?_
 exact lC ⟨_,hF,rfl,rfl⟩
 refine go ?_
 exact xC ⟨hF,rfl,rfl⟩
def q7d  (b17:Bool) (l18:List Int):Option ((List Int)×Bool) :=
 some (l18,b17)
def q3u (p1:List q06) (p2:List q13) (p3:Int) (p4:List UInt8) (n:Nat):Nat→Bool→(List Int)→Int→Option ((List Int)×Bool)
 | 0,_,_,_=>none
 | m1+1,b14,l15,z16 =>
  cond (decide (z16<(p1.length:Int)))
   (q04 (q15 p1 z16) fun x20 =>
   q04 (qeb n x20 p4) fun r22 =>
   q04 (cond (!r22.2)
    (some true)
    (q04 (q15 p1 z16) fun x25 =>
    q04 (q96 n p2 x25.Name) fun r27 =>
    q04 (q4u n p2 r27 p3) fun r29 =>
    some (!r29))) fun b31 =>
   cond b31
    ((q3u p1 p2 p3 p4 n m1) b14 l15 (IntKind.i64.wrap (z16+1)))
    (q04 (q96 n p2 r22.1) fun r34 =>
    q04 (q15 p2 r34) fun x36 =>
    q04 (qir n l15 x36.Code) fun r38 =>
    (q3u p1 p2 p3 p4 n m1) true r38 (IntKind.i64.wrap (z16+1))))
   (q7d b14 l15)
def q7c (n:Nat) (p1:List q06) (p2:List q13) (p3:Int) (p4:List UInt8):Option ((List Int)×Bool) :=
 q04 (q15 p2 0) fun x5 =>
 q3u p1 p2 p3 p4 n n false x5.Code 0
theorem qcw (n:Nat) (p1:List q06) (p2:List q13) (p3:Int) (p4:List UInt8) (r:(List Int)×Bool) (hF:q7c n p1 p2 p3 p4=some r):EvU Tryz.prog 92 [.isl false (List.map q02 p1),.isl false (List.map q0h p2),.int .i64 p3,.str p4] ⟨[],0⟩ (fun u _=>u = .tup [.isl false (List.map (cI .u64) r.1),.bool r.2]∧Bel 0 u):=by
 unfold q7c at hF
 refine bg4 60 fn92 ?_
 obtain ⟨x5,h6,hF⟩:=q00 hF
 refine go ?_
 refine RS.q rfl (q0f rfl rfl (q0a q0h und99 (q03 inf105) q1z h6 rfl)) (RS.q rfl (q1o und105 rfl (q03 inf103) rfl rfl) (RS.q rfl (q0d und103 rfl rfl rfl) ?_))
 refine go ?_
 refine gS (l':=[(0,_),(1,_),(2,_),(3,_),(10,_),(11,_),(12,_)]) ?_
 refine z4g (fun m tm σ=>∃ b14:Bool,∃ l15:List Int,∃ z16:Int,q3u p1 p2 p3 p4 n m b14 l15 z16=some r∧tm=fr 60 [(0,.iM q02 p1),(1,.iM q0h p2),(2,.i6 p3),(3,.str p4),(10,.bool b14),(11,.iM (cI .u64) l15),(12,.i6 z16)]∧σ=⟨[],0⟩) (fun tm σ=>∃ b17:Bool,∃ l18:List Int,q7d b17 l18=some r∧tm=fr 60 [(10,.bool b17),(11,.iM (cI .u64) l18)]∧σ=⟨[],0⟩) n ⟨false,x5.Code,0,hF,rfl,rfl⟩ ?_ ?_
 rintro _ _ ⟨b17,l18,hF,rfl,rfl⟩
 unfold q7d at hF
 refine go ?_
 obtain rfl:=sI hF
 exact rt2 rfl rfl rfl rfl rfl
 rintro (_|m1) _ _ ⟨b14,l15,z16,hF,rfl,rfl⟩
 cases hF
 unfold q3u at hF
 refine go ?_
 refine RS.q rfl (q0c rfl rfl rfl (q08 q02 und38)) ?_
 refine go ?_
 refine cF hF (fun h19 hF=>?_) (fun h19 hF=>?_)
 refine go ?_
 refine WPU.block ?_
 obtain ⟨x20,h21,hF⟩:=q00 hF
 obtain ⟨r22,h23,hF⟩:=q00 hF
 refine go ?_
 refine RS.q rfl (q0f rfl rfl (q0a q02 und38 (q03 inf127) q0m h21 rfl)) (RS.q (u:=.agg (q02 x20)) rfl (qam und127 rfl (q03 inf127) rfl rfl) ?_)
 refine go ?_
 refine RS.cl rfl (pC (qix n x20 p4 r22 h23) _) fn117 ?_
 obtain ⟨b31,h32,hF⟩:=q00 hF
 refine gn ?_
 refine z4h (fun tm σ=>tm=fr 60 [(0,.iM q02 p1),(1,.iM q0h p2),(2,.i6 p3),(3,.str p4),(10,.bool b14),(11,.iM (cI .u64) l15),(12,.i6 z16),(13,.str r22.1),(48,.bool b31)]∧σ=⟨[],0⟩) ?_ ?_
 rintro _ _ ⟨rfl,rfl⟩
 refine go ?_
 refine cF hF (fun h33 hF=>?_) (fun h33 hF=>?_)
 refine go ?_
 exact lC ⟨b14,l15,(IntKind.i64.wrap (z16+1)),hF,rfl,rfl⟩
 obtain ⟨r34,h35,hF⟩:=q00 hF
 obtain ⟨x36,h37,hF⟩:=q00 hF
 obtain ⟨r38,h39,hF⟩:=q00 hF
 refine go ?_
 refine RS.cl rfl (pC (qcg n p2 r22.1 r34 h35) _) fn102 (RS.q rfl (q0f rfl rfl (q0a q0h und99 (q03 inf105) q1z h37 rfl)) (RS.q rfl (q1o und105 rfl (q03 inf103) rfl rfl) (RS.q rfl (q0d und103 rfl rfl rfl) (RS.cl rfl (pC (qmt n l15 x36.Code r38 h39) _) fn118 ?_))))
 refine go ?_
 exact lC ⟨true,r38,(IntKind.i64.wrap (z16+1)),hF,rfl,rfl⟩
 rcases gB h32 with ⟨h24,h32⟩ | ⟨h24,h32⟩
 exact gy h32
 obtain ⟨x25,h26,h32⟩:=q00 h32
 obtain ⟨r27,h28,h32⟩:=q00 h32
 obtain ⟨r29,h30,h32⟩:=q00 h32
 obtain rfl:=sI h32
 refine go ?_
 refine RS.w rfl (q0f rfl rfl (q0a q02 und38 (q03 inf127) q0m h26 rfl)) (RS.w rfl (q1o und127 rfl (q03 inf9) rfl rfl) (RS.w rfl (q0d und9 rfl rfl rfl) (RS.cl rfl (pC (qcg n p2 x25.Name r27 h28) _) fn102 ?_)))
 refine go ?_
 refine RS.cl rfl (pC (q4j n p2 r27 p3 r29 h30) _) fn100 ?_
 refine go ?_
 exact xC ⟨rfl,rfl⟩
 refine go ?_
 exact xC ⟨b14,l15,hF,rfl,rfl⟩
def qcb (z20:Int) (rc2:Int→Option (Int))  : Option (Int) :=
 rc2 (IntKind.i64.wrap (z20+1))
def q8o (p1:List q06) (n:Nat) (r2:(List q13)×Int) (r5:(List (List UInt8))) (z20:Int) (rc2:Int→Option (Int)):Nat→Int→Option (Int)
 | 0,_=>none
 | m3+1,z27 =>
  cond (decide (z27<(r5.length:Int)))
   (q04 (q15 r5 z27) fun x29 =>
   q04 (q7c n p1 r2.1 z20 x29) fun r31 =>
   q04 (cond r31.2
    (some ((r31.1.length:Int) == 0))
    (some false)) fun b34 =>
   cond b34
    (some 11)
    ((q8o p1 n r2 r5 z20 rc2 m3) (IntKind.i64.wrap (z27+1))))
   (qcb z20 rc2)
def qca   : Option (Int) :=
 some 0
def q4v (p1:List q06) (n:Nat) (r2:(List q13)×Int) (r5:(List (List UInt8))):Nat→Int→Option (Int)
 | 0,_=>none
 | m2+1,z20 =>
  cond (decide (z20<(r2.1.length:Int)))
   (q8o p1 n r2 r5 z20 (q4v p1 n r2 r5 m2) n 0)
   (qca)
def qc9 (p1:List q06) (n:Nat) (r2:(List q13)×Int) (r5:(List (List UInt8)))  : Option (Int) :=
 q4v p1 n r2 r5 n 0
def q8n (p1:List q06) (n:Nat) (r2:(List q13)×Int) (r5:(List (List UInt8))):Nat→Int→Option (Int)
 | 0,_=>none
 | m1+1,z15 =>
  cond (decide (z15<(r5.length:Int)))
   (q04 (q15 r5 z15) fun x38 =>
   q04 (qea n p1 x38) fun r40 =>
   cond (!r40.2)
    (some 10)
    ((q8n p1 n r2 r5 m1) (IntKind.i64.wrap (z15+1))))
   (qc9 p1 n r2 r5)
def qe8 (n:Nat) (p1:List q06):Option (Int) :=
 q04 (q7x n p1) fun r2 =>
 cond (r2.2 != 0)
  (some r2.2)
  (q04 (qb0 n p1) fun r5 =>
  cond (decide ((r5.length:Int) > 64))
   (some 7)
   (q04 (q7b n p1) fun r8 =>
   cond (r8 != 0)
    (some r8)
    (q8n p1 n r2 r5 n 0)))
theorem qiv (n:Nat) (p1:List q06) (r:Int) (hF:qe8 n p1=some r):EvU Tryz.prog 90 [.isl false (List.map q02 p1)] ⟨[],0⟩ (fun u _=>u = .int .i64 r∧Bel 0 u):=by
 unfold qe8 at hF
 refine bg1 78 fn90 ?_
 obtain ⟨r2,h3,hF⟩:=q00 hF
 refine go ?_
 refine RS.cl rfl (pC (qa1 n p1 r2 h3) _) fn72 ?_
 refine go ?_
 refine cF hF (fun h4 hF=>?_) (fun h4 hF=>?_)
 exact gx hF
 obtain ⟨r5,h6,hF⟩:=q00 hF
 refine go ?_
 refine RS.cl rfl (pC (qe9 n p1 r5 h6) _) fn91 ?_
 refine go ?_
 refine RS.q rfl (q0c rfl rfl rfl (q08 cS und80)) ?_
 refine go ?_
 refine cF hF (fun h7 hF=>?_) (fun h7 hF=>?_)
 exact gx hF
 obtain ⟨r8,h9,hF⟩:=q00 hF
 refine go ?_
 refine RS.cl rfl (pC (qgh n p1 r8 h9) _) fn115 ?_
 refine go ?_
 refine cF hF (fun h10 hF=>?_) (fun h10 hF=>?_)
 exact gx hF
 refine go ?_
 refine gS (l':=[(0,_),(3,_),(5,_),(7,_)]) ?_
 refine z4g (fun m tm σ=>∃ z15:Int,q8n p1 n r2 r5 m z15=some r∧tm=fr 78 [(0,.iM q02 p1),(3,.iM q0h r2.1),(5,.iM cS r5),(7,.i6 z15)]∧σ=⟨[],0⟩) (fun tm σ=>qc9 p1 n r2 r5=some r∧tm=fr 78 [(0,.iM q02 p1),(3,.iM q0h r2.1),(5,.iM cS r5)]∧σ=⟨[],0⟩) n ⟨0,hF,rfl,rfl⟩ ?_ ?_
 rintro _ _ ⟨hF,rfl,rfl⟩
 unfold qc9 at hF
 refine go ?_
 refine gS (l':=[(0,_),(3,_),(5,_),(10,_)]) ?_
 refine z4g (fun m tm σ=>∃ z20:Int,q4v p1 n r2 r5 m z20=some r∧tm=fr 78 [(0,.iM q02 p1),(3,.iM q0h r2.1),(5,.iM cS r5),(10,.i6 z20)]∧σ=⟨[],0⟩) (fun tm σ=>qca=some r∧tm=fr 78 []∧σ=⟨[],0⟩) n ⟨0,hF,rfl,rfl⟩ ?_ ?_
 rintro _ _ ⟨hF,rfl,rfl⟩
 unfold qca at hF
 exact gx hF
 rintro (_|m2) _ _ ⟨z20,hF,rfl,rfl⟩
 cases hF
 unfold q4v at hF
 refine go ?_
 refine RS.q rfl (q0c rfl rfl rfl (q08 q0h und99)) ?_
 refine go ?_
 refine cF hF (fun h21 hF=>?_) (fun h21 hF=>?_)
 refine go ?_
 refine WPU.block ?_
 refine go ?_
 refine gS (l':=[(0,_),(3,_),(5,_),(10,_),(11,_)]) ?_
 refine z4g (fun m tm σ=>∃ z27:Int,q8o p1 n r2 r5 z20 (q4v p1 n r2 r5 m2) m z27=some r∧tm=fr 78 [(0,.iM q02 p1),(3,.iM q0h r2.1),(5,.iM cS r5),(10,.i6 z20),(11,.i6 z27)]∧σ=⟨[],0⟩) (fun tm σ=>qcb z20 (q4v p1 n r2 r5 m2)=some r∧tm=fr 78 [(0,.iM q02 p1),(3,.iM q0h r2.1),(5,.iM cS r5),(10,.i6 z20)]∧σ=⟨[],0⟩) n ⟨0,hF,rfl,rfl⟩ ?_ ?_
 rintro _ _ ⟨hF,rfl,rfl⟩
 unfold qcb at hF
 refine go ?_
 exact lC ⟨_,hF,rfl,rfl⟩
 rintro (_|m3) _ _ ⟨z27,hF,rfl,rfl⟩
 cases hF
 unfold q8o at hF
 refine go ?_
 refine RS.q rfl (q0c rfl rfl rfl (q08 cS und80)) ?_
 refine go ?_
 refine cF hF (fun h28 hF=>?_) (fun h28 hF=>?_)
 refine go ?_
 refine WPU.block ?_
 obtain ⟨x29,h30,hF⟩:=q00 hF
 obtain ⟨r31,h32,hF⟩:=q00 hF
 refine go ?_
 refine RS.q rfl (q0f rfl rfl (q0a cS und80 (q03 inf9) q1s h30 rfl)) (RS.q rfl (q0d und9 rfl rfl rfl) (RS.cl rfl (pC (qcw n p1 r2.1 z20 x29 r31 h32) _) fn92 ?_))
 obtain ⟨b34,h35,hF⟩:=q00 hF
 refine gn ?_
 refine z4h (fun tm σ=>tm=fr 78 [(0,.iM q02 p1),(3,.iM q0h r2.1),(5,.iM cS r5),(10,.i6 z20),(11,.i6 z27),(77,.bool b34)]∧σ=⟨[],0⟩) ?_ ?_
 rintro _ _ ⟨rfl,rfl⟩
 refine go ?_
 refine cF hF (fun h36 hF=>?_) (fun h36 hF=>?_)
 exact gx hF
 refine go ?_
 exact lC ⟨_,hF,rfl,rfl⟩
 rcases gB h35 with ⟨h33,h35⟩ | ⟨h33,h35⟩
 obtain rfl:=sI h35
 refine go ?_
 refine RS.w rfl (q0c rfl rfl rfl (q08 (cI .u64) und103)) ?_
 refine go ?_
 exact xC ⟨rfl,rfl⟩
 exact gy h35
 refine go ?_
 exact xC ⟨hF,rfl,rfl⟩
 refine go ?_
 exact xC ⟨hF,rfl,rfl⟩
 rintro (_|m1) _ _ ⟨z15,hF,rfl,rfl⟩
 cases hF
 unfold q8n at hF
 refine go ?_
 refine RS.q rfl (q0c rfl rfl rfl (q08 cS und80)) ?_
 refine go ?_
 refine cF hF (fun h37 hF=>?_) (fun h37 hF=>?_)
 refine go ?_
 refine WPU.block ?_
 obtain ⟨x38,h39,hF⟩:=q00 hF
 obtain ⟨r40,h41,hF⟩:=q00 hF
 refine go ?_
 refine RS.q rfl (q0f rfl rfl (q0a cS und80 (q03 inf9) q1s h39 rfl)) (RS.q rfl (q0d und9 rfl rfl rfl) (RS.cl rfl (pC (qiw n p1 x38 r40 h41) _) fn101 ?_))
 refine go ?_
 refine cF hF (fun h42 hF=>?_) (fun h42 hF=>?_)
 exact gx hF
 refine go ?_
 exact lC ⟨_,hF,rfl,rfl⟩
 refine go ?_
 exact xC ⟨hF,rfl,rfl⟩
def qe3   : Option (Int) :=
 some (-1)
def qa2 (p1:List q13) (n:Nat) (r3:(List Int)):Nat→Int→Option (Int)
 | 0,_=>none
 | m1+1,z8 =>
  cond (decide (z8<(p1.length:Int)))
   (q04 (q15 p1 z8) fun x10 =>
   q04 (qg1 n x10.Code r3) fun r12 =>
   cond r12
    (some z8)
    ((qa2 p1 n r3 m1) (IntKind.i64.wrap (z8+1))))
   (qe3)
def qk0 (n:Nat) (p1:List q13) (p2:List Int):Option (Int) :=
 q04 (q6r n p2) fun r3 =>
 qa2 p1 n r3 n 0
theorem qrc (n:Nat) (p1:List q13) (p2:List Int) (r:Int) (hF:qk0 n p1 p2=some r):EvU Tryz.prog 93 [.isl false (List.map q0h p1),.isl false (List.map (cI .u64) p2)] ⟨[],0⟩ (fun u _=>u = .int .i64 r∧Bel 0 u):=by
 unfold qk0 at hF
 refine bg2 23 fn93 ?_
 obtain ⟨r3,h4,hF⟩:=q00 hF
 refine go ?_
 refine RS.cl rfl (pC (q88 n p2 r3 h4) _) fn119 ?_
 refine go ?_
 refine gS (l':=[(0,_),(5,_),(6,_)]) ?_
 refine z4g (fun m tm σ=>∃ z8:Int,qa2 p1 n r3 m z8=some r∧tm=fr 23 [(0,.iM q0h p1),(5,.iM (cI .u64) r3),(6,.i6 z8)]∧σ=⟨[],0⟩) (fun tm σ=>qe3=some r∧tm=fr 23 []∧σ=⟨[],0⟩) n ⟨0,hF,rfl,rfl⟩ ?_ ?_
 rintro _ _ ⟨hF,rfl,rfl⟩
 unfold qe3 at hF
 exact gx hF
 rintro (_|m1) _ _ ⟨z8,hF,rfl,rfl⟩
 cases hF
 unfold qa2 at hF
 refine go ?_
 refine RS.q rfl (q0c rfl rfl rfl (q08 q0h und99)) ?_
 refine go ?_
 refine cF hF (fun h9 hF=>?_) (fun h9 hF=>?_)
 refine go ?_
 refine WPU.block ?_
 obtain ⟨x10,h11,hF⟩:=q00 hF
 obtain ⟨r12,h13,hF⟩:=q00 hF
 refine go ?_
 refine RS.q rfl (q0f rfl rfl (q0a q0h und99 (q03 inf105) q1z h11 rfl)) (RS.q rfl (q1o und105 rfl (q03 inf103) rfl rfl) (RS.q rfl (q0d und103 rfl rfl rfl) ?_))
 refine go ?_
 refine RS.cl rfl (pC (qkn n x10.Code r3 r12 h13) _) fn120 ?_
 refine go ?_
 refine cF hF (fun h14 hF=>?_) (fun h14 hF=>?_)
 exact gx hF
 refine go ?_
 exact lC ⟨_,hF,rfl,rfl⟩
 refine go ?_
 exact xC ⟨hF,rfl,rfl⟩
def q7a (z30:Int) (rc2:Int→(List q1c)→Option ((List (List q1c))×Int)) (l42:List q1c):Option ((List (List q1c))×Int) :=
 rc2 (IntKind.i64.wrap (z30+1)) l42
def qaz (z15:Int) (l16:List (List q1c)) (rc1:Int→(List (List q1c))→Option ((List (List q1c))×Int)) (l33:List q1c):Option ((List (List q1c))×Int) :=
 q1i ((l16.length+1)*24≤140737488355328∧l16.length+1≤140737488355328) (
 rc1 (IntKind.i64.wrap (z15+1)) (l16++[l33]))
def q48 (p1:List q06) (n:Nat) (r5:(List q13)×Int) (r7:(List (List UInt8))) (z15:Int) (l16:List (List q1c)) (rc1:Int→(List (List q1c))→Option ((List (List q1c))×Int)):Nat→Int→(List q1c)→Option ((List (List q1c))×Int)
 | 0,_,_=>none
 | m2+1,z30,l31 =>
  cond (decide (z30<(r7.length:Int)))
   (q04 (q15 r7 z30) fun x37 =>
   q04 (q7c n p1 r5.1 z15 x37) fun r39 =>
   cond r39.2
    (q04 (qk0 n r5.1 r39.1) fun r44 =>
    q1i ((l31.length+1)*16≤140737488355328∧l31.length+1≤140737488355328) (
    q7a z30 (q48 p1 n r5 r7 z15 l16 rc1 m2) (l31++[(q1c.mk z30 r44)])))
    (q7a z30 (q48 p1 n r5 r7 z15 l16 rc1 m2) l31))
   (qaz z15 l16 rc1 l31)
def qay  (l18:List (List q1c)):Option ((List (List q1c))×Int) :=
 some (l18,0)
def q3f (p1:List q06) (n:Nat) (r5:(List q13)×Int) (r7:(List (List UInt8))):Nat→Int→(List (List q1c))→Option ((List (List q1c))×Int)
 | 0,_,_=>none
 | m1+1,z15,l16 =>
  cond (decide (z15<(r5.1.length:Int)))
   (q48 p1 n r5 r7 z15 l16 (q3f p1 n r5 r7 m1) n 0 ([]:List q1c))
   (qay l16)
def qfj (n:Nat) (p1:List q06):Option ((List (List q1c))×Int) :=
 q04 (qe8 n p1) fun r2 =>
 cond (r2 != 0)
  (some ([],r2))
  (q04 (q7x n p1) fun r5 =>
  q04 (qb0 n p1) fun r7 =>
  q3f p1 n r5 r7 n 0 ([]:List (List q1c)))
theorem qnt (n:Nat) (p1:List q06) (r:(List (List q1c))×Int) (hF:qfj n p1=some r):EvU Tryz.prog 71 [.isl false (List.map q02 p1)] ⟨[],0⟩ (fun u _=>u = .tup [.isl false (List.map (cL q0y) r.1),.int .i64 r.2]∧Bel 0 u):=by
 unfold qfj at hF
 refine bg1 63 fn71 ?_
 obtain ⟨r2,h3,hF⟩:=q00 hF
 refine go ?_
 refine RS.cl rfl (pC (qiv n p1 r2 h3) _) fn90 ?_
 refine go ?_
 refine cF hF (fun h4 hF=>?_) (fun h4 hF=>?_)
 refine go ?_
 obtain rfl:=sI hF
 exact rT (us:=[.nils,.i6 r2]) (u:=.tup [.isl false [],.i6 r2]) (q2o rfl (q2o rfl (q2g))) wR
 obtain ⟨r5,h6,hF⟩:=q00 hF
 refine go ?_
 refine RS.cl rfl (pC (qa1 n p1 r5 h6) _) fn72 ?_
 obtain ⟨r7,h8,hF⟩:=q00 hF
 refine go ?_
 refine RS.cl rfl (pC (qe9 n p1 r7 h8) _) fn91 ?_
 refine gr ?_
 refine gr ?_
 refine WPU.ghost (tm':=fr 63 [(0,.iM q02 p1),(5,.iM q0h r5.1),(7,.iM cS r7),(8,.vl 0 0 0 (([]:List (List q1c)).length)),(9,.i6 0)]) (σ':=⟨[(0,.vec (List.map (cL q0y) ([]:List (List q1c))).flatten 107 1 0)],1⟩) (Gh.trans (z4n 8 107 1 (by decide) NZ rfl rfl) (z4l ⟨rfl,rfl,rfl,rfl,rfl,trivial⟩ rfl)) NZ ?_
 refine gS (l':=[(0,_),(5,_),(7,_),(8,_),(9,_)]) ?_
 refine z4g (fun m tm σ=>∃ z15:Int,∃ l16:List (List q1c),∃ t17:Nat,q3f p1 n r5 r7 m z15 l16=some r∧tm=fr 63 [(0,.iM q02 p1),(5,.iM q0h r5.1),(7,.iM cS r7),(8,.vl 0 t17 0 l16.length),(9,.i6 z15)]∧σ=⟨[(0,.vec (List.map (cL q0y) l16).flatten 107 1 t17)],1⟩) (fun tm σ=>∃ l18:List (List q1c),∃ t19:Nat,qay l18=some r∧tm=fr 63 [(8,.vl 0 t19 0 l18.length)]∧σ=⟨[(0,.vec (List.map (cL q0y) l18).flatten 107 1 t19)],1⟩) n ⟨0,([]:List (List q1c)),0,hF,rfl,rfl⟩ ?_ ?_
 rintro _ _ ⟨l18,t19,hF,rfl,rfl⟩
 unfold qay at hF
 refine go ?_
 obtain rfl:=sI hF
 exact rT (us:=[.vl 0 t19 0 l18.length,.i6 0]) (u:=.tup [.iM (cL q0y) l18,.i6 0]) (q2o rfl (q2o rfl (q2g))) (fR 0 1)
 rintro (_|m1) _ _ ⟨z15,l16,t17,hF,rfl,rfl⟩
 cases hF
 unfold q3f at hF
 refine go ?_
 refine RS.q rfl (q0c rfl rfl rfl (q08 q0h und99)) ?_
 refine go ?_
 refine cF hF (fun h20 hF=>?_) (fun h20 hF=>?_)
 refine go ?_
 refine WPU.block ?_
 refine gr ?_
 refine gr ?_
 refine WPU.ghost (tm':=fr 63 [(0,.iM q02 p1),(5,.iM q0h r5.1),(7,.iM cS r7),(8,.vl 0 t17 0 l16.length),(9,.i6 z15),(10,.vl 1 0 0 (([]:List q1c).length)),(11,.i6 0)]) (σ':=⟨[(1,.vec (List.map q0y ([]:List q1c)).flatten 147 2 0),(0,.vec (List.map (cL q0y) l16).flatten 107 1 t17)],2⟩) (Gh.trans (z4n 10 147 2 (by decide) NZ rfl rfl) (z4l ⟨rfl,rfl,rfl,rfl,rfl,rfl,rfl,trivial⟩ rfl)) NZ ?_
 refine gS (l':=[(0,_),(5,_),(7,_),(8,_),(9,_),(10,_),(11,_)]) ?_
 refine z4g (fun m tm σ=>∃ z30:Int,∃ l31:List q1c,∃ t32:Nat,q48 p1 n r5 r7 z15 l16 (q3f p1 n r5 r7 m1) m z30 l31=some r∧tm=fr 63 [(0,.iM q02 p1),(5,.iM q0h r5.1),(7,.iM cS r7),(8,.vl 0 t17 0 l16.length),(9,.i6 z15),(10,.vl 1 t32 0 l31.length),(11,.i6 z30)]∧σ=⟨[(1,.vec (List.map q0y l31).flatten 147 2 t32),(0,.vec (List.map (cL q0y) l16).flatten 107 1 t17)],2⟩) (fun tm σ=>∃ l33:List q1c,∃ t34:Nat,qaz z15 l16 (q3f p1 n r5 r7 m1) l33=some r∧tm=fr 63 [(0,.iM q02 p1),(5,.iM q0h r5.1),(7,.iM cS r7),(8,.vl 0 t17 0 l16.length),(9,.i6 z15),(10,.vl 1 t34 0 l33.length)]∧σ=⟨[(1,.vec (List.map q0y l33).flatten 147 2 t34),(0,.vec (List.map (cL q0y) l16).flatten 107 1 t17)],2⟩) n ⟨0,([]:List q1c),0,hF,rfl,rfl⟩ ?_ ?_
 rintro _ _ ⟨l33,t34,hF,rfl,rfl⟩
 unfold qaz at hF
 refine gn ?_
 refine WPU.ghost (tm':=fr 63 [(0,.iM q02 p1),(5,.iM q0h r5.1),(7,.iM cS r7),(8,.vl 0 t17 0 l16.length),(9,.i6 z15),(10,.iM q0y l33)]) (σ':=⟨[(0,.vec (List.map (cL q0y) l16).flatten 107 1 t17)],2⟩) (Gh.trans (Gh.sub (l':=[(0,.iM q02 p1),(5,.iM q0h r5.1),(7,.iM cS r7),(8,.vl 0 t17 0 l16.length),(9,.i6 z15),(10,.vl 1 t34 0 l33.length)]) ⟨rfl,rfl,rfl,rfl,rfl,rfl,trivial⟩) (z4z 1 2)) NZ ?_
 obtain ⟨h35,hF⟩:=q0b hF
 refine go ?_
 refine RS.q (u:=.sl 2 0 1 1) (σ':=⟨[(2,.row [.iM q0y l33] 107),(0,.vec (List.map (cL q0y) l16).flatten 107 1 t17)],3⟩) rfl (q0j und96 inf107 rfl rfl rfl rfl rfl rfl rfl) (RS.q (u:=.vl 0 (t17+1) 0 ((l16++[l33]).length)) (σ':=⟨[(2,.row [.iM q0y l33] 107),(0,.vec (List.map (cL q0y) (l16++[l33])).flatten 107 1 (t17+1))],3⟩) rfl (q1u rfl rfl rfl rfl (q2a (cL q0y) ([l33]) und96 und96 inf107 rfl (q4h q0y) rfl (q1q (cL q0y) [l33] rfl rfl rfl rfl) h35)) ?_)
 refine go ?_
 exact lC ⟨_,(l16++[l33]),(t17+1),hF,rfl,rfl⟩
 rintro (_|m2) _ _ ⟨z30,l31,t32,hF,rfl,rfl⟩
 cases hF
 unfold q48 at hF
 refine go ?_
 refine RS.q rfl (q0c rfl rfl rfl (q08 cS und80)) ?_
 refine go ?_
 refine cF hF (fun h36 hF=>?_) (fun h36 hF=>?_)
 refine go ?_
 refine WPU.block ?_
 obtain ⟨x37,h38,hF⟩:=q00 hF
 obtain ⟨r39,h40,hF⟩:=q00 hF
 refine go ?_
 refine RS.q rfl (q0f rfl rfl (q0a cS und80 (q03 inf9) q1s h38 rfl)) (RS.q rfl (q0d und9 rfl rfl rfl) (RS.cl rfl (pC (qcw n p1 r5.1 z15 x37 r39 h40) _) fn92 ?_))
 refine gr ?_
 refine z4h (fun tm σ=>∃ l42:List q1c,∃ t43:Nat,q7a z30 (q48 p1 n r5 r7 z15 l16 (q3f p1 n r5 r7 m1) m2) l42=some r∧tm=fr 63 [(0,.iM q02 p1),(5,.iM q0h r5.1),(7,.iM cS r7),(8,.vl 0 t17 0 l16.length),(9,.i6 z15),(10,.vl 1 t43 0 l42.length),(11,.i6 z30)]∧σ=⟨[(1,.vec (List.map q0y l42).flatten 147 2 t43),(0,.vec (List.map (cL q0y) l16).flatten 107 1 t17)],2⟩) ?_ ?_
 rintro _ _ ⟨l42,t43,hF,rfl,rfl⟩
 unfold q7a at hF
 refine go ?_
 exact lC ⟨_,l42,t43,hF,rfl,rfl⟩
 refine cF hF (fun h41 hF=>?_) (fun h41 hF=>?_)
 obtain ⟨r44,h45,hF⟩:=q00 hF
 obtain ⟨h46,hF⟩:=q0b hF
 refine go ?_
 refine RS.cl rfl (pC (qrc n r5.1 r39.1 r44 h45) _) fn93 (RS.q (u:=.agg [.i6 z30,.i6 r44]) rfl (q3l bd147 rfl rfl rfl) (RS.q (u:=.sl 2 0 1 1) (σ':=⟨[(2,.row [.i6 z30,.i6 r44] 147),(1,.vec (List.map q0y l31).flatten 147 2 t32),(0,.vec (List.map (cL q0y) l16).flatten 107 1 t17)],3⟩) rfl (q0j und107 inf147 rfl rfl rfl rfl rfl rfl rfl) (RS.q (u:=.vl 1 (t32+1) 0 ((l31++[(q1c.mk z30 r44)]).length)) (σ':=⟨[(2,.row [.i6 z30,.i6 r44] 147),(1,.vec (List.map q0y (l31++[(q1c.mk z30 r44)])).flatten 147 2 (t32+1)),(0,.vec (List.map (cL q0y) l16).flatten 107 1 t17)],3⟩) rfl (q1u rfl rfl rfl rfl (q2a q0y ([(q1c.mk z30 r44)]) und107 und107 inf147 rfl qkk rfl (q1q q0y [(q1c.mk z30 r44)] rfl rfl rfl rfl) h46)) ?_)))
 refine go ?_
 exact xC ⟨(l31++[(q1c.mk z30 r44)]),(t32+1),hF,rfl,rfl⟩
 refine go ?_
 exact xC ⟨l31,t32,hF,rfl,rfl⟩
 refine go ?_
 exact xC ⟨l31,t32,hF,rfl,rfl⟩
 refine go ?_
 exact xC ⟨l16,t17,hF,rfl,rfl⟩
def q77 (z8:Int) (rc1:Int→(List Int)→Option ((List Int))) (l31:List Int):Option ((List Int)) :=
 rc1 (IntKind.i64.wrap (z8+1)) l31
def qav (z8:Int) (l9:List Int) (rc1:Int→(List Int)→Option ((List Int))) (b29:Bool):Option ((List Int)) :=
 cond b29
  (q1i ((l9.length+1)*8≤140737488355328∧l9.length+1≤140737488355328) (
  q77 z8 rc1 (l9++[z8])))
  (q77 z8 rc1 l9)
def q78 (p1:List q13) (p2:Int) (n:Nat) (z8:Int) (l9:List Int) (rc1:Int→(List Int)→Option ((List Int))):Nat→Bool→Int→Option ((List Int))
 | 0,_,_=>none
 | m2+1,b27,z28 =>
  cond (decide (z28<(p1.length:Int)))
   (q04 (cond b27
    (cond (z28 == p2)
     (some true)
     (cond (z28 == z8)
      (some true)
      (q04 (q4u n p1 z8 z28) fun r38 =>
      cond (!r38)
       (some true)
       (q04 (q4u n p1 z28 p2) fun r41 =>
       some (!r41)))))
    (some false)) fun b43 =>
   (q78 p1 p2 n z8 l9 rc1 m2) b43 (IntKind.i64.wrap (z28+1)))
   (qav z8 l9 rc1 b27)
def qau  (l11:List Int):Option ((List Int)) :=
 some l11
def q2y (p1:List q13) (p2:Int) (n:Nat):Nat→Int→(List Int)→Option ((List Int))
 | 0,_,_=>none
 | m1+1,z8,l9 =>
  cond (decide (z8<(p1.length:Int)))
   (q04 (cond (z8 == p2)
    (some true)
    (q04 (q4u n p1 z8 p2) fun r15 =>
    some (!r15))) fun b17 =>
   cond b17
    ((q2y p1 p2 n m1) (IntKind.i64.wrap (z8+1)) l9)
    (q78 p1 p2 n z8 l9 (q2y p1 p2 n m1) n true 0))
   (qau l9)
def qfg (n:Nat) (p1:List q13) (p2:Int):Option ((List Int)) :=
 q2y p1 p2 n n 0 ([]:List Int)
theorem qnq (n:Nat) (p1:List q13) (p2:Int) (r:(List Int)) (hF:qfg n p1 p2=some r):EvU Tryz.prog 73 [.isl false (List.map q0h p1),.int .i64 p2] ⟨[],0⟩ (fun u _=>u = .isl false (List.map (cI .i64) r)∧Bel 0 u):=by
 unfold qfg at hF
 refine bg2 62 fn73 ?_
 refine gr ?_
 refine gr ?_
 refine gr ?_
 refine WPU.ghost (tm':=fr 62 [(0,.iM q0h p1),(1,.i6 p2),(5,.vl 0 0 0 (([]:List Int).length)),(6,.i6 0)]) (σ':=⟨[(0,.vec (List.map (cI .i64) ([]:List Int)).flatten 3 1 0)],1⟩) (Gh.trans (z4n 5 3 1 (by decide) NZ rfl rfl) (z4l ⟨rfl,rfl,rfl,rfl,trivial⟩ rfl)) NZ ?_
 refine gS (l':=[(0,_),(1,_),(5,_),(6,_)]) ?_
 refine z4g (fun m tm σ=>∃ z8:Int,∃ l9:List Int,∃ t10:Nat,q2y p1 p2 n m z8 l9=some r∧tm=fr 62 [(0,.iM q0h p1),(1,.i6 p2),(5,.vl 0 t10 0 l9.length),(6,.i6 z8)]∧σ=⟨[(0,.vec (List.map (cI .i64) l9).flatten 3 1 t10)],1⟩) (fun tm σ=>∃ l11:List Int,∃ t12:Nat,qau l11=some r∧tm=fr 62 [(5,.vl 0 t12 0 l11.length)]∧σ=⟨[(0,.vec (List.map (cI .i64) l11).flatten 3 1 t12)],1⟩) n ⟨0,([]:List Int),0,hF,rfl,rfl⟩ ?_ ?_
 rintro _ _ ⟨l11,t12,hF,rfl,rfl⟩
 unfold qau at hF
 refine go ?_
 obtain rfl:=sI hF
 exact rT (us:=[.vl 0 t12 0 l11.length]) (u:=.iM (cI .i64) l11) (q2o rfl (q2g)) (fR 0 1)
 rintro (_|m1) _ _ ⟨z8,l9,t10,hF,rfl,rfl⟩
 cases hF
 unfold q2y at hF
 refine go ?_
 refine RS.q rfl (q0c rfl rfl rfl (q08 q0h und99)) ?_
 refine go ?_
 refine cF hF (fun h13 hF=>?_) (fun h13 hF=>?_)
 refine go ?_
 refine WPU.block ?_
 obtain ⟨b17,h18,hF⟩:=q00 hF
 refine gn ?_
 refine z4h (fun tm σ=>tm=fr 62 [(0,.iM q0h p1),(1,.i6 p2),(5,.vl 0 t10 0 l9.length),(6,.i6 z8),(24,.bool b17)]∧σ=⟨[(0,.vec (List.map (cI .i64) l9).flatten 3 1 t10)],1⟩) ?_ ?_
 rintro _ _ ⟨rfl,rfl⟩
 refine go ?_
 refine cF hF (fun h19 hF=>?_) (fun h19 hF=>?_)
 refine go ?_
 exact lC ⟨_,l9,t10,hF,rfl,rfl⟩
 refine go ?_
 refine gS (l':=[(0,_),(1,_),(5,_),(6,_),(7,_),(8,_)]) ?_
 refine z4g (fun m tm σ=>∃ b27:Bool,∃ z28:Int,q78 p1 p2 n z8 l9 (q2y p1 p2 n m1) m b27 z28=some r∧tm=fr 62 [(0,.iM q0h p1),(1,.i6 p2),(5,.vl 0 t10 0 l9.length),(6,.i6 z8),(7,.bool b27),(8,.i6 z28)]∧σ=⟨[(0,.vec (List.map (cI .i64) l9).flatten 3 1 t10)],1⟩) (fun tm σ=>∃ b29:Bool,qav z8 l9 (q2y p1 p2 n m1) b29=some r∧tm=fr 62 [(0,.iM q0h p1),(1,.i6 p2),(5,.vl 0 t10 0 l9.length),(6,.i6 z8),(7,.bool b29)]∧σ=⟨[(0,.vec (List.map (cI .i64) l9).flatten 3 1 t10)],1⟩) n ⟨true,0,hF,rfl,rfl⟩ ?_ ?_
 rintro _ _ ⟨b29,hF,rfl,rfl⟩
 unfold qav at hF
 refine gr ?_
 refine z4h (fun tm σ=>∃ l31:List Int,∃ t32:Nat,q77 z8 (q2y p1 p2 n m1) l31=some r∧tm=fr 62 [(0,.iM q0h p1),(1,.i6 p2),(5,.vl 0 t32 0 l31.length),(6,.i6 z8)]∧σ=⟨[(0,.vec (List.map (cI .i64) l31).flatten 3 1 t32)],1⟩) ?_ ?_
 rintro _ _ ⟨l31,t32,hF,rfl,rfl⟩
 unfold q77 at hF
 refine go ?_
 exact lC ⟨_,l31,t32,hF,rfl,rfl⟩
 refine cF hF (fun h30 hF=>?_) (fun h30 hF=>?_)
 obtain ⟨h33,hF⟩:=q0b hF
 refine go ?_
 refine RS.q (u:=.sl 1 0 1 1) (σ':=⟨[(1,.row [.i6 z8] 3),(0,.vec (List.map (cI .i64) l9).flatten 3 1 t10)],2⟩) rfl (q0j und33 inf3 rfl rfl rfl rfl rfl rfl rfl) (RS.q (u:=.vl 0 (t10+1) 0 ((l9++[z8]).length)) (σ':=⟨[(1,.row [.i6 z8] 3),(0,.vec (List.map (cI .i64) (l9++[z8])).flatten 3 1 (t10+1))],2⟩) rfl (q1u rfl rfl rfl rfl (q2a (cI .i64) ([z8]) und33 und33 inf3 rfl (q18 .i64) rfl (q1q (cI .i64) [z8] rfl rfl rfl rfl) h33)) ?_)
 refine go ?_
 exact xC ⟨(l9++[z8]),(t10+1),hF,rfl,rfl⟩
 refine go ?_
 exact xC ⟨l9,t10,hF,rfl,rfl⟩
 rintro (_|m2) _ _ ⟨b27,z28,hF,rfl,rfl⟩
 cases hF
 unfold q78 at hF
 refine go ?_
 refine RS.q rfl (q0c rfl rfl rfl (q08 q0h und99)) ?_
 refine go ?_
 refine cF hF (fun h34 hF=>?_) (fun h34 hF=>?_)
 refine go ?_
 refine WPU.block ?_
 obtain ⟨b43,h44,hF⟩:=q00 hF
 refine gn ?_
 refine z4h (fun tm σ=>tm=fr 62 [(0,.iM q0h p1),(1,.i6 p2),(5,.vl 0 t10 0 l9.length),(6,.i6 z8),(7,.bool b43),(8,.i6 z28)]∧σ=⟨[(0,.vec (List.map (cI .i64) l9).flatten 3 1 t10)],1⟩) ?_ ?_
 rintro _ _ ⟨rfl,rfl⟩
 refine go ?_
 exact lC ⟨b43,(IntKind.i64.wrap (z28+1)),hF,rfl,rfl⟩
 rcases gB h44 with ⟨h35,h44⟩ | ⟨h35,h44⟩
 rcases gB h44 with ⟨h36,h44⟩ | ⟨h36,h44⟩
 exact gy h44
 rcases gB h44 with ⟨h37,h44⟩ | ⟨h37,h44⟩
 exact gy h44
 obtain ⟨r38,h39,h44⟩:=q00 h44
 rcases gB h44 with ⟨h40,h44⟩ | ⟨h40,h44⟩
 obtain rfl:=sI h44
 refine go ?_
 refine RS.cl rfl (pC (q4j n p1 z8 z28 r38 h39) _) fn100 ?_
 refine go ?_
 exact xC ⟨rfl,rfl⟩
 obtain ⟨r41,h42,h44⟩:=q00 h44
 obtain rfl:=sI h44
 refine go ?_
 refine RS.cl rfl (pC (q4j n p1 z8 z28 r38 h39) _) fn100 ?_
 refine go ?_
 refine RS.cl rfl (pC (q4j n p1 z28 p2 r41 h42) _) fn100 ?_
 refine go ?_
 exact xC ⟨rfl,rfl⟩
 obtain rfl:=sI h44
 refine go ?_
 repeat refine RS.no (qn7 rfl rfl rfl) rfl rfl ?_
 refine go ?_
 repeat refine RS.no (qn7 rfl rfl rfl) rfl rfl ?_
 refine go ?_
 repeat refine RS.no (qn7 rfl rfl rfl) rfl rfl ?_
 refine go ?_
 exact xC ⟨rfl,rfl⟩
 refine go ?_
 exact xC ⟨b27,hF,rfl,rfl⟩
 rcases gB h18 with ⟨h14,h18⟩ | ⟨h14,h18⟩
 exact gy h18
 obtain ⟨r15,h16,h18⟩:=q00 h18
 obtain rfl:=sI h18
 refine go ?_
 refine RS.cl rfl (pC (q4j n p1 z8 p2 r15 h16) _) fn100 ?_
 refine go ?_
 exact xC ⟨rfl,rfl⟩
 refine go ?_
 exact xC ⟨l9,t10,hF,rfl,rfl⟩
def q7y  (l18:List q1w):Option ((List q1w)×Int) :=
 some (l18,0)
def q5r (p1:List q06) (n:Nat) (r5:(List q13)×Int) (r7:(List (List UInt8))):Nat→Int→(List q1w)→Option ((List q1w)×Int)
 | 0,_,_=>none
 | m1+1,z15,l16 =>
  cond (decide (z15<(r7.length:Int)))
   (q04 (q15 r7 z15) fun x21 =>
   q04 (qea n p1 x21) fun r23 =>
   q04 (q15 r7 z15) fun x25 =>
   q04 (q96 n r5.1 r23.1) fun r27 =>
   q1i ((l16.length+1)*24≤140737488355328∧l16.length+1≤140737488355328) (
   (q5r p1 n r5 r7 m1) (IntKind.i64.wrap (z15+1)) (l16++[(q1w.mk x25 r27)])))
   (q7y l16)
def qcc (n:Nat) (p1:List q06):Option ((List q1w)×Int) :=
 q04 (qe8 n p1) fun r2 =>
 cond (r2 != 0)
  (some ([],r2))
  (q04 (q7x n p1) fun r5 =>
  q04 (qb0 n p1) fun r7 =>
  q5r p1 n r5 r7 n 0 ([]:List q1w))
theorem ql4 (n:Nat) (p1:List q06) (r:(List q1w)×Int) (hF:qcc n p1=some r):EvU Tryz.prog 74 [.isl false (List.map q02 p1)] ⟨[],0⟩ (fun u _=>u = .tup [.isl false (List.map q1f r.1),.int .i64 r.2]∧Bel 0 u):=by
 unfold qcc at hF
 refine bg1 51 fn74 ?_
 obtain ⟨r2,h3,hF⟩:=q00 hF
 refine go ?_
 refine RS.cl rfl (pC (qiv n p1 r2 h3) _) fn90 ?_
 refine go ?_
 refine cF hF (fun h4 hF=>?_) (fun h4 hF=>?_)
 refine go ?_
 obtain rfl:=sI hF
 exact rT (us:=[.nils,.i6 r2]) (u:=.tup [.isl false [],.i6 r2]) (q2o rfl (q2o rfl (q2g))) wR
 obtain ⟨r5,h6,hF⟩:=q00 hF
 refine go ?_
 refine RS.cl rfl (pC (qa1 n p1 r5 h6) _) fn72 ?_
 obtain ⟨r7,h8,hF⟩:=q00 hF
 refine go ?_
 refine RS.cl rfl (pC (qe9 n p1 r7 h8) _) fn91 ?_
 refine gr ?_
 refine gr ?_
 refine WPU.ghost (tm':=fr 51 [(0,.iM q02 p1),(5,.iM q0h r5.1),(7,.iM cS r7),(8,.vl 0 0 0 (([]:List q1w).length)),(9,.i6 0)]) (σ':=⟨[(0,.vec (List.map q1f ([]:List q1w)).flatten 82 2 0)],1⟩) (Gh.trans (z4n 8 82 2 (by decide) NZ rfl rfl) (z4l ⟨rfl,rfl,rfl,rfl,rfl,trivial⟩ rfl)) NZ ?_
 refine gS (l':=[(0,_),(5,_),(7,_),(8,_),(9,_)]) ?_
 refine z4g (fun m tm σ=>∃ z15:Int,∃ l16:List q1w,∃ t17:Nat,q5r p1 n r5 r7 m z15 l16=some r∧tm=fr 51 [(0,.iM q02 p1),(5,.iM q0h r5.1),(7,.iM cS r7),(8,.vl 0 t17 0 l16.length),(9,.i6 z15)]∧σ=⟨[(0,.vec (List.map q1f l16).flatten 82 2 t17)],1⟩) (fun tm σ=>∃ l18:List q1w,∃ t19:Nat,q7y l18=some r∧tm=fr 51 [(8,.vl 0 t19 0 l18.length)]∧σ=⟨[(0,.vec (List.map q1f l18).flatten 82 2 t19)],1⟩) n ⟨0,([]:List q1w),0,hF,rfl,rfl⟩ ?_ ?_
 rintro _ _ ⟨l18,t19,hF,rfl,rfl⟩
 unfold q7y at hF
 refine go ?_
 obtain rfl:=sI hF
 exact rT (us:=[.vl 0 t19 0 l18.length,.i6 0]) (u:=.tup [.iM q1f l18,.i6 0]) (q2o rfl (q2o rfl (q2g))) (fR 0 2)
 rintro (_|m1) _ _ ⟨z15,l16,t17,hF,rfl,rfl⟩
 cases hF
 unfold q5r at hF
 refine go ?_
 refine RS.q rfl (q0c rfl rfl rfl (q08 cS und80)) ?_
 refine go ?_
 refine cF hF (fun h20 hF=>?_) (fun h20 hF=>?_)
 refine go ?_
 refine WPU.block ?_
 obtain ⟨x21,h22,hF⟩:=q00 hF
 obtain ⟨r23,h24,hF⟩:=q00 hF
 refine go ?_
 refine RS.q rfl (q0f rfl rfl (q0a cS und80 (q03 inf9) q1s h22 rfl)) (RS.q rfl (q0d und9 rfl rfl rfl) (RS.cl rfl (pC (qiw n p1 x21 r23 h24) _) fn101 ?_))
 obtain ⟨x25,h26,hF⟩:=q00 hF
 obtain ⟨r27,h28,hF⟩:=q00 hF
 obtain ⟨h29,hF⟩:=q0b hF
 refine go ?_
 refine z4i Tryz.tb_ok [(0,9)] (by kernel_rfl) ?_
 repeat refine RD.mv rfl rfl rfl rfl ?_
 refine RD.q rfl (q0f rfl rfl (q0a cS und80 (q03 inf9) q1s h26 rfl)) (RD.q rfl (q0d und9 rfl rfl rfl) ?_)
 repeat refine RD.mv rfl rfl rfl rfl ?_
 refine z4w rfl (pC (qcg n r5.1 r23.1 r27 h28)) fn102 ?_
 refine RD.q (u:=.agg [.str x25,.i6 r27]) rfl (q3l bd82 rfl rfl rfl) (RD.act (u:=.sl 1 0 1 1) (σ':=⟨[(1,.row [.str x25,.i6 r27] 82),(0,.vec (List.map q1f l16).flatten 82 2 t17)],2⟩) rfl (q0j und41 inf82 rfl rfl rfl rfl rfl rfl rfl) rfl rfl (RD.act (u:=.vl 0 (t17+1) 0 ((l16++[(q1w.mk x25 r27)]).length)) (σ':=⟨[(1,.row [.str x25,.i6 r27] 82),(0,.vec (List.map q1f (l16++[(q1w.mk x25 r27)])).flatten 82 2 (t17+1))],2⟩) rfl (q1u rfl rfl rfl rfl (q2a q1f ([(q1w.mk x25 r27)]) und41 und41 inf82 rfl q9q rfl (q1q q1f [(q1w.mk x25 r27)] rfl rfl rfl rfl) h29)) rfl rfl (RD.as rfl rfl rfl rfl ?_)))
 refine RD.done ⟨by kernel_rfl,⟨q27 rfl,trivial⟩,?_⟩
 refine go ?_
 exact lC ⟨_,(l16++[(q1w.mk x25 r27)]),(t17+1),hF,rfl,rfl⟩
 refine go ?_
 exact xC ⟨l16,t17,hF,rfl,rfl⟩
def q9g (p1:List q06) (n:Nat) (l16:List qcj):Option (q1a×Int) :=
 q04 (qcc n p1) fun r18 =>
 some ((q1a.mk l16 r18.1),0)
def q6d (p1:List q06) (n:Nat) (r2:(List (List q1c))×Int) (r5:(List q13)×Int):Nat→Int→(List qcj)→Option (q1a×Int)
 | 0,_,_=>none
 | m1+1,z13,l14 =>
  cond (decide (z13<(r5.1.length:Int)))
   (q04 (q15 r5.1 z13) fun x21 =>
   q04 (q15 r5.1 z13) fun x23 =>
   q04 (qfg n r5.1 z13) fun r25 =>
   q04 (q15 r2.1 z13) fun x27 =>
   q1i ((l14.length+1)*88≤140737488355328∧l14.length+1≤140737488355328) (
   (q6d p1 n r2 r5 m1) (IntKind.i64.wrap (z13+1)) (l14++[(qcj.mk x21.Name x23.Code r25 x27)])))
   (q9g p1 n l14)
def qec (n:Nat) (p1:List q06):Option (q1a×Int) :=
 q04 (qfj n p1) fun r2 =>
 cond (r2.2 != 0)
  (some ((q1a.mk [] []),r2.2))
  (q04 (q7x n p1) fun r5 =>
  q6d p1 n r2 r5 n 0 ([]:List qcj))
theorem qmv (n:Nat) (p1:List q06) (r:q1a×Int) (hF:qec n p1=some r):EvU Tryz.prog 51 [.isl false (List.map q02 p1)] ⟨[],0⟩ (fun u _=>u = .tup [.agg (q07 r.1),.int .i64 r.2]∧Bel 0 u):=by
 unfold qec at hF
 refine bg1 63 fn51 ?_
 refine go ?_
 refine RS.q (u:=.ptr 0 0 0) (σ':=⟨[(0,.row [.nils,.nils] 43)],1⟩) rfl (q0v inf43 rfl rfl) ?_
 obtain ⟨r2,h3,hF⟩:=q00 hF
 refine go ?_
 refine RS.cl rfl (pC (qnt n p1 r2 h3) _) fn71 ?_
 refine go ?_
 refine cF hF (fun h4 hF=>?_) (fun h4 hF=>?_)
 refine go ?_
 refine RS.q (u:=.agg [.nils,.nils]) rfl (q3l bd43 rfl rfl rfl) ?_
 refine go ?_
 refine z4k (u:=.junk) (σ':=⟨[(0,.row [.nils,.nils] 43)],1⟩) rfl (q0l (q03 inf43) rfl rfl rfl rfl rfl rfl rfl rfl) rfl ?_
 refine go ?_
 obtain rfl:=sI hF
 exact rT (us:=[.agg [.nils,.nils],.i6 r2.2]) (u:=.tup [.agg [.isl false [],.isl false []],.i6 r2.2]) (qei (q0p und43 rfl (q03 inf43) rfl rfl rfl) (q2o rfl (q2g))) wR
 obtain ⟨r5,h6,hF⟩:=q00 hF
 refine go ?_
 refine RS.cl rfl (pC (qa1 n p1 r5 h6) _) fn72 ?_
 refine go ?_
 refine RS.q (u:=.ptr 1 0 0) (σ':=⟨[(1,.row [.nils,.nils] 43),(0,.row [.nils,.nils] 43)],2⟩) rfl (q0v inf43 rfl rfl) ?_
 refine gr ?_
 refine WPU.ghost (tm':=fr 63 [(0,.iM q02 p1),(2,.ptr 0 0 0),(4,.iM (cL q0y) r2.1),(6,.iM q0h r5.1),(8,.ptr 1 0 0),(9,.i6 0)]) (σ':=⟨[(2,.vec (List.map q8v ([]:List qcj)).flatten 109 4 0),(1,.row [.vl 2 0 0 (([]:List qcj).length),.nils] 43),(0,.row [.nils,.nils] 43)],3⟩) (Gh.trans (z4u 1 0 109 4 (by decide) NZ rfl rfl) (z4l ⟨rfl,rfl,rfl,rfl,rfl,rfl,trivial⟩ rfl)) NZ ?_
 refine gS (l':=[(0,_),(2,_),(4,_),(6,_),(8,_),(9,_)]) ?_
 refine z4g (fun m tm σ=>∃ z13:Int,∃ l14:List qcj,∃ t15:Nat,q6d p1 n r2 r5 m z13 l14=some r∧tm=fr 63 [(0,.iM q02 p1),(2,.ptr 0 0 0),(4,.iM (cL q0y) r2.1),(6,.iM q0h r5.1),(8,.ptr 1 0 0),(9,.i6 z13)]∧σ=⟨[(2,.vec (List.map q8v l14).flatten 109 4 t15),(1,.row [.vl 2 t15 0 l14.length,.nils] 43),(0,.row [.nils,.nils] 43)],3⟩) (fun tm σ=>∃ l16:List qcj,∃ t17:Nat,q9g p1 n l16=some r∧tm=fr 63 [(0,.iM q02 p1),(2,.ptr 0 0 0),(8,.ptr 1 0 0)]∧σ=⟨[(2,.vec (List.map q8v l16).flatten 109 4 t17),(1,.row [.vl 2 t17 0 l16.length,.nils] 43),(0,.row [.nils,.nils] 43)],3⟩) n ⟨0,([]:List qcj),0,hF,rfl,rfl⟩ ?_ ?_
 rintro _ _ ⟨l16,t17,hF,rfl,rfl⟩
 unfold q9g at hF
 obtain ⟨r18,h19,hF⟩:=q00 hF
 refine go ?_
 refine RS.cl rfl (pC (ql4 n p1 r18 h19) _) fn74 ?_
 refine go ?_
 refine RS.q rfl (q0w und43 rfl (q03 inf41) rfl rfl rfl) ?_
 refine z4k (u:=.junk) (σ':=⟨[(2,.vec (List.map q8v l16).flatten 109 4 t17),(1,.row [.vl 2 t17 0 l16.length,.iM q1f r18.1] 43),(0,.row [.nils,.nils] 43)],3⟩) rfl (q0l (q03 inf41) rfl rfl rfl rfl rfl rfl rfl rfl) rfl ?_
 refine go ?_
 refine RS.q (u:=.agg [.vl 2 t17 0 l16.length,.iM q1f r18.1]) rfl (q0p und43 rfl (q03 inf43) rfl rfl rfl) ?_
 refine z4k (u:=.junk) (σ':=⟨[(2,.vec (List.map q8v l16).flatten 109 4 t17),(1,.row [.vl 2 t17 0 l16.length,.iM q1f r18.1] 43),(0,.row [.vl 2 t17 0 l16.length,.iM q1f r18.1] 43)],3⟩) rfl (q0l (q03 inf43) rfl rfl rfl rfl rfl rfl rfl rfl) rfl ?_
 refine go ?_
 obtain rfl:=sI hF
 exact rT (us:=[.agg [.vl 2 t17 0 l16.length,.iM q1f r18.1],.i6 0]) (u:=.tup [.agg [.iM q8v l16,.iM q1f r18.1],.i6 0]) (qei (q0p und43 rfl (q03 inf43) rfl rfl rfl) (q2o rfl (q2g))) (fR 2 4)
 rintro (_|m1) _ _ ⟨z13,l14,t15,hF,rfl,rfl⟩
 cases hF
 unfold q6d at hF
 refine go ?_
 refine RS.q rfl (q0c rfl rfl rfl (q08 q0h und99)) ?_
 refine go ?_
 refine cF hF (fun h20 hF=>?_) (fun h20 hF=>?_)
 refine go ?_
 refine WPU.block ?_
 obtain ⟨x21,h22,hF⟩:=q00 hF
 obtain ⟨x23,h24,hF⟩:=q00 hF
 obtain ⟨r25,h26,hF⟩:=q00 hF
 obtain ⟨x27,h28,hF⟩:=q00 hF
 obtain ⟨h29,hF⟩:=q0b hF
 refine go ?_
 refine z4i Tryz.tb_ok [(0,20),(1,20)] (by kernel_rfl) ?_
 refine RD.q rfl (q0w und43 rfl (q03 inf40) rfl rfl rfl) (RD.q rfl (q0i und40 rfl rfl rfl rfl) ?_)
 repeat refine RD.mv rfl rfl rfl rfl ?_
 refine RD.q rfl (q0f rfl rfl (q0a q0h und99 (q03 inf105) q1z h22 rfl)) (RD.q rfl (q1o und105 rfl (q03 inf9) rfl rfl) (RD.q rfl (q0d und9 rfl rfl rfl) ?_))
 repeat refine RD.mv rfl rfl rfl rfl ?_
 refine RD.q rfl (q0f rfl rfl (q0a q0h und99 (q03 inf105) q1z h24 rfl)) (RD.q rfl (q1o und105 rfl (q03 inf103) rfl rfl) (RD.q rfl (q0d und103 rfl rfl rfl) ?_))
 repeat refine RD.mv rfl rfl rfl rfl ?_
 refine z4w rfl (pC (qnq n r5.1 z13 r25 h26)) fn73 ?_
 repeat refine RD.mv rfl rfl rfl rfl ?_
 refine RD.q rfl (q0f rfl rfl (q0a (cL q0y) und96 (q03 inf107) (q4h q0y) h28 rfl)) (RD.q rfl (q0d und107 rfl rfl rfl) (RD.q (u:=.agg [.str x21.Name,.iM (cI .u64) x23.Code,.iM (cI .i64) r25,.iM q0y x27]) rfl (q3l bd109 rfl rfl rfl) (RD.act (u:=.sl 3 0 1 1) (σ':=⟨[(3,.row [.str x21.Name,.iM (cI .u64) x23.Code,.iM (cI .i64) r25,.iM q0y x27] 109),(2,.vec (List.map q8v l14).flatten 109 4 t15),(1,.row [.vl 2 t15 0 l14.length,.nils] 43),(0,.row [.nils,.nils] 43)],4⟩) rfl (q0j und40 inf109 rfl rfl rfl rfl rfl rfl rfl) rfl rfl (RD.act (u:=.vl 2 (t15+1) 0 ((l14++[(qcj.mk x21.Name x23.Code r25 x27)]).length)) (σ':=⟨[(3,.row [.str x21.Name,.iM (cI .u64) x23.Code,.iM (cI .i64) r25,.iM q0y x27] 109),(2,.vec (List.map q8v (l14++[(qcj.mk x21.Name x23.Code r25 x27)])).flatten 109 4 (t15+1)),(1,.row [.vl 2 t15 0 l14.length,.nils] 43),(0,.row [.nils,.nils] 43)],4⟩) rfl (q1u rfl rfl rfl rfl (q2a q8v ([(qcj.mk x21.Name x23.Code r25 x27)]) und40 und40 inf109 rfl qoc rfl (q1q q8v [(qcj.mk x21.Name x23.Code r25 x27)] rfl rfl rfl rfl) h29)) rfl rfl (RD.q rfl (q0w und43 rfl (q03 inf40) rfl rfl rfl) ?_)))))
 refine z4t (u:=.junk) (σ':=⟨[(3,.row [.str x21.Name,.iM (cI .u64) x23.Code,.iM (cI .i64) r25,.iM q0y x27] 109),(2,.vec (List.map q8v (l14++[(qcj.mk x21.Name x23.Code r25 x27)])).flatten 109 4 (t15+1)),(1,.row [.vl 2 (t15+1) 0 ((l14++[(qcj.mk x21.Name x23.Code r25 x27)]).length),.nils] 43),(0,.row [.nils,.nils] 43)],4⟩) rfl (q0l (q03 inf40) rfl rfl rfl rfl rfl rfl rfl rfl) rfl ?_
 refine RD.done ⟨by kernel_rfl,⟨q0w und43 rfl (q03 inf40) rfl rfl rfl,⟨q0i und40 rfl rfl rfl rfl,trivial⟩⟩,?_⟩
 refine go ?_
 exact lC ⟨_,(l14++[(qcj.mk x21.Name x23.Code r25 x27)]),(t15+1),hF,rfl,rfl⟩
 refine go ?_
 exact xC ⟨l14,t15,hF,rfl,rfl⟩
def qee (p1:List UInt8) (p2:List UInt8) (l15:List q0x):Option (q06) :=
 some (q06.mk p1 ([p2]) l15)
def qa6 (p1:List UInt8) (p2:List UInt8) (p3:List (List UInt8)):Nat→Int→(List q0x)→Option (q06)
 | 0,_,_=>none
 | m1+1,z12,l13 =>
  cond (decide ((IntKind.i64.wrap (z12+1))<(p3.length:Int)))
   (q04 (q15 p3 z12) fun x18 =>
   q04 (q15 p3 (IntKind.i64.wrap (z12+1))) fun x20 =>
   q1i ((l13.length+1)*32≤140737488355328∧l13.length+1≤140737488355328) (
   (qa6 p1 p2 p3 m1) (IntKind.i64.wrap (z12+2)) (l13++[(q0x.mk x18 x20)])))
   (qee p1 p2 l13)
def qef (p1:List UInt8) (l32:List q0x):Option (q06) :=
 some (q06.mk p1 [] l32)
def qa7 (p1:List UInt8) (p3:List (List UInt8)):Nat→Int→(List q0x)→Option (q06)
 | 0,_,_=>none
 | m2+1,z29,l30 =>
  cond (decide ((IntKind.i64.wrap (z29+1))<(p3.length:Int)))
   (q04 (q15 p3 z29) fun x35 =>
   q04 (q15 p3 (IntKind.i64.wrap (z29+1))) fun x37 =>
   q1i ((l30.length+1)*32≤140737488355328∧l30.length+1≤140737488355328) (
   (qa7 p1 p3 m2) (IntKind.i64.wrap (z29+2)) (l30++[(q0x.mk x35 x37)])))
   (qef p1 l30)
def q2u (n:Nat) (p1:List UInt8) (p2:List UInt8) (p3:List (List UInt8)):Option (q06) :=
 cond (!q1x p2 [])
  (qa6 p1 p2 p3 n 0 ([]:List q0x))
  (qa7 p1 p3 n 0 ([]:List q0x))
theorem q2f (n:Nat) (p1:List UInt8) (p2:List UInt8) (p3:List (List UInt8)) (r:q06) (hF:q2u n p1 p2 p3=some r):EvU Tryz.prog 82 [.str p1,.str p2,.isl false (List.map cS p3)] ⟨[],0⟩ (fun u _=>u = .agg (q02 r)∧Bel 0 u):=by
 unfold q2u at hF
 refine bg3 39 fn82 ?_
 refine go ?_
 refine RS.q (u:=.ptr 0 0 0) (σ':=⟨[(0,.row [.str [],.nils,.nils] 127)],1⟩) rfl (q0v inf127 rfl rfl) ?_
 refine go ?_
 refine RS.q (u:=.agg [.str p1,.nils,.nils]) rfl (q3l bd127 rfl rfl rfl) (RS.q (u:=.ptr 1 0 0) (σ':=⟨[(1,.row [.str [],.nils,.nils] 127),(0,.row [.str [],.nils,.nils] 127)],2⟩) rfl (q0v inf127 rfl rfl) ?_)
 refine z4k (u:=.junk) (σ':=⟨[(1,.row [.str p1,.nils,.nils] 127),(0,.row [.str [],.nils,.nils] 127)],2⟩) rfl (q0l (q03 inf127) rfl rfl rfl rfl rfl rfl rfl rfl) rfl ?_
 refine go ?_
 refine RS.q (u:=.bool (!q1x p2 [])) rfl (q9m rfl rfl rfl rfl) ?_
 refine go ?_
 refine cF hF (fun h4 hF=>?_) (fun h4 hF=>?_)
 refine go ?_
 refine RS.q (u:=.sl 2 0 1 1) (σ':=⟨[(2,.row [.str p2] 9),(1,.row [.str p1,.nils,.nils] 127),(0,.row [.str [],.nils,.nils] 127)],3⟩) rfl (q0j und80 inf9 rfl rfl rfl rfl rfl rfl rfl) (RS.q rfl (q0w und127 rfl (q03 inf80) rfl rfl rfl) ?_)
 refine z4k (u:=.junk) (σ':=⟨[(2,.row [.str p2] 9),(1,.row [.str p1,.sl 2 0 1 1,.nils] 127),(0,.row [.str [],.nils,.nils] 127)],3⟩) rfl (q0l (q03 inf80) rfl rfl rfl rfl rfl rfl rfl rfl) rfl ?_
 refine gr ?_
 refine WPU.ghost (tm':=fr 39 [(2,.iM cS p3),(6,.ptr 0 0 0),(7,.ptr 1 0 0),(8,.i6 0)]) (σ':=⟨[(3,.vec (List.map q0e ([]:List q0x)).flatten 162 2 0),(2,.row [.str p2] 9),(1,.row [.str p1,.sl 2 0 1 1,.vl 3 0 0 (([]:List q0x).length)] 127),(0,.row [.str [],.nils,.nils] 127)],4⟩) (Gh.trans (z4u 1 2 162 2 (by decide) NZ rfl rfl) (z4l ⟨rfl,rfl,rfl,rfl,trivial⟩ rfl)) NZ ?_
 refine gS (l':=[(2,_),(6,_),(7,_),(8,_)]) ?_
 refine z4g (fun m tm σ=>∃ z12:Int,∃ l13:List q0x,∃ t14:Nat,qa6 p1 p2 p3 m z12 l13=some r∧tm=fr 39 [(2,.iM cS p3),(6,.ptr 0 0 0),(7,.ptr 1 0 0),(8,.i6 z12)]∧σ=⟨[(3,.vec (List.map q0e l13).flatten 162 2 t14),(2,.row [.str p2] 9),(1,.row [.str p1,.sl 2 0 1 1,.vl 3 t14 0 l13.length] 127),(0,.row [.str [],.nils,.nils] 127)],4⟩) (fun tm σ=>∃ l15:List q0x,∃ t16:Nat,qee p1 p2 l15=some r∧tm=fr 39 [(6,.ptr 0 0 0),(7,.ptr 1 0 0)]∧σ=⟨[(3,.vec (List.map q0e l15).flatten 162 2 t16),(2,.row [.str p2] 9),(1,.row [.str p1,.sl 2 0 1 1,.vl 3 t16 0 l15.length] 127),(0,.row [.str [],.nils,.nils] 127)],4⟩) n ⟨0,([]:List q0x),0,hF,rfl,rfl⟩ ?_ ?_
 rintro _ _ ⟨l15,t16,hF,rfl,rfl⟩
 unfold qee at hF
 refine go ?_
 refine RS.q (u:=.agg [.str p1,.sl 2 0 1 1,.vl 3 t16 0 l15.length]) rfl (q0p und127 rfl (q03 inf127) rfl rfl rfl) ?_
 refine z4k (u:=.junk) (σ':=⟨[(3,.vec (List.map q0e l15).flatten 162 2 t16),(2,.row [.str p2] 9),(1,.row [.str p1,.sl 2 0 1 1,.vl 3 t16 0 l15.length] 127),(0,.row [.str p1,.sl 2 0 1 1,.vl 3 t16 0 l15.length] 127)],4⟩) rfl (q0l (q03 inf127) rfl rfl rfl rfl rfl rfl rfl rfl) rfl ?_
 refine go ?_
 obtain rfl:=sI hF
 exact ⟨.inr rfl,[.agg [.str p1,.sl 2 0 1 1,.vl 3 t16 0 l15.length]],qei (q0p und127 rfl (q03 inf127) rfl rfl rfl) (q2g),.agg [.str p1,.iM cS ([p2]),.iM q0e l15],⟨[],0⟩,Nat.le_refl _,Gh.trans (z4j 2 1) (Gh.trans (z4j 3 2) (z4p (.agg [.str p1,.iM cS ([p2]),.iM q0e l15]) rfl)),rfl,BU.h⟩
 rintro (_|m1) _ _ ⟨z12,l13,t14,hF,rfl,rfl⟩
 cases hF
 unfold qa6 at hF
 refine go ?_
 refine RS.q rfl (q0c rfl rfl rfl (q08 cS und80)) ?_
 refine go ?_
 refine cF hF (fun h17 hF=>?_) (fun h17 hF=>?_)
 refine go ?_
 refine WPU.block ?_
 obtain ⟨x18,h19,hF⟩:=q00 hF
 obtain ⟨x20,h21,hF⟩:=q00 hF
 obtain ⟨h22,hF⟩:=q0b hF
 refine go ?_
 refine z4i Tryz.tb_ok [(0,12),(1,12)] (by kernel_rfl) ?_
 refine RD.q rfl (q0w und127 rfl (q03 inf125) rfl rfl rfl) (RD.q rfl (q0i und125 rfl rfl rfl rfl) ?_)
 repeat refine RD.mv rfl rfl rfl rfl ?_
 refine RD.q rfl (q0f rfl rfl (q0a cS und80 (q03 inf9) q1s h19 rfl)) (RD.q rfl (q0d und9 rfl rfl rfl) ?_)
 repeat refine RD.mv rfl rfl rfl rfl ?_
 refine RD.q rfl (q3b rfl rfl (qtt _ _ _) rfl) (RD.q rfl (q0f rfl rfl (q0a cS und80 (q03 inf9) q1s h21 rfl)) (RD.q rfl (q0d und9 rfl rfl rfl) (RD.q (u:=.agg [.str x18,.str x20]) rfl (q3l bd162 rfl rfl rfl) (RD.act (u:=.sl 4 0 1 1) (σ':=⟨[(4,.row [.str x18,.str x20] 162),(3,.vec (List.map q0e l13).flatten 162 2 t14),(2,.row [.str p2] 9),(1,.row [.str p1,.sl 2 0 1 1,.vl 3 t14 0 l13.length] 127),(0,.row [.str [],.nils,.nils] 127)],5⟩) rfl (q0j und125 inf162 rfl rfl rfl rfl rfl rfl rfl) rfl rfl (RD.act (u:=.vl 3 (t14+1) 0 ((l13++[(q0x.mk x18 x20)]).length)) (σ':=⟨[(4,.row [.str x18,.str x20] 162),(3,.vec (List.map q0e (l13++[(q0x.mk x18 x20)])).flatten 162 2 (t14+1)),(2,.row [.str p2] 9),(1,.row [.str p1,.sl 2 0 1 1,.vl 3 t14 0 l13.length] 127),(0,.row [.str [],.nils,.nils] 127)],5⟩) rfl (q1u rfl rfl rfl rfl (q2a q0e ([(q0x.mk x18 x20)]) und125 und125 inf162 rfl q2h rfl (q1q q0e [(q0x.mk x18 x20)] rfl rfl rfl rfl) h22)) rfl rfl (RD.q rfl (q0w und127 rfl (q03 inf125) rfl rfl rfl) ?_))))))
 refine z4t (u:=.junk) (σ':=⟨[(4,.row [.str x18,.str x20] 162),(3,.vec (List.map q0e (l13++[(q0x.mk x18 x20)])).flatten 162 2 (t14+1)),(2,.row [.str p2] 9),(1,.row [.str p1,.sl 2 0 1 1,.vl 3 (t14+1) 0 ((l13++[(q0x.mk x18 x20)]).length)] 127),(0,.row [.str [],.nils,.nils] 127)],5⟩) rfl (q0l (q03 inf125) rfl rfl rfl rfl rfl rfl rfl rfl) rfl ?_
 refine RD.done ⟨by kernel_rfl,⟨q0w und127 rfl (q03 inf125) rfl rfl rfl,⟨q0i und125 rfl rfl rfl rfl,trivial⟩⟩,?_⟩
 refine go ?_
 exact lC ⟨_,(l13++[(q0x.mk x18 x20)]),(t14+1),hF,rfl,rfl⟩
 refine go ?_
 exact xC ⟨l13,t14,hF,rfl,rfl⟩
 refine gr ?_
 refine WPU.ghost (tm':=fr 39 [(2,.iM cS p3),(6,.ptr 0 0 0),(7,.ptr 1 0 0),(8,.i6 0)]) (σ':=⟨[(2,.vec (List.map q0e ([]:List q0x)).flatten 162 2 0),(1,.row [.str p1,.nils,.vl 2 0 0 (([]:List q0x).length)] 127),(0,.row [.str [],.nils,.nils] 127)],3⟩) (Gh.trans (z4u 1 2 162 2 (by decide) NZ rfl rfl) (z4l ⟨rfl,rfl,rfl,rfl,trivial⟩ rfl)) NZ ?_
 refine gS (l':=[(2,_),(6,_),(7,_),(8,_)]) ?_
 refine z4g (fun m tm σ=>∃ z29:Int,∃ l30:List q0x,∃ t31:Nat,qa7 p1 p3 m z29 l30=some r∧tm=fr 39 [(2,.iM cS p3),(6,.ptr 0 0 0),(7,.ptr 1 0 0),(8,.i6 z29)]∧σ=⟨[(2,.vec (List.map q0e l30).flatten 162 2 t31),(1,.row [.str p1,.nils,.vl 2 t31 0 l30.length] 127),(0,.row [.str [],.nils,.nils] 127)],3⟩) (fun tm σ=>∃ l32:List q0x,∃ t33:Nat,qef p1 l32=some r∧tm=fr 39 [(6,.ptr 0 0 0),(7,.ptr 1 0 0)]∧σ=⟨[(2,.vec (List.map q0e l32).flatten 162 2 t33),(1,.row [.str p1,.nils,.vl 2 t33 0 l32.length] 127),(0,.row [.str [],.nils,.nils] 127)],3⟩) n ⟨0,([]:List q0x),0,hF,rfl,rfl⟩ ?_ ?_
 rintro _ _ ⟨l32,t33,hF,rfl,rfl⟩
 unfold qef at hF
 refine go ?_
 refine RS.q (u:=.agg [.str p1,.nils,.vl 2 t33 0 l32.length]) rfl (q0p und127 rfl (q03 inf127) rfl rfl rfl) ?_
 refine z4k (u:=.junk) (σ':=⟨[(2,.vec (List.map q0e l32).flatten 162 2 t33),(1,.row [.str p1,.nils,.vl 2 t33 0 l32.length] 127),(0,.row [.str p1,.nils,.vl 2 t33 0 l32.length] 127)],3⟩) rfl (q0l (q03 inf127) rfl rfl rfl rfl rfl rfl rfl rfl) rfl ?_
 refine go ?_
 obtain rfl:=sI hF
 exact ⟨.inr rfl,[.agg [.str p1,.nils,.vl 2 t33 0 l32.length]],qei (q0p und127 rfl (q03 inf127) rfl rfl rfl) (q2g),.agg [.str p1,.isl false [],.iM q0e l32],⟨[],0⟩,Nat.le_refl _,Gh.trans (z4j 2 2) (Gh.trans (Gh.wk (.cons (.agg (.cons (.refl _) (.cons (.nil false) (.cons (.refl _) .nil)))) .nil)) (z4p (.agg [.str p1,.isl false [],.iM q0e l32]) rfl)),rfl,BU.h⟩
 rintro (_|m2) _ _ ⟨z29,l30,t31,hF,rfl,rfl⟩
 cases hF
 unfold qa7 at hF
 refine go ?_
 refine RS.q rfl (q0c rfl rfl rfl (q08 cS und80)) ?_
 refine go ?_
 refine cF hF (fun h34 hF=>?_) (fun h34 hF=>?_)
 refine go ?_
 refine WPU.block ?_
 obtain ⟨x35,h36,hF⟩:=q00 hF
 obtain ⟨x37,h38,hF⟩:=q00 hF
 obtain ⟨h39,hF⟩:=q0b hF
 refine go ?_
 refine z4i Tryz.tb_ok [(0,12),(1,12)] (by kernel_rfl) ?_
 refine RD.q rfl (q0w und127 rfl (q03 inf125) rfl rfl rfl) (RD.q rfl (q0i und125 rfl rfl rfl rfl) ?_)
 repeat refine RD.mv rfl rfl rfl rfl ?_
 refine RD.q rfl (q0f rfl rfl (q0a cS und80 (q03 inf9) q1s h36 rfl)) (RD.q rfl (q0d und9 rfl rfl rfl) ?_)
 repeat refine RD.mv rfl rfl rfl rfl ?_
 refine RD.q rfl (q3b rfl rfl (qtt _ _ _) rfl) (RD.q rfl (q0f rfl rfl (q0a cS und80 (q03 inf9) q1s h38 rfl)) (RD.q rfl (q0d und9 rfl rfl rfl) (RD.q (u:=.agg [.str x35,.str x37]) rfl (q3l bd162 rfl rfl rfl) (RD.act (u:=.sl 3 0 1 1) (σ':=⟨[(3,.row [.str x35,.str x37] 162),(2,.vec (List.map q0e l30).flatten 162 2 t31),(1,.row [.str p1,.nils,.vl 2 t31 0 l30.length] 127),(0,.row [.str [],.nils,.nils] 127)],4⟩) rfl (q0j und125 inf162 rfl rfl rfl rfl rfl rfl rfl) rfl rfl (RD.act (u:=.vl 2 (t31+1) 0 ((l30++[(q0x.mk x35 x37)]).length)) (σ':=⟨[(3,.row [.str x35,.str x37] 162),(2,.vec (List.map q0e (l30++[(q0x.mk x35 x37)])).flatten 162 2 (t31+1)),(1,.row [.str p1,.nils,.vl 2 t31 0 l30.length] 127),(0,.row [.str [],.nils,.nils] 127)],4⟩) rfl (q1u rfl rfl rfl rfl (q2a q0e ([(q0x.mk x35 x37)]) und125 und125 inf162 rfl q2h rfl (q1q q0e [(q0x.mk x35 x37)] rfl rfl rfl rfl) h39)) rfl rfl (RD.q rfl (q0w und127 rfl (q03 inf125) rfl rfl rfl) ?_))))))
 refine z4t (u:=.junk) (σ':=⟨[(3,.row [.str x35,.str x37] 162),(2,.vec (List.map q0e (l30++[(q0x.mk x35 x37)])).flatten 162 2 (t31+1)),(1,.row [.str p1,.nils,.vl 2 (t31+1) 0 ((l30++[(q0x.mk x35 x37)]).length)] 127),(0,.row [.str [],.nils,.nils] 127)],4⟩) rfl (q0l (q03 inf125) rfl rfl rfl rfl rfl rfl rfl rfl) rfl ?_
 refine RD.done ⟨by kernel_rfl,⟨q0w und127 rfl (q03 inf125) rfl rfl rfl,⟨q0i und125 rfl rfl rfl rfl,trivial⟩⟩,?_⟩
 refine go ?_
 exact lC ⟨_,(l30++[(q0x.mk x35 x37)]),(t31+1),hF,rfl,rfl⟩
 refine go ?_
 exact xC ⟨l30,t31,hF,rfl,rfl⟩
def qed (n:Nat)  : Option ((List q06)) :=
 q04 (q2u n ([116,111,112]) [] []) fun r1 =>
 q04 (q2u n ([108,105,115,116]) ([116,111,112]) []) fun r3 =>
 q04 (q2u n ([99,111,110,115]) ([108,105,115,116]) ([[70,73,82,83,84],[116,111,112],[82,69,83,84],[108,105,115,116]])) fun r5 =>
 q04 (q2u n ([110,117,108,108]) ([108,105,115,116]) []) fun r7 =>
 q04 (q2u n ([100,108,105,115,116]) ([116,111,112]) ([[76,73,83,84],[108,105,115,116],[76,65,83,84],[108,105,115,116]])) fun r9 =>
 q04 (q2u n ([105,110,100,101,120]) ([116,111,112]) []) fun r11 =>
 q04 (q2u n ([104,97,110,100,108,101]) ([105,110,100,101,120]) []) fun r13 =>
 q04 (q2u n ([101,118,101,110,116]) ([105,110,100,101,120]) []) fun r15 =>
 q04 (q2u n ([101,110,116,105,116,121]) ([105,110,100,101,120]) []) fun r17 =>
 q04 (q2u n ([114,101,108]) ([116,111,112]) ([[76,65,66,69,76],[104,97,110,100,108,101]])) fun r19 =>
 q04 (q2u n ([113,101,113]) ([116,111,112]) ([[72,73,71,72],[104,97,110,100,108,101],[76,79,87],[104,97,110,100,108,101]])) fun r21 =>
 q04 (q2u n ([115,101,109]) ([116,111,112]) ([[84,79,80],[104,97,110,100,108,101],[73,78,68,69,88],[105,110,100,101,120],[82,69,76,83],[100,108,105,115,116],[67,79,78,83],[100,108,105,115,116]])) fun r23 =>
 q04 (q2u n ([115,105,103,110]) ([116,111,112]) ([[83,69,77],[115,101,109],[65,82,71,83],[108,105,115,116]])) fun r25 =>
 some ([r1,r3,r5,r7,r9,r11,r13,r15,r17,r19,r21,r23,r25])
theorem qmw (n:Nat)  (r:(List q06)) (hF:qed n  = some r):EvU Tryz.prog 60 [] ⟨[],0⟩ (fun u _=>u = .isl false (List.map q02 r)∧Bel 0 u):=by
 unfold qed at hF
 refine bg0 21 fn60 ?_
 obtain ⟨r1,h2,hF⟩:=q00 hF
 obtain ⟨r3,h4,hF⟩:=q00 hF
 obtain ⟨r5,h6,hF⟩:=q00 hF
 obtain ⟨r7,h8,hF⟩:=q00 hF
 obtain ⟨r9,h10,hF⟩:=q00 hF
 obtain ⟨r11,h12,hF⟩:=q00 hF
 obtain ⟨r13,h14,hF⟩:=q00 hF
 obtain ⟨r15,h16,hF⟩:=q00 hF
 obtain ⟨r17,h18,hF⟩:=q00 hF
 obtain ⟨r19,h20,hF⟩:=q00 hF
 obtain ⟨r21,h22,hF⟩:=q00 hF
 obtain ⟨r23,h24,hF⟩:=q00 hF
 obtain ⟨r25,h26,hF⟩:=q00 hF
 refine go ?_
 refine RS.cl rfl (z4q (args':=[.str ([116,111,112]),.str [],.isl false []]) (.cons (.refl _) (.cons (.refl _) (.cons (.nil false) .nil))) (pC (q2f n ([116,111,112]) [] [] r1 h2)) _) fn82 (RS.cl rfl (z4q (args':=[.str ([108,105,115,116]),.str ([116,111,112]),.isl false []]) (.cons (.refl _) (.cons (.refl _) (.cons (.nil false) .nil))) (pC (q2f n ([108,105,115,116]) ([116,111,112]) [] r3 h4)) _) fn82 (RS.q (u:=.sl 0 0 4 4) (σ':=⟨[(0,.row [.str ([70,73,82,83,84]),.str ([116,111,112]),.str ([82,69,83,84]),.str ([108,105,115,116])] 9)],1⟩) rfl (q0j und80 inf9 rfl rfl rfl rfl rfl rfl rfl) ?_))
 refine z4o rfl (z4j 0 1) (pC (q2f n ([99,111,110,115]) ([108,105,115,116]) ([[70,73,82,83,84],[116,111,112],[82,69,83,84],[108,105,115,116]]) r5 h6) _) fn82 ?_
 refine RS.cl rfl (z4q (args':=[.str ([110,117,108,108]),.str ([108,105,115,116]),.isl false []]) (.cons (.refl _) (.cons (.refl _) (.cons (.nil false) .nil))) (pC (q2f n ([110,117,108,108]) ([108,105,115,116]) [] r7 h8)) _) fn82 (RS.q (u:=.sl 1 0 4 4) (σ':=⟨[(1,.row [.str ([76,73,83,84]),.str ([108,105,115,116]),.str ([76,65,83,84]),.str ([108,105,115,116])] 9)],2⟩) rfl (q0j und80 inf9 rfl rfl rfl rfl rfl rfl rfl) ?_)
 refine z4o rfl (z4j 1 1) (pC (q2f n ([100,108,105,115,116]) ([116,111,112]) ([[76,73,83,84],[108,105,115,116],[76,65,83,84],[108,105,115,116]]) r9 h10) _) fn82 ?_
 refine RS.cl rfl (z4q (args':=[.str ([105,110,100,101,120]),.str ([116,111,112]),.isl false []]) (.cons (.refl _) (.cons (.refl _) (.cons (.nil false) .nil))) (pC (q2f n ([105,110,100,101,120]) ([116,111,112]) [] r11 h12)) _) fn82 (RS.cl rfl (z4q (args':=[.str ([104,97,110,100,108,101]),.str ([105,110,100,101,120]),.isl false []]) (.cons (.refl _) (.cons (.refl _) (.cons (.nil false) .nil))) (pC (q2f n ([104,97,110,100,108,101]) ([105,110,100,101,120]) [] r13 h14)) _) fn82 (RS.cl rfl (z4q (args':=[.str ([101,118,101,110,116]),.str ([105,110,100,101,120]),.isl false []]) (.cons (.refl _) (.cons (.refl _) (.cons (.nil false) .nil))) (pC (q2f n ([101,118,101,110,116]) ([105,110,100,101,120]) [] r15 h16)) _) fn82 (RS.cl rfl (z4q (args':=[.str ([101,110,116,105,116,121]),.str ([105,110,100,101,120]),.isl false []]) (.cons (.refl _) (.cons (.refl _) (.cons (.nil false) .nil))) (pC (q2f n ([101,110,116,105,116,121]) ([105,110,100,101,120]) [] r17 h18)) _) fn82 (RS.q (u:=.sl 2 0 2 2) (σ':=⟨[(2,.row [.str ([76,65,66,69,76]),.str ([104,97,110,100,108,101])] 9)],3⟩) rfl (q0j und80 inf9 rfl rfl rfl rfl rfl rfl rfl) ?_))))
 refine z4o rfl (z4j 2 1) (pC (q2f n ([114,101,108]) ([116,111,112]) ([[76,65,66,69,76],[104,97,110,100,108,101]]) r19 h20) _) fn82 ?_
 refine RS.q (u:=.sl 3 0 4 4) (σ':=⟨[(3,.row [.str ([72,73,71,72]),.str ([104,97,110,100,108,101]),.str ([76,79,87]),.str ([104,97,110,100,108,101])] 9)],4⟩) rfl (q0j und80 inf9 rfl rfl rfl rfl rfl rfl rfl) ?_
 refine z4o rfl (z4j 3 1) (pC (q2f n ([113,101,113]) ([116,111,112]) ([[72,73,71,72],[104,97,110,100,108,101],[76,79,87],[104,97,110,100,108,101]]) r21 h22) _) fn82 ?_
 refine RS.q (u:=.sl 4 0 8 8) (σ':=⟨[(4,.row [.str ([84,79,80]),.str ([104,97,110,100,108,101]),.str ([73,78,68,69,88]),.str ([105,110,100,101,120]),.str ([82,69,76,83]),.str ([100,108,105,115,116]),.str ([67,79,78,83]),.str ([100,108,105,115,116])] 9)],5⟩) rfl (q0j und80 inf9 rfl rfl rfl rfl rfl rfl rfl) ?_
 refine z4o rfl (z4j 4 1) (pC (q2f n ([115,101,109]) ([116,111,112]) ([[84,79,80],[104,97,110,100,108,101],[73,78,68,69,88],[105,110,100,101,120],[82,69,76,83],[100,108,105,115,116],[67,79,78,83],[100,108,105,115,116]]) r23 h24) _) fn82 ?_
 refine RS.q (u:=.sl 5 0 4 4) (σ':=⟨[(5,.row [.str ([83,69,77]),.str ([115,101,109]),.str ([65,82,71,83]),.str ([108,105,115,116])] 9)],6⟩) rfl (q0j und80 inf9 rfl rfl rfl rfl rfl rfl rfl) ?_
 refine z4o rfl (z4j 5 1) (pC (q2f n ([115,105,103,110]) ([116,111,112]) ([[83,69,77],[115,101,109],[65,82,71,83],[108,105,115,116]]) r25 h26) _) fn82 ?_
 refine RS.q (u:=.sl 6 0 13 13) (σ':=⟨[(6,.row [.str r1.Name,.iM cS r1.Supers,.iM q0e r1.Feats,.str r3.Name,.iM cS r3.Supers,.iM q0e r3.Feats,.str r5.Name,.iM cS r5.Supers,.iM q0e r5.Feats,.str r7.Name,.iM cS r7.Supers,.iM q0e r7.Feats,.str r9.Name,.iM cS r9.Supers,.iM q0e r9.Feats,.str r11.Name,.iM cS r11.Supers,.iM q0e r11.Feats,.str r13.Name,.iM cS r13.Supers,.iM q0e r13.Feats,.str r15.Name,.iM cS r15.Supers,.iM q0e r15.Feats,.str r17.Name,.iM cS r17.Supers,.iM q0e r17.Feats,.str r19.Name,.iM cS r19.Supers,.iM q0e r19.Feats,.str r21.Name,.iM cS r21.Supers,.iM q0e r21.Feats,.str r23.Name,.iM cS r23.Supers,.iM q0e r23.Feats,.str r25.Name,.iM cS r25.Supers,.iM q0e r25.Feats] 127)],7⟩) rfl (q0j und38 inf127 rfl rfl rfl rfl rfl rfl rfl) ?_
 refine go ?_
 obtain rfl:=sI hF
 exact rT (us:=[.sl 6 0 13 13]) (u:=.iM q02 ([r1,r3,r5,r7,r9,r11,r13,r15,r17,r19,r21,r23,r25])) (q2o rfl (q2g)) (fR 6 3)
def qd7 (n:Nat)  : Option (q1a) :=
 q04 (qed n) fun r1 =>
 q04 (qec n r1) fun r3 =>
 some (q1a.mk r3.1.Types r3.1.Feats)
theorem qmd (n:Nat)  (r:q1a) (hF:qd7 n  = some r):EvU Tryz.prog 31 [] ⟨[],0⟩ (fun u _=>u = .agg (q07 r)∧Bel 0 u):=by
 unfold qd7 at hF
 refine bg0 9 fn31 ?_
 refine go ?_
 refine RS.q (u:=.ptr 0 0 0) (σ':=⟨[(0,.row [.nils,.nils] 43)],1⟩) rfl (q0v inf43 rfl rfl) ?_
 obtain ⟨r1,h2,hF⟩:=q00 hF
 obtain ⟨r3,h4,hF⟩:=q00 hF
 refine go ?_
 refine RS.cl rfl (pC (qmw n r1 h2) _) fn60 (RS.cl rfl (pC (qmv n r1 r3 h4) _) fn51 ?_)
 refine go ?_
 refine RS.q (u:=.ptr 1 0 0) (σ':=⟨[(1,.row [.nils,.nils] 43),(0,.row [.nils,.nils] 43)],2⟩) rfl (q0v inf43 rfl rfl) ?_
 refine z4k (u:=.junk) (σ':=⟨[(1,.row (q07 r3.1) 43),(0,.row [.nils,.nils] 43)],2⟩) rfl (q0l (q03 inf43) rfl rfl rfl rfl rfl rfl rfl rfl) rfl ?_
 refine go ?_
 refine RS.q (u:=.agg (q07 r3.1)) rfl (q0p und43 rfl (q03 inf43) rfl rfl rfl) ?_
 refine z4k (u:=.junk) (σ':=⟨[(1,.row (q07 r3.1) 43),(0,.row (q07 r3.1) 43)],2⟩) rfl (q0l (q03 inf43) rfl rfl rfl rfl rfl rfl rfl rfl) rfl ?_
 refine go ?_
 obtain rfl:=sI hF
 exact rT (qei (q0p und43 rfl (q03 inf43) rfl rfl rfl) (q2g)) (z4p _ rfl)
def qic (n:Nat) (p1:List q0n):Option (GFS) :=
 some (GFS.mk p1)
theorem q6n (n:Nat) (p1:List q0n) (r:GFS) (hF:qic n p1=some r):EvU Tryz.prog 43 [.isl false (List.map q01 p1)] ⟨[],0⟩ (fun u _=>u = .agg [.isl false (List.map q01 r.Nodes)]∧Bel 0 u):=by
 unfold qic at hF
 refine bg1 5 fn43 ?_
 refine go ?_
 refine RS.q (u:=.ptr 0 0 0) (σ':=⟨[(0,.row [.nils] 24)],1⟩) rfl (q0v inf24 rfl rfl) ?_
 refine go ?_
 refine RS.q (u:=.agg [.iM q01 p1]) rfl (q3l bd24 rfl rfl rfl) ?_
 refine z4k (u:=.junk) (σ':=⟨[(0,.row [.iM q01 p1] 24)],1⟩) rfl (q0l (q03 inf24) rfl rfl rfl rfl rfl rfl rfl rfl) rfl ?_
 refine go ?_
 obtain rfl:=sI hF
 exact rT (qei (q0p und24 rfl (q03 inf24) rfl rfl rfl) (q2g)) (z4p _ rfl)
def qd6 (p1:Int) (l12:List q0s):Option (q0n) :=
 some (q0n.mk p1 l12)
def q9p (p1:Int) (p2:List Int):Nat→Int→(List q0s)→Option (q0n)
 | 0,_,_=>none
 | m1+1,z9,l10 =>
  cond (decide ((IntKind.i64.wrap (z9+1))<(p2.length:Int)))
   (q04 (q15 p2 z9) fun x15 =>
   q04 (q15 p2 (IntKind.i64.wrap (z9+1))) fun x17 =>
   q1i ((l10.length+1)*16≤140737488355328∧l10.length+1≤140737488355328) (
   (q9p p1 p2 m1) (IntKind.i64.wrap (z9+2)) (l10++[(q0s.mk x15 x17)])))
   (qd6 p1 l10)
def q5g (n:Nat) (p1:Int) (p2:List Int):Option (q0n) :=
 q9p p1 p2 n 0 ([]:List q0s)
theorem q14 (n:Nat) (p1:Int) (p2:List Int) (r:q0n) (hF:q5g n p1 p2=some r):EvU Tryz.prog 44 [.int .i64 p1,.isl false (List.map (cI .i64) p2)] ⟨[],0⟩ (fun u _=>u = .agg (q01 r)∧Bel 0 u):=by
 unfold q5g at hF
 refine bg2 32 fn44 ?_
 refine go ?_
 refine RS.q (u:=.ptr 0 0 0) (σ':=⟨[(0,.row [.i6 0,.nils] 54)],1⟩) rfl (q0v inf54 rfl rfl) ?_
 refine go ?_
 refine RS.q (u:=.agg [.i6 p1,.nils]) rfl (q3l bd54 rfl rfl rfl) (RS.q (u:=.ptr 1 0 0) (σ':=⟨[(1,.row [.i6 0,.nils] 54),(0,.row [.i6 0,.nils] 54)],2⟩) rfl (q0v inf54 rfl rfl) ?_)
 refine z4k (u:=.junk) (σ':=⟨[(1,.row [.i6 p1,.nils] 54),(0,.row [.i6 0,.nils] 54)],2⟩) rfl (q0l (q03 inf54) rfl rfl rfl rfl rfl rfl rfl rfl) rfl ?_
 refine gr ?_
 refine WPU.ghost (tm':=fr 32 [(1,.iM (cI .i64) p2),(4,.ptr 0 0 0),(5,.ptr 1 0 0),(6,.i6 0)]) (σ':=⟨[(2,.vec (List.map q05 ([]:List q0s)).flatten 66 2 0),(1,.row [.i6 p1,.vl 2 0 0 (([]:List q0s).length)] 54),(0,.row [.i6 0,.nils] 54)],3⟩) (Gh.trans (z4u 1 1 66 2 (by decide) NZ rfl rfl) (z4l ⟨rfl,rfl,rfl,rfl,trivial⟩ rfl)) NZ ?_
 refine gS (l':=[(1,_),(4,_),(5,_),(6,_)]) ?_
 refine z4g (fun m tm σ=>∃ z9:Int,∃ l10:List q0s,∃ t11:Nat,q9p p1 p2 m z9 l10=some r∧tm=fr 32 [(1,.iM (cI .i64) p2),(4,.ptr 0 0 0),(5,.ptr 1 0 0),(6,.i6 z9)]∧σ=⟨[(2,.vec (List.map q05 l10).flatten 66 2 t11),(1,.row [.i6 p1,.vl 2 t11 0 l10.length] 54),(0,.row [.i6 0,.nils] 54)],3⟩) (fun tm σ=>∃ l12:List q0s,∃ t13:Nat,qd6 p1 l12=some r∧tm=fr 32 [(4,.ptr 0 0 0),(5,.ptr 1 0 0)]∧σ=⟨[(2,.vec (List.map q05 l12).flatten 66 2 t13),(1,.row [.i6 p1,.vl 2 t13 0 l12.length] 54),(0,.row [.i6 0,.nils] 54)],3⟩) n ⟨0,([]:List q0s),0,hF,rfl,rfl⟩ ?_ ?_
 rintro _ _ ⟨l12,t13,hF,rfl,rfl⟩
 unfold qd6 at hF
 refine go ?_
 refine RS.q (u:=.agg [.i6 p1,.vl 2 t13 0 l12.length]) rfl (q0p und54 rfl (q03 inf54) rfl rfl rfl) ?_
 refine z4k (u:=.junk) (σ':=⟨[(2,.vec (List.map q05 l12).flatten 66 2 t13),(1,.row [.i6 p1,.vl 2 t13 0 l12.length] 54),(0,.row [.i6 p1,.vl 2 t13 0 l12.length] 54)],3⟩) rfl (q0l (q03 inf54) rfl rfl rfl rfl rfl rfl rfl rfl) rfl ?_
 refine go ?_
 obtain rfl:=sI hF
 exact rT (us:=[.agg [.i6 p1,.vl 2 t13 0 l12.length]]) (u:=.agg [.i6 p1,.iM q05 l12]) (qei (q0p und54 rfl (q03 inf54) rfl rfl rfl) (q2g)) (fR 2 2)
 rintro (_|m1) _ _ ⟨z9,l10,t11,hF,rfl,rfl⟩
 cases hF
 unfold q9p at hF
 refine go ?_
 refine RS.q rfl (q0c rfl rfl rfl (q08 (cI .i64) und33)) ?_
 refine go ?_
 refine cF hF (fun h14 hF=>?_) (fun h14 hF=>?_)
 refine go ?_
 refine WPU.block ?_
 obtain ⟨x15,h16,hF⟩:=q00 hF
 obtain ⟨x17,h18,hF⟩:=q00 hF
 obtain ⟨h19,hF⟩:=q0b hF
 refine go ?_
 refine z4i Tryz.tb_ok [(0,12),(1,12)] (by kernel_rfl) ?_
 refine RD.q rfl (q0w und54 rfl (q03 inf52) rfl rfl rfl) (RD.q rfl (q0i und52 rfl rfl rfl rfl) ?_)
 repeat refine RD.mv rfl rfl rfl rfl ?_
 refine RD.q rfl (q0f rfl rfl (q0a (cI .i64) und33 (q03 inf3) (q18 .i64) h16 rfl)) (RD.q rfl (q0d und3 rfl rfl rfl) ?_)
 repeat refine RD.mv rfl rfl rfl rfl ?_
 refine RD.q rfl (q3b rfl rfl (qtt _ _ _) rfl) (RD.q rfl (q0f rfl rfl (q0a (cI .i64) und33 (q03 inf3) (q18 .i64) h18 rfl)) (RD.q rfl (q0d und3 rfl rfl rfl) (RD.q (u:=.agg [.i6 x15,.i6 x17]) rfl (q3l bd66 rfl rfl rfl) (RD.act (u:=.sl 3 0 1 1) (σ':=⟨[(3,.row [.i6 x15,.i6 x17] 66),(2,.vec (List.map q05 l10).flatten 66 2 t11),(1,.row [.i6 p1,.vl 2 t11 0 l10.length] 54),(0,.row [.i6 0,.nils] 54)],4⟩) rfl (q0j und52 inf66 rfl rfl rfl rfl rfl rfl rfl) rfl rfl (RD.act (u:=.vl 2 (t11+1) 0 ((l10++[(q0s.mk x15 x17)]).length)) (σ':=⟨[(3,.row [.i6 x15,.i6 x17] 66),(2,.vec (List.map q05 (l10++[(q0s.mk x15 x17)])).flatten 66 2 (t11+1)),(1,.row [.i6 p1,.vl 2 t11 0 l10.length] 54),(0,.row [.i6 0,.nils] 54)],4⟩) rfl (q1u rfl rfl rfl rfl (q2a q05 ([(q0s.mk x15 x17)]) und52 und52 inf66 rfl q0k rfl (q1q q05 [(q0s.mk x15 x17)] rfl rfl rfl rfl) h19)) rfl rfl (RD.q rfl (q0w und54 rfl (q03 inf52) rfl rfl rfl) ?_))))))
 refine z4t (u:=.junk) (σ':=⟨[(3,.row [.i6 x15,.i6 x17] 66),(2,.vec (List.map q05 (l10++[(q0s.mk x15 x17)])).flatten 66 2 (t11+1)),(1,.row [.i6 p1,.vl 2 (t11+1) 0 ((l10++[(q0s.mk x15 x17)]).length)] 54),(0,.row [.i6 0,.nils] 54)],4⟩) rfl (q0l (q03 inf52) rfl rfl rfl rfl rfl rfl rfl rfl) rfl ?_
 refine RD.done ⟨by kernel_rfl,⟨q0w und54 rfl (q03 inf52) rfl rfl rfl,⟨q0i und52 rfl rfl rfl rfl,trivial⟩⟩,?_⟩
 refine go ?_
 exact lC ⟨_,(l10++[(q0s.mk x15 x17)]),(t11+1),hF,rfl,rfl⟩
 refine go ?_
 exact xC ⟨l10,t11,hF,rfl,rfl⟩
def qk3 (n:Nat) (p1:Int):Option (GFS) :=
 some (GFS.mk ([(q0n.mk p1 [])]))
theorem q6u (n:Nat) (p1:Int) (r:GFS) (hF:qk3 n p1=some r):EvU Tryz.prog 45 [.int .i64 p1] ⟨[],0⟩ (fun u _=>u = .agg [.isl false (List.map q01 r.Nodes)]∧Bel 0 u):=by
 unfold qk3 at hF
 refine bg1 7 fn45 ?_
 refine go ?_
 refine RS.q (u:=.ptr 0 0 0) (σ':=⟨[(0,.row [.nils] 24)],1⟩) rfl (q0v inf24 rfl rfl) ?_
 refine go ?_
 refine RS.q (u:=.agg [.i6 p1,.nils]) rfl (q3l bd54 rfl rfl rfl) (RS.q (u:=.sl 1 0 1 1) (σ':=⟨[(1,.row [.i6 p1,.nils] 54),(0,.row [.nils] 24)],2⟩) rfl (q0j und22 inf54 rfl rfl rfl rfl rfl rfl rfl) (RS.q (u:=.agg [.sl 1 0 1 1]) rfl (q3l bd24 rfl rfl rfl) ?_))
 refine z4k (u:=.junk) (σ':=⟨[(1,.row [.i6 p1,.nils] 54),(0,.row [.sl 1 0 1 1] 24)],2⟩) rfl (q0l (q03 inf24) rfl rfl rfl rfl rfl rfl rfl rfl) rfl ?_
 refine go ?_
 obtain rfl:=sI hF
 exact ⟨.inr rfl,[.agg [.sl 1 0 1 1]],qei (q0p und24 rfl (q03 inf24) rfl rfl rfl) (q2g),.agg [.iM q01 ([(q0n.mk p1 [])])],⟨[],0⟩,Nat.le_refl _,Gh.trans (Gh.trans (z59 1) (z4j 1 2)) (z4p (.agg [.iM q01 ([(q0n.mk p1 [])])]) rfl),rfl,BU.h⟩
def q2z (n:Nat)  : Option (Bool) :=
 q04 (q5g n 1 ([0,1,1,2])) fun r1 =>
 q04 (q5g n 3 ([0,2])) fun r3 =>
 q04 (q5g n 2 []) fun r5 =>
 q04 (qic n ([r1,r3,r5])) fun r7 =>
 q04 (q04 (qg0 n r7) fun r9 =>
 q04 (qap n r9 ([[],[0],[1]])) fun r11 =>
 cond (!r11)
  (some true)
  (q04 (qdm n r7) fun r14 =>
  q04 (q6g n r14 ([(q0q.mk ([1]) ([0,0]))])) fun r16 =>
  cond (!r16)
   (some true)
   (q04 (q5g n 1 ([5,0])) fun r19 =>
   q04 (qic n ([r19])) fun r21 =>
   q04 (qdm n r21) fun r23 =>
   q04 (q6g n r23 ([(q0q.mk [] ([5]))])) fun r25 =>
   some (!r25)))) fun b27 =>
 cond b27
  (some false)
  (q04 (qct n r7 ([0,0])) fun r30 =>
  q04 (qh5 n r7 ([0,1])) fun r32 =>
  q04 (qd7 n) fun r34 =>
  q04 (qcs n r34 ([82,69,83,84,46,70,73,82,83,84])) fun r36 =>
  q04 (qcs n r34 ([70,46])) fun r38 =>
  q04 (qcs n r34 ([70,73,82,83,84,46,71])) fun r40 =>
  q04 (cond (r30.1 == 2)
   (cond r30.2
    (cond (!r32.2)
     (q04 (qk3 n 7) fun r45 =>
     q04 (qju n ([3,4]) r45) fun r47 =>
     q04 (q5g n 0 ([3,1])) fun r49 =>
     q04 (q5g n 0 ([4,2])) fun r51 =>
     q04 (q5g n 7 []) fun r53 =>
     q04 (qic n ([r49,r51,r53])) fun r55 =>
     q04 (q6k n r47 r55) fun r57 =>
     cond r57
      (cond (r36.2 == 0)
       (q04 (q89 n r36.1 ([10,2])) fun r61 =>
       cond r61
        (q04 (qjt n r34 r36.1) fun r64 =>
        cond (q1x r64 ([82,69,83,84,46,70,73,82,83,84]))
         (cond (r38.2 == 8)
          (some (r40.2 == 5))
          (some false))
         (some false))
        (some false))
       (some false))
      (some false))
     (some false))
    (some false))
   (some false)) fun b68 =>
  some b68)
theorem q9l (n:Nat)  (r:Bool) (hF:q2z n  = some r):EvU Tryz.prog 13 [] ⟨[],0⟩ (fun u _=>u = .bool r∧Bel 0 u):=by
 unfold q2z at hF
 refine bg0 122 fn13 ?_
 obtain ⟨r1,h2,hF⟩:=q00 hF
 obtain ⟨r3,h4,hF⟩:=q00 hF
 obtain ⟨r5,h6,hF⟩:=q00 hF
 obtain ⟨r7,h8,hF⟩:=q00 hF
 refine go ?_
 refine RS.q (u:=.sl 0 0 4 4) (σ':=⟨[(0,.row [.i6 0,.i6 1,.i6 1,.i6 2] 3)],1⟩) rfl (q0j und33 inf3 rfl rfl rfl rfl rfl rfl rfl) ?_
 refine z4o rfl (z4j 0 1) (pC (q14 n 1 ([0,1,1,2]) r1 h2) _) fn44 ?_
 refine RS.q (u:=.sl 1 0 2 2) (σ':=⟨[(1,.row [.i6 0,.i6 2] 3)],2⟩) rfl (q0j und33 inf3 rfl rfl rfl rfl rfl rfl rfl) ?_
 refine z4o rfl (z4j 1 1) (pC (q14 n 3 ([0,2]) r3 h4) _) fn44 ?_
 refine RS.cl rfl (z4q (args':=[.i6 2,.isl false []]) (.cons (.refl _) (.cons (.nil false) .nil)) (pC (q14 n 2 [] r5 h6)) _) fn44 (RS.q (u:=.sl 2 0 3 3) (σ':=⟨[(2,.row [.i6 r1.Typex,.iM q05 r1.Arcs,.i6 r3.Typex,.iM q05 r3.Arcs,.i6 r5.Typex,.iM q05 r5.Arcs] 54)],3⟩) rfl (q0j und22 inf54 rfl rfl rfl rfl rfl rfl rfl) ?_)
 refine z4o rfl (z4j 2 2) (pC (q6n n ([r1,r3,r5]) r7 h8) _) fn43 ?_
 refine RS.q (u:=.ptr 3 0 0) (σ':=⟨[(3,.row [.nils] 24)],4⟩) rfl (q0v inf24 rfl rfl) ?_
 refine z4k (u:=.junk) (σ':=⟨[(3,.row [.iM q01 r7.Nodes] 24)],4⟩) rfl (q0l (q03 inf24) rfl rfl rfl rfl rfl rfl rfl rfl) rfl ?_
 obtain ⟨b27,h28,hF⟩:=q00 hF
 refine gn ?_
 refine z4h (fun tm σ=>tm=fr 122 [(1,.ptr 3 0 0),(48,.bool b27)]∧σ=⟨[(6,.row [.nils,.sl 4 0 1 1,.sl 5 0 1 1] 33),(5,.row [.i6 1] 3),(4,.row [.i6 0] 3),(3,.row [.iM q01 r7.Nodes] 24)],7⟩) ?_ ?_
 rintro _ _ ⟨rfl,rfl⟩
 refine go ?_
 refine cF hF (fun h29 hF=>?_) (fun h29 hF=>?_)
 exact gx hF
 obtain ⟨r30,h31,hF⟩:=q00 hF
 refine go ?_
 refine RS.q (u:=.agg [.iM q01 r7.Nodes]) rfl (q0p und24 rfl (q03 inf24) rfl rfl rfl) (RS.q (u:=.sl 7 0 2 2) (σ':=⟨[(7,.row [.i6 0,.i6 0] 3),(6,.row [.nils,.sl 4 0 1 1,.sl 5 0 1 1] 33),(5,.row [.i6 1] 3),(4,.row [.i6 0] 3),(3,.row [.iM q01 r7.Nodes] 24)],8⟩) rfl (q0j und33 inf3 rfl rfl rfl rfl rfl rfl rfl) ?_)
 refine RS.cl rfl (EvU.viewT (qmq n r7 ([0,0]) r30 h31) BUL.h (by simp only [toV,qon,okL,okC,cond_true]<;>rfl) (fun m=>by simp [ren,q12]) (z4j 7 1)) fn36 ?_
 obtain ⟨r32,h33,hF⟩:=q00 hF
 refine go ?_
 refine RS.q (u:=.agg [.iM q01 r7.Nodes]) rfl (q0p und24 rfl (q03 inf24) rfl rfl rfl) (RS.q (u:=.sl 8 0 2 2) (σ':=⟨[(8,.row [.i6 0,.i6 1] 3),(7,.row [.i6 0,.i6 0] 3),(6,.row [.nils,.sl 4 0 1 1,.sl 5 0 1 1] 33),(5,.row [.i6 1] 3),(4,.row [.i6 0] 3),(3,.row [.iM q01 r7.Nodes] 24)],9⟩) rfl (q0j und33 inf3 rfl rfl rfl rfl rfl rfl rfl) ?_)
 refine RS.cl rfl (EvU.viewT (qim n r7 ([0,1]) r32 h33) BUL.h (by simp only [toV,qon,okL,okC,cond_true]<;>rfl) (fun m=>by simp [ren,q12]) (z4j 8 1)) fn30 ?_
 obtain ⟨r34,h35,hF⟩:=q00 hF
 refine go ?_
 refine RS.cl rfl (pC (qmd n r34 h35) _) fn31 (RS.q (u:=.ptr 9 0 0) (σ':=⟨[(9,.row [.nils,.nils] 43),(8,.row [.i6 0,.i6 1] 3),(7,.row [.i6 0,.i6 0] 3),(6,.row [.nils,.sl 4 0 1 1,.sl 5 0 1 1] 33),(5,.row [.i6 1] 3),(4,.row [.i6 0] 3),(3,.row [.iM q01 r7.Nodes] 24)],10⟩) rfl (q0v inf43 rfl rfl) ?_)
 refine z4k (u:=.junk) (σ':=⟨[(9,.row (q07 r34) 43),(8,.row [.i6 0,.i6 1] 3),(7,.row [.i6 0,.i6 0] 3),(6,.row [.nils,.sl 4 0 1 1,.sl 5 0 1 1] 33),(5,.row [.i6 1] 3),(4,.row [.i6 0] 3),(3,.row [.iM q01 r7.Nodes] 24)],10⟩) rfl (q0l (q03 inf43) rfl rfl rfl rfl rfl rfl rfl rfl) rfl ?_
 obtain ⟨r36,h37,hF⟩:=q00 hF
 refine go ?_
 refine RS.q (u:=.agg (q07 r34)) rfl (q0p und43 rfl (q03 inf43) rfl rfl rfl) (RS.cl rfl (pC (qf7 n r34 ([82,69,83,84,46,70,73,82,83,84]) r36 h37) _) fn26 ?_)
 obtain ⟨r38,h39,hF⟩:=q00 hF
 refine go ?_
 refine RS.q (u:=.agg (q07 r34)) rfl (q0p und43 rfl (q03 inf43) rfl rfl rfl) (RS.cl rfl (pC (qf7 n r34 ([70,46]) r38 h39) _) fn26 ?_)
 obtain ⟨r40,h41,hF⟩:=q00 hF
 refine go ?_
 refine RS.q (u:=.agg (q07 r34)) rfl (q0p und43 rfl (q03 inf43) rfl rfl rfl) (RS.cl rfl (pC (qf7 n r34 ([70,73,82,83,84,46,71]) r40 h41) _) fn26 ?_)
 obtain ⟨b68,h69,hF⟩:=q00 hF
 refine gn ?_
 refine z4h (fun tm σ=>tm=fr 122 [(0,.bool b68)]∧σ=⟨[(9,.row (q07 r34) 43),(8,.row [.i6 0,.i6 1] 3),(7,.row [.i6 0,.i6 0] 3),(6,.row [.nils,.sl 4 0 1 1,.sl 5 0 1 1] 33),(5,.row [.i6 1] 3),(4,.row [.i6 0] 3),(3,.row [.iM q01 r7.Nodes] 24)],10⟩) ?_ ?_
 rintro _ _ ⟨rfl,rfl⟩
 exact gx hF
 rcases gB h69 with ⟨h42,h69⟩ | ⟨h42,h69⟩
 rcases gB h69 with ⟨h43,h69⟩ | ⟨h43,h69⟩
 rcases gB h69 with ⟨h44,h69⟩ | ⟨h44,h69⟩
 obtain ⟨r45,h46,h69⟩:=q00 h69
 obtain ⟨r47,h48,h69⟩:=q00 h69
 obtain ⟨r49,h50,h69⟩:=q00 h69
 obtain ⟨r51,h52,h69⟩:=q00 h69
 obtain ⟨r53,h54,h69⟩:=q00 h69
 obtain ⟨r55,h56,h69⟩:=q00 h69
 obtain ⟨r57,h58,h69⟩:=q00 h69
 rcases gB h69 with ⟨h59,h69⟩ | ⟨h59,h69⟩
 rcases gB h69 with ⟨h60,h69⟩ | ⟨h60,h69⟩
 obtain ⟨r61,h62,h69⟩:=q00 h69
 rcases gB h69 with ⟨h63,h69⟩ | ⟨h63,h69⟩
 obtain ⟨r64,h65,h69⟩:=q00 h69
 rcases gB h69 with ⟨h66,h69⟩ | ⟨h66,h69⟩
 rcases gB h69 with ⟨h67,h69⟩ | ⟨h67,h69⟩
 obtain rfl:=sI h69
 refine go ?_
 refine RS.w (u:=.sl 10 0 2 2) (σ':=⟨[(10,.row [.i6 3,.i6 4] 3),(9,.row (q07 r34) 43),(8,.row [.i6 0,.i6 1] 3),(7,.row [.i6 0,.i6 0] 3),(6,.row [.nils,.sl 4 0 1 1,.sl 5 0 1 1] 33),(5,.row [.i6 1] 3),(4,.row [.i6 0] 3),(3,.row [.iM q01 r7.Nodes] 24)],11⟩) rfl (q0j und33 inf3 rfl rfl rfl rfl rfl rfl rfl) (RS.cl rfl (pC (q6u n 7 r45 h46) _) fn45 ?_)
 refine z4o rfl (z4j 10 1) (pC (q6p n ([3,4]) r45 r47 h48) _) fn22 ?_
 refine RS.w (u:=.sl 11 0 2 2) (σ':=⟨[(11,.row [.i6 3,.i6 1] 3),(9,.row (q07 r34) 43),(8,.row [.i6 0,.i6 1] 3),(7,.row [.i6 0,.i6 0] 3),(6,.row [.nils,.sl 4 0 1 1,.sl 5 0 1 1] 33),(5,.row [.i6 1] 3),(4,.row [.i6 0] 3),(3,.row [.iM q01 r7.Nodes] 24)],12⟩) rfl (q0j und33 inf3 rfl rfl rfl rfl rfl rfl rfl) ?_
 refine z4o rfl (z4j 11 1) (pC (q14 n 0 ([3,1]) r49 h50) _) fn44 ?_
 refine RS.w (u:=.sl 12 0 2 2) (σ':=⟨[(12,.row [.i6 4,.i6 2] 3),(9,.row (q07 r34) 43),(8,.row [.i6 0,.i6 1] 3),(7,.row [.i6 0,.i6 0] 3),(6,.row [.nils,.sl 4 0 1 1,.sl 5 0 1 1] 33),(5,.row [.i6 1] 3),(4,.row [.i6 0] 3),(3,.row [.iM q01 r7.Nodes] 24)],13⟩) rfl (q0j und33 inf3 rfl rfl rfl rfl rfl rfl rfl) ?_
 refine z4o rfl (z4j 12 1) (pC (q14 n 0 ([4,2]) r51 h52) _) fn44 ?_
 refine RS.cl rfl (z4q (args':=[.i6 7,.isl false []]) (.cons (.refl _) (.cons (.nil false) .nil)) (pC (q14 n 7 [] r53 h54)) _) fn44 (RS.w (u:=.sl 13 0 3 3) (σ':=⟨[(13,.row [.i6 r49.Typex,.iM q05 r49.Arcs,.i6 r51.Typex,.iM q05 r51.Arcs,.i6 r53.Typex,.iM q05 r53.Arcs] 54),(9,.row (q07 r34) 43),(8,.row [.i6 0,.i6 1] 3),(7,.row [.i6 0,.i6 0] 3),(6,.row [.nils,.sl 4 0 1 1,.sl 5 0 1 1] 33),(5,.row [.i6 1] 3),(4,.row [.i6 0] 3),(3,.row [.iM q01 r7.Nodes] 24)],14⟩) rfl (q0j und22 inf54 rfl rfl rfl rfl rfl rfl rfl) ?_)
 refine z4o rfl (z4j 13 2) (pC (q6n n ([r49,r51,r53]) r55 h56) _) fn43 ?_
 refine RS.cl rfl (pC (q28 n r47 r55 r57 h58) _) fn21 ?_
 refine go ?_
 refine RS.w (u:=.sl 14 0 2 2) (σ':=⟨[(14,.row [.i6 10,.i6 2] 3),(9,.row (q07 r34) 43),(8,.row [.i6 0,.i6 1] 3),(7,.row [.i6 0,.i6 0] 3),(6,.row [.nils,.sl 4 0 1 1,.sl 5 0 1 1] 33),(5,.row [.i6 1] 3),(4,.row [.i6 0] 3),(3,.row [.iM q01 r7.Nodes] 24)],15⟩) rfl (q0j und33 inf3 rfl rfl rfl rfl rfl rfl rfl) (RS.cl rfl (vw (q4i n r36.1 ([10,2]) r61 h62) (z4j 14 1)) fn28 ?_)
 refine go ?_
 refine RS.w (u:=.agg (q07 r34)) rfl (q0p und43 rfl (q03 inf43) rfl rfl rfl) ?_
 refine go ?_
 refine RS.cl rfl (pC (qf8 n r34 r36.1 r64 h65) _) fn25 (RS.w (u:=.bool (q1x r64 ([82,69,83,84,46,70,73,82,83,84]))) rfl (q9m rfl rfl rfl rfl) ?_)
 refine go ?_
 exact xC ⟨rfl,rfl⟩
 obtain rfl:=sI h69
 refine go ?_
 refine RS.w (u:=.sl 10 0 2 2) (σ':=⟨[(10,.row [.i6 3,.i6 4] 3),(9,.row (q07 r34) 43),(8,.row [.i6 0,.i6 1] 3),(7,.row [.i6 0,.i6 0] 3),(6,.row [.nils,.sl 4 0 1 1,.sl 5 0 1 1] 33),(5,.row [.i6 1] 3),(4,.row [.i6 0] 3),(3,.row [.iM q01 r7.Nodes] 24)],11⟩) rfl (q0j und33 inf3 rfl rfl rfl rfl rfl rfl rfl) (RS.cl rfl (pC (q6u n 7 r45 h46) _) fn45 ?_)
 refine z4o rfl (z4j 10 1) (pC (q6p n ([3,4]) r45 r47 h48) _) fn22 ?_
 refine RS.w (u:=.sl 11 0 2 2) (σ':=⟨[(11,.row [.i6 3,.i6 1] 3),(9,.row (q07 r34) 43),(8,.row [.i6 0,.i6 1] 3),(7,.row [.i6 0,.i6 0] 3),(6,.row [.nils,.sl 4 0 1 1,.sl 5 0 1 1] 33),(5,.row [.i6 1] 3),(4,.row [.i6 0] 3),(3,.row [.iM q01 r7.Nodes] 24)],12⟩) rfl (q0j und33 inf3 rfl rfl rfl rfl rfl rfl rfl) ?_
 refine z4o rfl (z4j 11 1) (pC (q14 n 0 ([3,1]) r49 h50) _) fn44 ?_
 refine RS.w (u:=.sl 12 0 2 2) (σ':=⟨[(12,.row [.i6 4,.i6 2] 3),(9,.row (q07 r34) 43),(8,.row [.i6 0,.i6 1] 3),(7,.row [.i6 0,.i6 0] 3),(6,.row [.nils,.sl 4 0 1 1,.sl 5 0 1 1] 33),(5,.row [.i6 1] 3),(4,.row [.i6 0] 3),(3,.row [.iM q01 r7.Nodes] 24)],13⟩) rfl (q0j und33 inf3 rfl rfl rfl rfl rfl rfl rfl) ?_
 refine z4o rfl (z4j 12 1) (pC (q14 n 0 ([4,2]) r51 h52) _) fn44 ?_
 refine RS.cl rfl (z4q (args':=[.i6 7,.isl false []]) (.cons (.refl _) (.cons (.nil false) .nil)) (pC (q14 n 7 [] r53 h54)) _) fn44 (RS.w (u:=.sl 13 0 3 3) (σ':=⟨[(13,.row [.i6 r49.Typex,.iM q05 r49.Arcs,.i6 r51.Typex,.iM q05 r51.Arcs,.i6 r53.Typex,.iM q05 r53.Arcs] 54),(9,.row (q07 r34) 43),(8,.row [.i6 0,.i6 1] 3),(7,.row [.i6 0,.i6 0] 3),(6,.row [.nils,.sl 4 0 1 1,.sl 5 0 1 1] 33),(5,.row [.i6 1] 3),(4,.row [.i6 0] 3),(3,.row [.iM q01 r7.Nodes] 24)],14⟩) rfl (q0j und22 inf54 rfl rfl rfl rfl rfl rfl rfl) ?_)
 refine z4o rfl (z4j 13 2) (pC (q6n n ([r49,r51,r53]) r55 h56) _) fn43 ?_
 refine RS.cl rfl (pC (q28 n r47 r55 r57 h58) _) fn21 ?_
 refine go ?_
 refine RS.w (u:=.sl 14 0 2 2) (σ':=⟨[(14,.row [.i6 10,.i6 2] 3),(9,.row (q07 r34) 43),(8,.row [.i6 0,.i6 1] 3),(7,.row [.i6 0,.i6 0] 3),(6,.row [.nils,.sl 4 0 1 1,.sl 5 0 1 1] 33),(5,.row [.i6 1] 3),(4,.row [.i6 0] 3),(3,.row [.iM q01 r7.Nodes] 24)],15⟩) rfl (q0j und33 inf3 rfl rfl rfl rfl rfl rfl rfl) (RS.cl rfl (vw (q4i n r36.1 ([10,2]) r61 h62) (z4j 14 1)) fn28 ?_)
 refine go ?_
 refine RS.w (u:=.agg (q07 r34)) rfl (q0p und43 rfl (q03 inf43) rfl rfl rfl) ?_
 refine go ?_
 refine RS.cl rfl (pC (qf8 n r34 r36.1 r64 h65) _) fn25 (RS.w (u:=.bool (q1x r64 ([82,69,83,84,46,70,73,82,83,84]))) rfl (q9m rfl rfl rfl rfl) ?_)
 refine go ?_
 exact xC ⟨rfl,rfl⟩
 obtain rfl:=sI h69
 refine go ?_
 refine RS.w (u:=.sl 10 0 2 2) (σ':=⟨[(10,.row [.i6 3,.i6 4] 3),(9,.row (q07 r34) 43),(8,.row [.i6 0,.i6 1] 3),(7,.row [.i6 0,.i6 0] 3),(6,.row [.nils,.sl 4 0 1 1,.sl 5 0 1 1] 33),(5,.row [.i6 1] 3),(4,.row [.i6 0] 3),(3,.row [.iM q01 r7.Nodes] 24)],11⟩) rfl (q0j und33 inf3 rfl rfl rfl rfl rfl rfl rfl) (RS.cl rfl (pC (q6u n 7 r45 h46) _) fn45 ?_)
 refine z4o rfl (z4j 10 1) (pC (q6p n ([3,4]) r45 r47 h48) _) fn22 ?_
 refine RS.w (u:=.sl 11 0 2 2) (σ':=⟨[(11,.row [.i6 3,.i6 1] 3),(9,.row (q07 r34) 43),(8,.row [.i6 0,.i6 1] 3),(7,.row [.i6 0,.i6 0] 3),(6,.row [.nils,.sl 4 0 1 1,.sl 5 0 1 1] 33),(5,.row [.i6 1] 3),(4,.row [.i6 0] 3),(3,.row [.iM q01 r7.Nodes] 24)],12⟩) rfl (q0j und33 inf3 rfl rfl rfl rfl rfl rfl rfl) ?_
 refine z4o rfl (z4j 11 1) (pC (q14 n 0 ([3,1]) r49 h50) _) fn44 ?_
 refine RS.w (u:=.sl 12 0 2 2) (σ':=⟨[(12,.row [.i6 4,.i6 2] 3),(9,.row (q07 r34) 43),(8,.row [.i6 0,.i6 1] 3),(7,.row [.i6 0,.i6 0] 3),(6,.row [.nils,.sl 4 0 1 1,.sl 5 0 1 1] 33),(5,.row [.i6 1] 3),(4,.row [.i6 0] 3),(3,.row [.iM q01 r7.Nodes] 24)],13⟩) rfl (q0j und33 inf3 rfl rfl rfl rfl rfl rfl rfl) ?_
 refine z4o rfl (z4j 12 1) (pC (q14 n 0 ([4,2]) r51 h52) _) fn44 ?_
 refine RS.cl rfl (z4q (args':=[.i6 7,.isl false []]) (.cons (.refl _) (.cons (.nil false) .nil)) (pC (q14 n 7 [] r53 h54)) _) fn44 (RS.w (u:=.sl 13 0 3 3) (σ':=⟨[(13,.row [.i6 r49.Typex,.iM q05 r49.Arcs,.i6 r51.Typex,.iM q05 r51.Arcs,.i6 r53.Typex,.iM q05 r53.Arcs] 54),(9,.row (q07 r34) 43),(8,.row [.i6 0,.i6 1] 3),(7,.row [.i6 0,.i6 0] 3),(6,.row [.nils,.sl 4 0 1 1,.sl 5 0 1 1] 33),(5,.row [.i6 1] 3),(4,.row [.i6 0] 3),(3,.row [.iM q01 r7.Nodes] 24)],14⟩) rfl (q0j und22 inf54 rfl rfl rfl rfl rfl rfl rfl) ?_)
 refine z4o rfl (z4j 13 2) (pC (q6n n ([r49,r51,r53]) r55 h56) _) fn43 ?_
 refine RS.cl rfl (pC (q28 n r47 r55 r57 h58) _) fn21 ?_
 refine go ?_
 refine RS.w (u:=.sl 14 0 2 2) (σ':=⟨[(14,.row [.i6 10,.i6 2] 3),(9,.row (q07 r34) 43),(8,.row [.i6 0,.i6 1] 3),(7,.row [.i6 0,.i6 0] 3),(6,.row [.nils,.sl 4 0 1 1,.sl 5 0 1 1] 33),(5,.row [.i6 1] 3),(4,.row [.i6 0] 3),(3,.row [.iM q01 r7.Nodes] 24)],15⟩) rfl (q0j und33 inf3 rfl rfl rfl rfl rfl rfl rfl) (RS.cl rfl (vw (q4i n r36.1 ([10,2]) r61 h62) (z4j 14 1)) fn28 ?_)
 refine go ?_
 refine RS.w (u:=.agg (q07 r34)) rfl (q0p und43 rfl (q03 inf43) rfl rfl rfl) ?_
 refine go ?_
 refine RS.cl rfl (pC (qf8 n r34 r36.1 r64 h65) _) fn25 (RS.w (u:=.bool (q1x r64 ([82,69,83,84,46,70,73,82,83,84]))) rfl (q9m rfl rfl rfl rfl) ?_)
 refine go ?_
 exact xC ⟨rfl,rfl⟩
 obtain rfl:=sI h69
 refine go ?_
 refine RS.w (u:=.sl 10 0 2 2) (σ':=⟨[(10,.row [.i6 3,.i6 4] 3),(9,.row (q07 r34) 43),(8,.row [.i6 0,.i6 1] 3),(7,.row [.i6 0,.i6 0] 3),(6,.row [.nils,.sl 4 0 1 1,.sl 5 0 1 1] 33),(5,.row [.i6 1] 3),(4,.row [.i6 0] 3),(3,.row [.iM q01 r7.Nodes] 24)],11⟩) rfl (q0j und33 inf3 rfl rfl rfl rfl rfl rfl rfl) (RS.cl rfl (pC (q6u n 7 r45 h46) _) fn45 ?_)
 refine z4o rfl (z4j 10 1) (pC (q6p n ([3,4]) r45 r47 h48) _) fn22 ?_
 refine RS.w (u:=.sl 11 0 2 2) (σ':=⟨[(11,.row [.i6 3,.i6 1] 3),(9,.row (q07 r34) 43),(8,.row [.i6 0,.i6 1] 3),(7,.row [.i6 0,.i6 0] 3),(6,.row [.nils,.sl 4 0 1 1,.sl 5 0 1 1] 33),(5,.row [.i6 1] 3),(4,.row [.i6 0] 3),(3,.row [.iM q01 r7.Nodes] 24)],12⟩) rfl (q0j und33 inf3 rfl rfl rfl rfl rfl rfl rfl) ?_
 refine z4o rfl (z4j 11 1) (pC (q14 n 0 ([3,1]) r49 h50) _) fn44 ?_
 refine RS.w (u:=.sl 12 0 2 2) (σ':=⟨[(12,.row [.i6 4,.i6 2] 3),(9,.row (q07 r34) 43),(8,.row [.i6 0,.i6 1] 3),(7,.row [.i6 0,.i6 0] 3),(6,.row [.nils,.sl 4 0 1 1,.sl 5 0 1 1] 33),(5,.row [.i6 1] 3),(4,.row [.i6 0] 3),(3,.row [.iM q01 r7.Nodes] 24)],13⟩) rfl (q0j und33 inf3 rfl rfl rfl rfl rfl rfl rfl) ?_
 refine z4o rfl (z4j 12 1) (pC (q14 n 0 ([4,2]) r51 h52) _) fn44 ?_
 refine RS.cl rfl (z4q (args':=[.i6 7,.isl false []]) (.cons (.refl _) (.cons (.nil false) .nil)) (pC (q14 n 7 [] r53 h54)) _) fn44 (RS.w (u:=.sl 13 0 3 3) (σ':=⟨[(13,.row [.i6 r49.Typex,.iM q05 r49.Arcs,.i6 r51.Typex,.iM q05 r51.Arcs,.i6 r53.Typex,.iM q05 r53.Arcs] 54),(9,.row (q07 r34) 43),(8,.row [.i6 0,.i6 1] 3),(7,.row [.i6 0,.i6 0] 3),(6,.row [.nils,.sl 4 0 1 1,.sl 5 0 1 1] 33),(5,.row [.i6 1] 3),(4,.row [.i6 0] 3),(3,.row [.iM q01 r7.Nodes] 24)],14⟩) rfl (q0j und22 inf54 rfl rfl rfl rfl rfl rfl rfl) ?_)
 refine z4o rfl (z4j 13 2) (pC (q6n n ([r49,r51,r53]) r55 h56) _) fn43 ?_
 refine RS.cl rfl (pC (q28 n r47 r55 r57 h58) _) fn21 ?_
 refine go ?_
 refine RS.w (u:=.sl 14 0 2 2) (σ':=⟨[(14,.row [.i6 10,.i6 2] 3),(9,.row (q07 r34) 43),(8,.row [.i6 0,.i6 1] 3),(7,.row [.i6 0,.i6 0] 3),(6,.row [.nils,.sl 4 0 1 1,.sl 5 0 1 1] 33),(5,.row [.i6 1] 3),(4,.row [.i6 0] 3),(3,.row [.iM q01 r7.Nodes] 24)],15⟩) rfl (q0j und33 inf3 rfl rfl rfl rfl rfl rfl rfl) (RS.cl rfl (vw (q4i n r36.1 ([10,2]) r61 h62) (z4j 14 1)) fn28 ?_)
 refine go ?_
 exact xC ⟨rfl,rfl⟩
 obtain rfl:=sI h69
 refine go ?_
 refine RS.w (u:=.sl 10 0 2 2) (σ':=⟨[(10,.row [.i6 3,.i6 4] 3),(9,.row (q07 r34) 43),(8,.row [.i6 0,.i6 1] 3),(7,.row [.i6 0,.i6 0] 3),(6,.row [.nils,.sl 4 0 1 1,.sl 5 0 1 1] 33),(5,.row [.i6 1] 3),(4,.row [.i6 0] 3),(3,.row [.iM q01 r7.Nodes] 24)],11⟩) rfl (q0j und33 inf3 rfl rfl rfl rfl rfl rfl rfl) (RS.cl rfl (pC (q6u n 7 r45 h46) _) fn45 ?_)
 refine z4o rfl (z4j 10 1) (pC (q6p n ([3,4]) r45 r47 h48) _) fn22 ?_
 refine RS.w (u:=.sl 11 0 2 2) (σ':=⟨[(11,.row [.i6 3,.i6 1] 3),(9,.row (q07 r34) 43),(8,.row [.i6 0,.i6 1] 3),(7,.row [.i6 0,.i6 0] 3),(6,.row [.nils,.sl 4 0 1 1,.sl 5 0 1 1] 33),(5,.row [.i6 1] 3),(4,.row [.i6 0] 3),(3,.row [.iM q01 r7.Nodes] 24)],12⟩) rfl (q0j und33 inf3 rfl rfl rfl rfl rfl rfl rfl) ?_
 refine z4o rfl (z4j 11 1) (pC (q14 n 0 ([3,1]) r49 h50) _) fn44 ?_
 refine RS.w (u:=.sl 12 0 2 2) (σ':=⟨[(12,.row [.i6 4,.i6 2] 3),(9,.row (q07 r34) 43),(8,.row [.i6 0,.i6 1] 3),(7,.row [.i6 0,.i6 0] 3),(6,.row [.nils,.sl 4 0 1 1,.sl 5 0 1 1] 33),(5,.row [.i6 1] 3),(4,.row [.i6 0] 3),(3,.row [.iM q01 r7.Nodes] 24)],13⟩) rfl (q0j und33 inf3 rfl rfl rfl rfl rfl rfl rfl) ?_
 refine z4o rfl (z4j 12 1) (pC (q14 n 0 ([4,2]) r51 h52) _) fn44 ?_
 refine RS.cl rfl (z4q (args':=[.i6 7,.isl false []]) (.cons (.refl _) (.cons (.nil false) .nil)) (pC (q14 n 7 [] r53 h54)) _) fn44 (RS.w (u:=.sl 13 0 3 3) (σ':=⟨[(13,.row [.i6 r49.Typex,.iM q05 r49.Arcs,.i6 r51.Typex,.iM q05 r51.Arcs,.i6 r53.Typex,.iM q05 r53.Arcs] 54),(9,.row (q07 r34) 43),(8,.row [.i6 0,.i6 1] 3),(7,.row [.i6 0,.i6 0] 3),(6,.row [.nils,.sl 4 0 1 1,.sl 5 0 1 1] 33),(5,.row [.i6 1] 3),(4,.row [.i6 0] 3),(3,.row [.iM q01 r7.Nodes] 24)],14⟩) rfl (q0j und22 inf54 rfl rfl rfl rfl rfl rfl rfl) ?_)
 refine z4o rfl (z4j 13 2) (pC (q6n n ([r49,r51,r53]) r55 h56) _) fn43 ?_
 refine RS.cl rfl (pC (q28 n r47 r55 r57 h58) _) fn21 ?_
 refine go ?_
 exact xC ⟨rfl,rfl⟩
 obtain rfl:=sI h69
 refine go ?_
 refine RS.w (u:=.sl 10 0 2 2) (σ':=⟨[(10,.row [.i6 3,.i6 4] 3),(9,.row (q07 r34) 43),(8,.row [.i6 0,.i6 1] 3),(7,.row [.i6 0,.i6 0] 3),(6,.row [.nils,.sl 4 0 1 1,.sl 5 0 1 1] 33),(5,.row [.i6 1] 3),(4,.row [.i6 0] 3),(3,.row [.iM q01 r7.Nodes] 24)],11⟩) rfl (q0j und33 inf3 rfl rfl rfl rfl rfl rfl rfl) (RS.cl rfl (pC (q6u n 7 r45 h46) _) fn45 ?_)
 refine z4o rfl (z4j 10 1) (pC (q6p n ([3,4]) r45 r47 h48) _) fn22 ?_
 refine RS.w (u:=.sl 11 0 2 2) (σ':=⟨[(11,.row [.i6 3,.i6 1] 3),(9,.row (q07 r34) 43),(8,.row [.i6 0,.i6 1] 3),(7,.row [.i6 0,.i6 0] 3),(6,.row [.nils,.sl 4 0 1 1,.sl 5 0 1 1] 33),(5,.row [.i6 1] 3),(4,.row [.i6 0] 3),(3,.row [.iM q01 r7.Nodes] 24)],12⟩) rfl (q0j und33 inf3 rfl rfl rfl rfl rfl rfl rfl) ?_
 refine z4o rfl (z4j 11 1) (pC (q14 n 0 ([3,1]) r49 h50) _) fn44 ?_
 refine RS.w (u:=.sl 12 0 2 2) (σ':=⟨[(12,.row [.i6 4,.i6 2] 3),(9,.row (q07 r34) 43),(8,.row [.i6 0,.i6 1] 3),(7,.row [.i6 0,.i6 0] 3),(6,.row [.nils,.sl 4 0 1 1,.sl 5 0 1 1] 33),(5,.row [.i6 1] 3),(4,.row [.i6 0] 3),(3,.row [.iM q01 r7.Nodes] 24)],13⟩) rfl (q0j und33 inf3 rfl rfl rfl rfl rfl rfl rfl) ?_
 refine z4o rfl (z4j 12 1) (pC (q14 n 0 ([4,2]) r51 h52) _) fn44 ?_
 refine RS.cl rfl (z4q (args':=[.i6 7,.isl false []]) (.cons (.refl _) (.cons (.nil false) .nil)) (pC (q14 n 7 [] r53 h54)) _) fn44 (RS.w (u:=.sl 13 0 3 3) (σ':=⟨[(13,.row [.i6 r49.Typex,.iM q05 r49.Arcs,.i6 r51.Typex,.iM q05 r51.Arcs,.i6 r53.Typex,.iM q05 r53.Arcs] 54),(9,.row (q07 r34) 43),(8,.row [.i6 0,.i6 1] 3),(7,.row [.i6 0,.i6 0] 3),(6,.row [.nils,.sl 4 0 1 1,.sl 5 0 1 1] 33),(5,.row [.i6 1] 3),(4,.row [.i6 0] 3),(3,.row [.iM q01 r7.Nodes] 24)],14⟩) rfl (q0j und22 inf54 rfl rfl rfl rfl rfl rfl rfl) ?_)
 refine z4o rfl (z4j 13 2) (pC (q6n n ([r49,r51,r53]) r55 h56) _) fn43 ?_
 refine RS.cl rfl (pC (q28 n r47 r55 r57 h58) _) fn21 ?_
 refine go ?_
 exact xC ⟨rfl,rfl⟩
 exact gy h69
 exact gy h69
 exact gy h69
 obtain ⟨r9,h10,h28⟩:=q00 h28
 obtain ⟨r11,h12,h28⟩:=q00 h28
 rcases gB h28 with ⟨h13,h28⟩ | ⟨h13,h28⟩
 obtain rfl:=sI h28
 refine go ?_
 refine RS.q (u:=.agg [.iM q01 r7.Nodes]) rfl (q0p und24 rfl (q03 inf24) rfl rfl rfl) (RS.cl rfl (pC (qbd n r7 r9 h10) _) fn15 (RS.q (u:=.sl 4 0 1 1) (σ':=⟨[(4,.row [.i6 0] 3),(3,.row [.iM q01 r7.Nodes] 24)],5⟩) rfl (q0j und33 inf3 rfl rfl rfl rfl rfl rfl rfl) (RS.q (u:=.sl 5 0 1 1) (σ':=⟨[(5,.row [.i6 1] 3),(4,.row [.i6 0] 3),(3,.row [.iM q01 r7.Nodes] 24)],6⟩) rfl (q0j und33 inf3 rfl rfl rfl rfl rfl rfl rfl) (RS.q (u:=.sl 6 0 3 3) (σ':=⟨[(6,.row [.nils,.sl 4 0 1 1,.sl 5 0 1 1] 33),(5,.row [.i6 1] 3),(4,.row [.i6 0] 3),(3,.row [.iM q01 r7.Nodes] 24)],7⟩) rfl (q0j und28 inf33 rfl rfl rfl rfl rfl rfl rfl) (RS.cl rfl (vw (q7u n r9 ([[],[0],[1]]) r11 h12) (Gh.trans (z4j 4 1) (Gh.trans (z4j 5 1) (Gh.trans (z59 6) (z4j 6 1))))) fn14 ?_)))))
 refine go ?_
 exact xC ⟨rfl,rfl⟩
 obtain ⟨r14,h15,h28⟩:=q00 h28
 obtain ⟨r16,h17,h28⟩:=q00 h28
 rcases gB h28 with ⟨h18,h28⟩ | ⟨h18,h28⟩
 obtain rfl:=sI h28
 refine go ?_
 refine RS.q (u:=.agg [.iM q01 r7.Nodes]) rfl (q0p und24 rfl (q03 inf24) rfl rfl rfl) (RS.cl rfl (pC (qbd n r7 r9 h10) _) fn15 (RS.q (u:=.sl 4 0 1 1) (σ':=⟨[(4,.row [.i6 0] 3),(3,.row [.iM q01 r7.Nodes] 24)],5⟩) rfl (q0j und33 inf3 rfl rfl rfl rfl rfl rfl rfl) (RS.q (u:=.sl 5 0 1 1) (σ':=⟨[(5,.row [.i6 1] 3),(4,.row [.i6 0] 3),(3,.row [.iM q01 r7.Nodes] 24)],6⟩) rfl (q0j und33 inf3 rfl rfl rfl rfl rfl rfl rfl) (RS.q (u:=.sl 6 0 3 3) (σ':=⟨[(6,.row [.nils,.sl 4 0 1 1,.sl 5 0 1 1] 33),(5,.row [.i6 1] 3),(4,.row [.i6 0] 3),(3,.row [.iM q01 r7.Nodes] 24)],7⟩) rfl (q0j und28 inf33 rfl rfl rfl rfl rfl rfl rfl) (RS.cl rfl (vw (q7u n r9 ([[],[0],[1]]) r11 h12) (Gh.trans (z4j 4 1) (Gh.trans (z4j 5 1) (Gh.trans (z59 6) (z4j 6 1))))) fn14 ?_)))))
 refine go ?_
 refine RS.w (u:=.agg [.iM q01 r7.Nodes]) rfl (q0p und24 rfl (q03 inf24) rfl rfl rfl) (RS.cl rfl (pC (qdn n r7 r14 h15) _) fn18 (RS.w (u:=.sl 7 0 1 1) (σ':=⟨[(7,.row [.i6 1] 3),(6,.row [.nils,.sl 4 0 1 1,.sl 5 0 1 1] 33),(5,.row [.i6 1] 3),(4,.row [.i6 0] 3),(3,.row [.iM q01 r7.Nodes] 24)],8⟩) rfl (q0j und33 inf3 rfl rfl rfl rfl rfl rfl rfl) (RS.w (u:=.sl 8 0 2 2) (σ':=⟨[(8,.row [.i6 0,.i6 0] 3),(7,.row [.i6 1] 3),(6,.row [.nils,.sl 4 0 1 1,.sl 5 0 1 1] 33),(5,.row [.i6 1] 3),(4,.row [.i6 0] 3),(3,.row [.iM q01 r7.Nodes] 24)],9⟩) rfl (q0j und33 inf3 rfl rfl rfl rfl rfl rfl rfl) (RS.w (u:=.agg [.sl 7 0 1 1,.sl 8 0 2 2]) rfl (q3l bd56 rfl rfl rfl) (RS.w (u:=.sl 9 0 1 1) (σ':=⟨[(9,.row [.sl 7 0 1 1,.sl 8 0 2 2] 56),(8,.row [.i6 0,.i6 0] 3),(7,.row [.i6 1] 3),(6,.row [.nils,.sl 4 0 1 1,.sl 5 0 1 1] 33),(5,.row [.i6 1] 3),(4,.row [.i6 0] 3),(3,.row [.iM q01 r7.Nodes] 24)],10⟩) rfl (q0j und31 inf56 rfl rfl rfl rfl rfl rfl rfl) (RS.cl rfl (vw (q7j n r14 ([(q0q.mk ([1]) ([0,0]))]) r16 h17) (Gh.trans (z4j 7 1) (Gh.trans (z4j 8 1) (z4j 9 2)))) fn17 ?_))))))
 refine go ?_
 exact xC ⟨rfl,rfl⟩
 obtain ⟨r19,h20,h28⟩:=q00 h28
 obtain ⟨r21,h22,h28⟩:=q00 h28
 obtain ⟨r23,h24,h28⟩:=q00 h28
 obtain ⟨r25,h26,h28⟩:=q00 h28
 obtain rfl:=sI h28
 refine go ?_
 refine RS.q (u:=.agg [.iM q01 r7.Nodes]) rfl (q0p und24 rfl (q03 inf24) rfl rfl rfl) (RS.cl rfl (pC (qbd n r7 r9 h10) _) fn15 (RS.q (u:=.sl 4 0 1 1) (σ':=⟨[(4,.row [.i6 0] 3),(3,.row [.iM q01 r7.Nodes] 24)],5⟩) rfl (q0j und33 inf3 rfl rfl rfl rfl rfl rfl rfl) (RS.q (u:=.sl 5 0 1 1) (σ':=⟨[(5,.row [.i6 1] 3),(4,.row [.i6 0] 3),(3,.row [.iM q01 r7.Nodes] 24)],6⟩) rfl (q0j und33 inf3 rfl rfl rfl rfl rfl rfl rfl) (RS.q (u:=.sl 6 0 3 3) (σ':=⟨[(6,.row [.nils,.sl 4 0 1 1,.sl 5 0 1 1] 33),(5,.row [.i6 1] 3),(4,.row [.i6 0] 3),(3,.row [.iM q01 r7.Nodes] 24)],7⟩) rfl (q0j und28 inf33 rfl rfl rfl rfl rfl rfl rfl) (RS.cl rfl (vw (q7u n r9 ([[],[0],[1]]) r11 h12) (Gh.trans (z4j 4 1) (Gh.trans (z4j 5 1) (Gh.trans (z59 6) (z4j 6 1))))) fn14 ?_)))))
 refine go ?_
 refine RS.w (u:=.agg [.iM q01 r7.Nodes]) rfl (q0p und24 rfl (q03 inf24) rfl rfl rfl) (RS.cl rfl (pC (qdn n r7 r14 h15) _) fn18 (RS.w (u:=.sl 7 0 1 1) (σ':=⟨[(7,.row [.i6 1] 3),(6,.row [.nils,.sl 4 0 1 1,.sl 5 0 1 1] 33),(5,.row [.i6 1] 3),(4,.row [.i6 0] 3),(3,.row [.iM q01 r7.Nodes] 24)],8⟩) rfl (q0j und33 inf3 rfl rfl rfl rfl rfl rfl rfl) (RS.w (u:=.sl 8 0 2 2) (σ':=⟨[(8,.row [.i6 0,.i6 0] 3),(7,.row [.i6 1] 3),(6,.row [.nils,.sl 4 0 1 1,.sl 5 0 1 1] 33),(5,.row [.i6 1] 3),(4,.row [.i6 0] 3),(3,.row [.iM q01 r7.Nodes] 24)],9⟩) rfl (q0j und33 inf3 rfl rfl rfl rfl rfl rfl rfl) (RS.w (u:=.agg [.sl 7 0 1 1,.sl 8 0 2 2]) rfl (q3l bd56 rfl rfl rfl) (RS.w (u:=.sl 9 0 1 1) (σ':=⟨[(9,.row [.sl 7 0 1 1,.sl 8 0 2 2] 56),(8,.row [.i6 0,.i6 0] 3),(7,.row [.i6 1] 3),(6,.row [.nils,.sl 4 0 1 1,.sl 5 0 1 1] 33),(5,.row [.i6 1] 3),(4,.row [.i6 0] 3),(3,.row [.iM q01 r7.Nodes] 24)],10⟩) rfl (q0j und31 inf56 rfl rfl rfl rfl rfl rfl rfl) (RS.cl rfl (vw (q7j n r14 ([(q0q.mk ([1]) ([0,0]))]) r16 h17) (Gh.trans (z4j 7 1) (Gh.trans (z4j 8 1) (z4j 9 2)))) fn17 ?_))))))
 refine go ?_
 refine RS.w (u:=.sl 10 0 2 2) (σ':=⟨[(10,.row [.i6 5,.i6 0] 3),(9,.row [.sl 7 0 1 1,.sl 8 0 2 2] 56),(8,.row [.i6 0,.i6 0] 3),(7,.row [.i6 1] 3),(6,.row [.nils,.sl 4 0 1 1,.sl 5 0 1 1] 33),(5,.row [.i6 1] 3),(4,.row [.i6 0] 3),(3,.row [.iM q01 r7.Nodes] 24)],11⟩) rfl (q0j und33 inf3 rfl rfl rfl rfl rfl rfl rfl) ?_
 refine z4o rfl (z4j 10 1) (pC (q14 n 1 ([5,0]) r19 h20) _) fn44 ?_
 refine RS.w (u:=.sl 11 0 1 1) (σ':=⟨[(11,.row (q01 r19) 54),(9,.row [.sl 7 0 1 1,.sl 8 0 2 2] 56),(8,.row [.i6 0,.i6 0] 3),(7,.row [.i6 1] 3),(6,.row [.nils,.sl 4 0 1 1,.sl 5 0 1 1] 33),(5,.row [.i6 1] 3),(4,.row [.i6 0] 3),(3,.row [.iM q01 r7.Nodes] 24)],12⟩) rfl (q0j und22 inf54 rfl rfl rfl rfl rfl rfl rfl) ?_
 refine z4o rfl (z4j 11 2) (pC (q6n n ([r19]) r21 h22) _) fn43 ?_
 refine RS.cl rfl (pC (qdn n r21 r23 h24) _) fn18 (RS.w (u:=.sl 12 0 1 1) (σ':=⟨[(12,.row [.i6 5] 3),(9,.row [.sl 7 0 1 1,.sl 8 0 2 2] 56),(8,.row [.i6 0,.i6 0] 3),(7,.row [.i6 1] 3),(6,.row [.nils,.sl 4 0 1 1,.sl 5 0 1 1] 33),(5,.row [.i6 1] 3),(4,.row [.i6 0] 3),(3,.row [.iM q01 r7.Nodes] 24)],13⟩) rfl (q0j und33 inf3 rfl rfl rfl rfl rfl rfl rfl) (RS.w (u:=.agg [.nils,.sl 12 0 1 1]) rfl (q3l bd56 rfl rfl rfl) (RS.w (u:=.sl 13 0 1 1) (σ':=⟨[(13,.row [.nils,.sl 12 0 1 1] 56),(12,.row [.i6 5] 3),(9,.row [.sl 7 0 1 1,.sl 8 0 2 2] 56),(8,.row [.i6 0,.i6 0] 3),(7,.row [.i6 1] 3),(6,.row [.nils,.sl 4 0 1 1,.sl 5 0 1 1] 33),(5,.row [.i6 1] 3),(4,.row [.i6 0] 3),(3,.row [.iM q01 r7.Nodes] 24)],14⟩) rfl (q0j und31 inf56 rfl rfl rfl rfl rfl rfl rfl) (RS.cl rfl (vw (q7j n r23 ([(q0q.mk [] ([5]))]) r25 h26) (Gh.trans (z4j 12 1) (Gh.trans (z59 13) (z4j 13 2)))) fn17 ?_))))
 refine go ?_
 exact xC ⟨rfl,rfl⟩
def q5f (n:Nat) (p1:GFS) (p2:List Int):Option (Bool) :=
 q04 (q04 (qal n p1) fun r3 =>
 cond (!r3)
  (some true)
  (q04 (qd8 n p2) fun r6 =>
  some (!r6))) fun b8 =>
 cond b8
  (q04 (q2z n) fun r11 =>
  some r11)
  (q04 (qh5 n p1 p2) fun r13 =>
  q04 (qg4 n p1 p2) fun r15 =>
  q04 (qin n p1 p2) fun r17 =>
  q04 (qfl n p1 p2) fun r19 =>
  q04 (qct n p1 p2) fun r21 =>
  q04 (qcy n p1 p2) fun r23 =>
  q04 (cond (r13.1 == r15.1)
   (cond (r13.2 == r15.2)
    (q04 (q6k n (GFS.mk r17.1.Nodes) (GFS.mk r19.1.Nodes)) fun r27 =>
    cond r27
     (cond (r17.2 == r19.2)
      (cond (r21.1 == r23.1)
       (cond (r21.2 == r23.2)
        (q04 (q2z n) fun r33 =>
        some r33)
        (some false))
       (some false))
      (some false))
     (some false))
    (some false))
   (some false)) fun b35 =>
  some b35)
theorem qh1 (n:Nat) (p1:GFS) (p2:List Int) (r:Bool) (hF:q5f n p1 p2=some r):EvU Tryz.prog 9 [.agg [.isl false (List.map q01 p1.Nodes)],.isl false (List.map (cI .i64) p2)] ⟨[],0⟩ (fun u _=>u = .bool r∧Bel 0 u):=by
 unfold q5f at hF
 refine bg2 93 fn9 ?_
 refine go ?_
 refine RS.q (u:=.ptr 0 0 0) (σ':=⟨[(0,.row [.iM q01 p1.Nodes] 24)],1⟩) rfl (q2p rfl rfl rfl) ?_
 obtain ⟨b8,h9,hF⟩:=q00 hF
 refine gn ?_
 refine z4h (fun tm σ=>tm=fr 93 [(1,.iM (cI .i64) p2),(2,.ptr 0 0 0),(24,.bool b8)]∧σ=⟨[(0,.row [.iM q01 p1.Nodes] 24)],1⟩) ?_ ?_
 rintro _ _ ⟨rfl,rfl⟩
 refine go ?_
 refine cF hF (fun h10 hF=>?_) (fun h10 hF=>?_)
 obtain ⟨r11,h12,hF⟩:=q00 hF
 refine go ?_
 refine RS.cl rfl (pC (q9l n r11 h12) _) fn13 ?_
 exact gx hF
 obtain ⟨r13,h14,hF⟩:=q00 hF
 refine go ?_
 refine RS.q (u:=.agg [.iM q01 p1.Nodes]) rfl (q0p und24 rfl (q03 inf24) rfl rfl rfl) ?_
 refine go ?_
 refine RS.cl rfl (pC (qim n p1 p2 r13 h14) _) fn30 ?_
 obtain ⟨r15,h16,hF⟩:=q00 hF
 refine go ?_
 refine RS.q (u:=.agg [.iM q01 p1.Nodes]) rfl (q0p und24 rfl (q03 inf24) rfl rfl rfl) ?_
 refine go ?_
 refine RS.cl rfl (pC (qk4 n p1 p2 r15 h16) _) fn33 ?_
 obtain ⟨r17,h18,hF⟩:=q00 hF
 refine go ?_
 refine RS.q (u:=.agg [.iM q01 p1.Nodes]) rfl (q0p und24 rfl (q03 inf24) rfl rfl rfl) ?_
 refine go ?_
 refine RS.cl rfl (pC (qvn n p1 p2 r17 h18) _) fn34 ?_
 refine go ?_
 refine RS.q (u:=.ptr 1 0 0) (σ':=⟨[(1,.row [.nils] 24),(0,.row [.iM q01 p1.Nodes] 24)],2⟩) rfl (q0v inf24 rfl rfl) ?_
 refine z4k (u:=.junk) (σ':=⟨[(1,.row [.iM q01 r17.1.Nodes] 24),(0,.row [.iM q01 p1.Nodes] 24)],2⟩) rfl (q0l (q03 inf24) rfl rfl rfl rfl rfl rfl rfl rfl) rfl ?_
 obtain ⟨r19,h20,hF⟩:=q00 hF
 refine go ?_
 refine RS.q (u:=.agg [.iM q01 p1.Nodes]) rfl (q0p und24 rfl (q03 inf24) rfl rfl rfl) ?_
 refine go ?_
 refine RS.cl rfl (pC (qsz n p1 p2 r19 h20) _) fn35 ?_
 refine go ?_
 refine RS.q (u:=.ptr 2 0 0) (σ':=⟨[(2,.row [.nils] 24),(1,.row [.iM q01 r17.1.Nodes] 24),(0,.row [.iM q01 p1.Nodes] 24)],3⟩) rfl (q0v inf24 rfl rfl) ?_
 refine z4k (u:=.junk) (σ':=⟨[(2,.row [.iM q01 r19.1.Nodes] 24),(1,.row [.iM q01 r17.1.Nodes] 24),(0,.row [.iM q01 p1.Nodes] 24)],3⟩) rfl (q0l (q03 inf24) rfl rfl rfl rfl rfl rfl rfl rfl) rfl ?_
 obtain ⟨r21,h22,hF⟩:=q00 hF
 refine go ?_
 refine RS.q (u:=.agg [.iM q01 p1.Nodes]) rfl (q0p und24 rfl (q03 inf24) rfl rfl rfl) ?_
 refine go ?_
 refine RS.cl rfl (pC (qmq n p1 p2 r21 h22) _) fn36 ?_
 obtain ⟨r23,h24,hF⟩:=q00 hF
 refine go ?_
 refine RS.q (u:=.agg [.iM q01 p1.Nodes]) rfl (q0p und24 rfl (q03 inf24) rfl rfl rfl) ?_
 refine go ?_
 refine RS.cl rfl (pC (qri n p1 p2 r23 h24) _) fn37 ?_
 obtain ⟨b35,h36,hF⟩:=q00 hF
 refine gn ?_
 refine z4h (fun tm σ=>tm=fr 93 [(4,.bool b35)]∧σ=⟨[(2,.row [.iM q01 r19.1.Nodes] 24),(1,.row [.iM q01 r17.1.Nodes] 24),(0,.row [.iM q01 p1.Nodes] 24)],3⟩) ?_ ?_
 rintro _ _ ⟨rfl,rfl⟩
 exact gx hF
 rcases gB h36 with ⟨h25,h36⟩ | ⟨h25,h36⟩
 rcases gB h36 with ⟨h26,h36⟩ | ⟨h26,h36⟩
 obtain ⟨r27,h28,h36⟩:=q00 h36
 rcases gB h36 with ⟨h29,h36⟩ | ⟨h29,h36⟩
 rcases gB h36 with ⟨h30,h36⟩ | ⟨h30,h36⟩
 rcases gB h36 with ⟨h31,h36⟩ | ⟨h31,h36⟩
 rcases gB h36 with ⟨h32,h36⟩ | ⟨h32,h36⟩
 obtain ⟨r33,h34,h36⟩:=q00 h36
 obtain rfl:=sI h36
 refine go ?_
 refine RS.w (u:=.bool (r13.2 == r15.2)) rfl (qan rfl rfl (by simp only [g2,toV,qge,q45,eqv,cond_true,ofV,und4])) ?_
 refine go ?_
 refine RS.w (u:=.agg [.iM q01 r17.1.Nodes]) rfl (q0p und24 rfl (q03 inf24) rfl rfl rfl) (RS.w (u:=.agg [.iM q01 r19.1.Nodes]) rfl (q0p und24 rfl (q03 inf24) rfl rfl rfl) (RS.cl rfl (pC (q28 n (GFS.mk r17.1.Nodes) (GFS.mk r19.1.Nodes) r27 h28) _) fn21 ?_))
 refine go ?_
 refine RS.w (u:=.bool (r17.2 == r19.2)) rfl (qan rfl rfl (by simp only [g2,toV,qge,q45,eqv,cond_true,ofV,und4])) ?_
 refine go ?_
 refine RS.w (u:=.bool (r21.2 == r23.2)) rfl (qan rfl rfl (by simp only [g2,toV,qge,q45,eqv,cond_true,ofV,und4])) ?_
 refine go ?_
 refine RS.cl rfl (pC (q9l n r33 h34) _) fn13 ?_
 refine go ?_
 exact xC ⟨rfl,rfl⟩
 obtain rfl:=sI h36
 refine go ?_
 refine RS.w (u:=.bool (r13.2 == r15.2)) rfl (qan rfl rfl (by simp only [g2,toV,qge,q45,eqv,cond_true,ofV,und4])) ?_
 refine go ?_
 refine RS.w (u:=.agg [.iM q01 r17.1.Nodes]) rfl (q0p und24 rfl (q03 inf24) rfl rfl rfl) (RS.w (u:=.agg [.iM q01 r19.1.Nodes]) rfl (q0p und24 rfl (q03 inf24) rfl rfl rfl) (RS.cl rfl (pC (q28 n (GFS.mk r17.1.Nodes) (GFS.mk r19.1.Nodes) r27 h28) _) fn21 ?_))
 refine go ?_
 refine RS.w (u:=.bool (r17.2 == r19.2)) rfl (qan rfl rfl (by simp only [g2,toV,qge,q45,eqv,cond_true,ofV,und4])) ?_
 refine go ?_
 refine RS.w (u:=.bool (r21.2 == r23.2)) rfl (qan rfl rfl (by simp only [g2,toV,qge,q45,eqv,cond_true,ofV,und4])) ?_
 refine go ?_
 exact xC ⟨rfl,rfl⟩
 obtain rfl:=sI h36
 refine go ?_
 refine RS.w (u:=.bool (r13.2 == r15.2)) rfl (qan rfl rfl (by simp only [g2,toV,qge,q45,eqv,cond_true,ofV,und4])) ?_
 refine go ?_
 refine RS.w (u:=.agg [.iM q01 r17.1.Nodes]) rfl (q0p und24 rfl (q03 inf24) rfl rfl rfl) (RS.w (u:=.agg [.iM q01 r19.1.Nodes]) rfl (q0p und24 rfl (q03 inf24) rfl rfl rfl) (RS.cl rfl (pC (q28 n (GFS.mk r17.1.Nodes) (GFS.mk r19.1.Nodes) r27 h28) _) fn21 ?_))
 refine go ?_
 refine RS.w (u:=.bool (r17.2 == r19.2)) rfl (qan rfl rfl (by simp only [g2,toV,qge,q45,eqv,cond_true,ofV,und4])) ?_
 refine go ?_
 exact xC ⟨rfl,rfl⟩
 obtain rfl:=sI h36
 refine go ?_
 refine RS.w (u:=.bool (r13.2 == r15.2)) rfl (qan rfl rfl (by simp only [g2,toV,qge,q45,eqv,cond_true,ofV,und4])) ?_
 refine go ?_
 refine RS.w (u:=.agg [.iM q01 r17.1.Nodes]) rfl (q0p und24 rfl (q03 inf24) rfl rfl rfl) (RS.w (u:=.agg [.iM q01 r19.1.Nodes]) rfl (q0p und24 rfl (q03 inf24) rfl rfl rfl) (RS.cl rfl (pC (q28 n (GFS.mk r17.1.Nodes) (GFS.mk r19.1.Nodes) r27 h28) _) fn21 ?_))
 refine go ?_
 refine RS.w (u:=.bool (r17.2 == r19.2)) rfl (qan rfl rfl (by simp only [g2,toV,qge,q45,eqv,cond_true,ofV,und4])) ?_
 refine go ?_
 exact xC ⟨rfl,rfl⟩
 obtain rfl:=sI h36
 refine go ?_
 refine RS.w (u:=.bool (r13.2 == r15.2)) rfl (qan rfl rfl (by simp only [g2,toV,qge,q45,eqv,cond_true,ofV,und4])) ?_
 refine go ?_
 refine RS.w (u:=.agg [.iM q01 r17.1.Nodes]) rfl (q0p und24 rfl (q03 inf24) rfl rfl rfl) (RS.w (u:=.agg [.iM q01 r19.1.Nodes]) rfl (q0p und24 rfl (q03 inf24) rfl rfl rfl) (RS.cl rfl (pC (q28 n (GFS.mk r17.1.Nodes) (GFS.mk r19.1.Nodes) r27 h28) _) fn21 ?_))
 refine go ?_
 exact xC ⟨rfl,rfl⟩
 obtain rfl:=sI h36
 refine go ?_
 refine RS.w (u:=.bool (r13.2 == r15.2)) rfl (qan rfl rfl (by simp only [g2,toV,qge,q45,eqv,cond_true,ofV,und4])) ?_
 refine go ?_
 exact xC ⟨rfl,rfl⟩
 exact gy h36
 obtain ⟨r3,h4,h9⟩:=q00 h9
 rcases gB h9 with ⟨h5,h9⟩ | ⟨h5,h9⟩
 obtain rfl:=sI h9
 refine go ?_
 refine RS.q (u:=.agg [.iM q01 p1.Nodes]) rfl (q0p und24 rfl (q03 inf24) rfl rfl rfl) (RS.cl rfl (pC (qid n p1 r3 h4) _) fn12 ?_)
 refine go ?_
 exact xC ⟨rfl,rfl⟩
 obtain ⟨r6,h7,h9⟩:=q00 h9
 obtain rfl:=sI h9
 refine go ?_
 refine RS.q (u:=.agg [.iM q01 p1.Nodes]) rfl (q0p und24 rfl (q03 inf24) rfl rfl rfl) (RS.cl rfl (pC (qid n p1 r3 h4) _) fn12 ?_)
 refine go ?_
 refine RS.cl rfl (pC (qp3 n p2 r6 h7) _) fn20 ?_
 refine go ?_
 exact xC ⟨rfl,rfl⟩
end Go.Proofs
end
section
namespace Go.Proofs
open Go Go.Rx Go.Vx Go.Shelf Go.Sort
theorem q0o {α β:Type} (a:α) (k:α→Option β):q04 (some a) k=k a:=rfl
theorem wr {z:Int} (h1 : -9223372036854775808≤z) (h2:z≤9223372036854775807):IntKind.i64.wrap z=z:=qll (by omega) (by omega)
theorem wr1 {i len:Nat} (h:i<len) (hl:len≤9223372036854775807):IntKind.i64.wrap ((i:Int)+1)=((i+1:Nat):Int):=by rw [wr (by omega) (by omega)]; simp
theorem wrn {z:Int} {k:Nat} (h:z=k) (h2:k≤9223372036854775807):IntKind.i64.wrap z=(k:Int):=by subst h; exact wr (by omega) (by omega)
theorem q5x {α:Type} {l:List α} {i:Nat} (h:i<l.length):∃ x,l[i]? = some x∧x∈l:=⟨l[i],by simp [h],by simp⟩
theorem q9b {α:Type} {l:List α} {i:Nat} {x:α} (h:l[i]? = some x):l.take (i+1)=l.take i++[x]:=by rw [List.take_add_one,h]; rfl
theorem drop_cons' {α:Type} {l:List α} {i:Nat} {x:α} (h:l[i]? = some x):l.drop i=x::l.drop (i+1):=by
 have hlt:i<l.length:=(List.getElem?_eq_some_iff.1 h).1
 rw [List.drop_eq_getElem_cons hlt]
 congr 1
 rw [List.getElem?_eq_getElem hlt] at h
 exact Option.some.inj h
theorem dlt {i n:Nat} (h:i<n):decide ((i:Int)<(n:Int))=true:=by simp; omega
theorem qng {i n:Nat} (h:¬ i<n):decide ((i:Int)<(n:Int))=false:=by simp; omega
theorem drop_nil' {α:Type} {l:List α} {i:Nat} (h:¬ i<l.length):l.drop i=[]:=List.drop_eq_nil_of_le (by omega)
structure Cmp {α:Type} (c:α→α→Int):Prop where
 val:∀ x y,c x y = -1∨c x y=0∨c x y=1
 anti:∀ x y,c y x = - c x y
 trans:∀ x y z,c x y≤0→c y z≤0→c x z≤0
theorem Cmp.self {α:Type} {c:α→α→Int} (h:Cmp c) (x:α):c x x=0:=by have:=h.anti x x; omega
theorem Cmp.congr {α:Type} {c:α→α→Int} (h:Cmp c) {x y:α} (hxy:c x y=0) (z:α):c x z=c y z:=by
 have h1:=h.val x z
 have h2:=h.val y z
 have a1:=h.anti x y
 have a2:=h.anti x z
 have a3:=h.anti y z
 have t1:=h.trans x y z
 have t2:=h.trans y x z
 have t3:=h.trans z x y
 have t4:=h.trans z y x
 omega
theorem Cmp.congr' {α:Type} {c:α→α→Int} (h:Cmp c) {x y:α} (hxy:c x y=0) (z:α):c z x=c z y:=by
 have h1:=h.congr hxy z
 have a2:=h.anti x z
 have a3:=h.anti y z
 omega
theorem Cmp.lt_of {α:Type} {c:α→α→Int} (h:Cmp c) {x y z:α} (h1:c x y<0) (h2:c y z≤0):c x z<0:=by
 have t1:=h.trans x y z (by omega) h2
 rcases Int.lt_or_eq_of_le t1 with h3 | h3
 ·exact h3
 ·have:=h.congr h3 y
  have a3:=h.anti y z
  omega
def qvz {α:Type} (c d:α→α→Int) (x y:α):Int:=if c x y≠0 then c x y else d x y
theorem Cmp.lex {α:Type} {c d:α→α→Int} (hc:Cmp c) (hd:Cmp d):Cmp (qvz c d) where
 val x y:=by unfold qvz; split; exact hc.val x y; exact hd.val x y
 anti x y:=by
  unfold qvz
  have a1:=hc.anti x y
  have a2:=hd.anti x y
  by_cases h:c x y=0
  ·have:c y x=0:=by omega
   simp [h,this,a2]
  ·have:¬ c y x=0:=by omega
   simp [h,this,a1]
 trans x y z h1 h2:=by
  unfold qvz at *
  by_cases h:c x y=0
  ·have e:=hc.congr h z
   simp only [h,ne_eq,not_true,if_false] at h1
   rw [e]
   by_cases h':c y z=0
   ·simp only [h',ne_eq,not_true,if_false] at h2 ⊢
    exact hd.trans x y z h1 h2
   ·simp only [h',ne_eq,not_false_eq_true,if_true] at h2 ⊢
    exact h2
  ·simp only [h,ne_eq,not_false_eq_true,if_true] at h1
   have h1':c x y<0:=by omega
   by_cases h':c y z=0
   ·have e:=hc.congr' h' x
    rw [← e]
    simp only [h,ne_eq,not_false_eq_true,if_true]
    exact h1
   ·simp only [h',ne_eq,not_false_eq_true,if_true] at h2
    have:=hc.lt_of h1' h2
    have hne:¬ c x z=0:=by omega
    simp only [hne,ne_eq,not_false_eq_true,if_true]
    omega
theorem qme {α:Type} {c d:α→α→Int} {x y:α}:qvz c d x y=0↔c x y=0∧d x y=0:=by
 unfold qvz
 by_cases h:c x y=0<;>simp [h]
theorem Cmp.pull {α β:Type} {c:α→α→Int} (h:Cmp c) (f:β→α):Cmp (fun x y=>c (f x) (f y)):=⟨fun x y=>h.val _ _,fun x y=>h.anti _ _,fun x y z=>h.trans _ _ _⟩
def cmpI (a b:Int):Int:=if a<b then -1 else if b<a then 1 else 0
theorem qcm {a b : Int} : cmpI a b = 0 ↔ a = b := by unfold cmpI; split; · omega
                                                     split <;> omega
theorem qjg : Cmp cmpI where
  val x y := by unfold cmpI; split; · simp
                split <;> simp
  anti x y := by unfold cmpI; split <;> split <;> (try split) <;> omega
  trans x y z := by
    unfold cmpI
    intro h1 h2
    split at h1 <;> split at h2 <;> (try split at h1) <;> (try split at h2) <;> (try split) <;> (try split) <;> omega
theorem z0k {α:Type} (c:α→α→Int) (x y:α):ltOf c x y=true↔c x y<0:=by simp [ltOf]
theorem Cmp.swo {α:Type} {c:α→α→Int} (h:Cmp c):SWO (ltOf c) where
 irrefl x:=by have:=h.self x; simp [ltOf,this]
 trans x y z h1 h2:=by rw [z0k] at *; exact h.lt_of h1 (by omega)
 ntrans x y z h1 h2:=by
  have e:∀ a b,ltOf c a b=false↔c b a≤0:=fun a b=>by have:=h.anti a b; simp [ltOf]; omega
  rw [e] at *
  exact h.trans z y x h2 h1
section
variable {α:Type} {c:α→α→Int}
theorem srt_le (hc:Cmp c) (l:List α):(srt (ltOf c) l).Pairwise (fun x y=>c x y≤0):=by
 have:=qz0 hc.swo l
 refine List.Pairwise.imp ?_ this
 intro x y h
 have:=hc.anti x y
 simp [ltOf] at h
 omega
end
end Go.Proofs
end
section
namespace Go.Vx
open Go Go.Rx
section
variable {K V:Type} [DecidableEq K]
def qny (k:K):List (K×V×Nat)→Option V
 | []=>none
 | e::es=>if k=e.1 then some e.2.1 else qny k es
variable {eq:K→K→Bool} (he:∀ a b,eq a b=true↔a=b)
include he
omit [DecidableEq K] in
theorem eq_f {a b:K} (h:¬ a=b):eq a b=false:=by
 cases h':eq a b with
 | false=>rfl
 | true=>exact absurd ((he a b).1 h') h
theorem qoy (k:K):∀ (es:List (K×V×Nat)) (i:Nat),(q91 eq k es i).map (fun x=>x.2.1)=qny k es
 | [],i=>rfl
 | e::es,i=>by
  simp only [q91,qny]
  by_cases h:k=e.1
  ·rw [(he k e.1).2 h,if_pos h]; rfl
  ·rw [eq_f he h,if_neg h]; exact qoy k es (i+1)
theorem z0l (m:q67 K V) (k:K):qq1 eq m k=qny k m.es:=qoy he k m.es 0
theorem qxf (k:K) (v:V):∀ {es:List (K×V×Nat)} {i j:Nat} {q:V×Nat},q91 eq k es i=some (j,q)→i≤j∧∀ x,qny x (qgg v es (j - i))=if x=k then some v else qny x es
 | [],i,j,q,h=>by cases h
 | e::es,i,j,q,h=>by
  simp only [q91] at h
  by_cases hk:k=e.1
  ·rw [(he k e.1).2 hk] at h
   simp only [cond_true,Option.some.injEq,Prod.mk.injEq] at h
   obtain ⟨rfl,_⟩:=h
   refine ⟨Nat.le_refl _,fun x=>?_⟩
   simp only [Nat.sub_self,qgg,qny,hk]
   split<;>rfl
  ·rw [eq_f he hk] at h
   simp only [cond_false] at h
   obtain ⟨h1,h2⟩:=qxf k v h
   refine ⟨by omega,fun x=>?_⟩
   rw [show j - i=(j - (i+1))+1 by omega]
   simp only [qgg,qny,h2]
   by_cases hx:x=e.1
   ·have:¬ x=k:=fun h=>hk (h ▸ hx)
    simp [hx]
    intro h; exact absurd h.symm hk
   ·simp [hx]
omit he [DecidableEq K] in
theorem qun (v:V):∀ (es:List (K×V×Nat)) (i:Nat),(qgg v es i).map (fun e=>e.1)=es.map (fun e=>e.1)∧(qgg v es i).map (fun e=>e.2.2)=es.map (fun e=>e.2.2)
 | [],i=>by simp [qgg]
 | e::es,0=>by simp [qgg]
 | e::es,i+1=>by simp [qgg,qun v es i]
omit he in
theorem qxe (x k:K) (v:V) (b:Nat):∀ es:List (K×V×Nat),qny x (es++[(k,v,b)])=if qny x es=none then (if x=k then some v else none) else qny x es
 | []=>by simp [qny]
 | e::es=>by
  simp only [List.cons_append,qny]
  by_cases hx:x=e.1
  ·simp [hx]
  ·simp only [hx,if_false]; exact qxe x k v b es
structure MInv (m:q67 K V):Prop where
 keys:(m.es.map (fun e=>e.1)).Nodup
 borns:(m.es.map (fun e=>e.2.2)).Nodup
 lt:∀ e∈m.es,e.2.2<m.cl
omit he in
theorem MInv.app {m:q67 K V} (h:MInv m) {k:K} (hf:qny k m.es=none) (v:V):MInv (⟨m.es++[(k,v,m.cl)],m.cl+1⟩:q67 K V):=by
 refine ⟨?_,?_,?_⟩
 ·simp only [List.map_append,List.map_cons,List.map_nil]
  rw [List.nodup_append]
  refine ⟨h.keys,by simp,?_⟩
  intro a ha b hb hab
  simp only [List.mem_singleton] at hb
  subst hab hb
  clear h
  generalize m.es=es at *
  induction es with
  | nil=>simp at ha
  | cons e es ih =>
   simp only [qny] at hf
   by_cases hx:a=e.1
   ·simp [hx] at hf
   ·simp only [hx,if_false] at hf
    simp only [List.map_cons,List.mem_cons,hx,false_or] at ha
    exact ih ha hf
 ·simp only [List.map_append,List.map_cons,List.map_nil]
  rw [List.nodup_append]
  refine ⟨h.borns,by simp,?_⟩
  intro a ha b hb hab
  simp only [List.mem_singleton] at hb
  obtain ⟨e,he,rfl⟩:=List.mem_map.1 ha
  have:=h.lt e he
  omega
 ·intro e he
  rcases List.mem_append.1 he with he | he
  ·have:=h.lt e he; simp only; omega
  ·simp only [List.mem_singleton] at he; subst he; simp
omit he [DecidableEq K] in
theorem MInv.set {m:q67 K V} (h:MInv m) (v:V) (i:Nat):MInv (⟨qgg v m.es i,m.cl⟩:q67 K V):=by
 obtain ⟨h1,h2⟩:=qun v m.es i
 refine ⟨by simp only [h1]; exact h.keys,by simp only [h2]; exact h.borns,fun e he=>?_⟩
 have:e.2.2∈(qgg v m.es i).map (fun e=>e.2.2):=List.mem_map.2 ⟨e,he,rfl⟩
 rw [h2] at this
 obtain ⟨e',g1,g2⟩:=List.mem_map.1 this
 have:=h.lt e' g1
 simp only at g2 ⊢
 omega
theorem upd_ok {m:q67 K V} (h:MInv m) (k:K) (v:V):MInv (qne eq m k v)∧∀ x,qny x (qne eq m k v).es=if x=k then some v else qny x m.es:=by
 unfold qne
 cases hf:q91 eq k m.es 0 with
 | none =>
  have hg:qny k m.es=none:=by rw [← qoy he k m.es 0,hf]; rfl
  refine ⟨h.app hg v,fun x=>?_⟩
  simp only [qxe]
  by_cases hx:x=k
  ·simp [hx,hg]
  ·simp only [hx,if_false]; split<;>simp_all
 | some q =>
  obtain ⟨j,q⟩:=q
  have:=(qxf he k v hf).2
  exact ⟨h.set v j,fun x=>by simpa using this x⟩
end
end Go.Vx
end
