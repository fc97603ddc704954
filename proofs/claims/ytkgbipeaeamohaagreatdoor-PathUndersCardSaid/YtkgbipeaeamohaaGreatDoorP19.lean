/-
  Texts of the walk: H4 PlA MpA H5 H6 H7 H11 Q1 Q4.
-/
import Derived.Test.YtkgbipeaeamohaaGreatDoorP18
set_option linter.unusedSimpArgs false
set_option linter.unusedVariables false
section
namespace Go.Proofs
open Go Go.Rx Go.Vx Tryz
set_option maxRecDepth 20000
set_option maxHeartbeats 4000000
set_option synthInstance.maxSize 4000
set_option synthInstance.maxHeartbeats 200000
theorem qm7 (n:Nat) (p1:List q0x) (p2:Int) (r:(List Int)) (hF:qea n p1 p2=some r):EvU Tryz.prog 73 [.isl false (List.map q0g p1),.int .i64 p2] ⟨[],0⟩ (fun u _=>u = .isl false (List.map (cI .i64) r)∧Bel 0 u):=by
 unfold qea at hF
 refine bg2 62 fn73 ?_
 refine gr ?_
 refine gr ?_
 refine gr ?_
 refine WPU.ghost (tm':=fr 62 [(0,.iM q0g p1),(1,.i6 p2),(5,.vl 0 0 0 (([]:List Int).length)),(6,.i6 0)]) (σ':=⟨[(0,.vec (List.map (cI .i64) ([]:List Int)).flatten 3 1 0)],1⟩) (Gh.trans (z1h 5 3 1 (by decide) NZ rfl rfl) (z1g ⟨rfl,rfl,rfl,rfl,trivial⟩ rfl)) NZ ?_
 refine gS (l':=[(0,_),(1,_),(5,_),(6,_)]) ?_
 refine z1b (fun m tm σ=>∃ z8:Int,∃ l9:List Int,∃ t10:Nat,q2e p1 p2 n m z8 l9=some r∧tm=fr 62 [(0,.iM q0g p1),(1,.i6 p2),(5,.vl 0 t10 0 l9.length),(6,.i6 z8)]∧σ=⟨[(0,.vec (List.map (cI .i64) l9).flatten 3 1 t10)],1⟩) (fun tm σ=>∃ l11:List Int,∃ t12:Nat,q9v l11=some r∧tm=fr 62 [(5,.vl 0 t12 0 l11.length)]∧σ=⟨[(0,.vec (List.map (cI .i64) l11).flatten 3 1 t12)],1⟩) n ⟨0,([]:List Int),0,hF,rfl,rfl⟩ ?_ ?_
 rintro _ _ ⟨l11,t12,hF,rfl,rfl⟩
 unfold q9v at hF
 refine go ?_
 obtain rfl:=sI hF
 exact rT (us:=[.vl 0 t12 0 l11.length]) (u:=.iM (cI .i64) l11) (q2k rfl (q33)) (fR 0 1)
 rintro (_|m1) _ _ ⟨z8,l9,t10,hF,rfl,rfl⟩
 cases hF
 unfold q2e at hF
 refine go ?_
 refine RS.q rfl (q0b rfl rfl rfl (q07 q0g und99)) ?_
 refine go ?_
 refine cF hF (fun h13 hF=>?_) (fun h13 hF=>?_)
 refine go ?_
 refine WPU.block ?_
 obtain ⟨b17,h18,hF⟩:=q00 hF
 refine gn ?_
 refine z1c (fun tm σ=>tm=fr 62 [(0,.iM q0g p1),(1,.i6 p2),(5,.vl 0 t10 0 l9.length),(6,.i6 z8),(24,.bool b17)]∧σ=⟨[(0,.vec (List.map (cI .i64) l9).flatten 3 1 t10)],1⟩) ?_ ?_
 rintro _ _ ⟨rfl,rfl⟩
 refine go ?_
 refine cF hF (fun h19 hF=>?_) (fun h19 hF=>?_)
 refine go ?_
 exact lC ⟨_,l9,t10,hF,rfl,rfl⟩
 refine go ?_
 refine gS (l':=[(0,_),(1,_),(5,_),(6,_),(7,_),(8,_)]) ?_
 refine z1b (fun m tm σ=>∃ b27:Bool,∃ z28:Int,q6f p1 p2 n z8 l9 (q2e p1 p2 n m1) m b27 z28=some r∧tm=fr 62 [(0,.iM q0g p1),(1,.i6 p2),(5,.vl 0 t10 0 l9.length),(6,.i6 z8),(7,.bool b27),(8,.i6 z28)]∧σ=⟨[(0,.vec (List.map (cI .i64) l9).flatten 3 1 t10)],1⟩) (fun tm σ=>∃ b29:Bool,q9w z8 l9 (q2e p1 p2 n m1) b29=some r∧tm=fr 62 [(0,.iM q0g p1),(1,.i6 p2),(5,.vl 0 t10 0 l9.length),(6,.i6 z8),(7,.bool b29)]∧σ=⟨[(0,.vec (List.map (cI .i64) l9).flatten 3 1 t10)],1⟩) n ⟨true,0,hF,rfl,rfl⟩ ?_ ?_
 rintro _ _ ⟨b29,hF,rfl,rfl⟩
 unfold q9w at hF
 refine gr ?_
 refine z1c (fun tm σ=>∃ l31:List Int,∃ t32:Nat,q6e z8 (q2e p1 p2 n m1) l31=some r∧tm=fr 62 [(0,.iM q0g p1),(1,.i6 p2),(5,.vl 0 t32 0 l31.length),(6,.i6 z8)]∧σ=⟨[(0,.vec (List.map (cI .i64) l31).flatten 3 1 t32)],1⟩) ?_ ?_
 rintro _ _ ⟨l31,t32,hF,rfl,rfl⟩
 unfold q6e at hF
 refine go ?_
 exact lC ⟨_,l31,t32,hF,rfl,rfl⟩
 refine cF hF (fun h30 hF=>?_) (fun h30 hF=>?_)
 obtain ⟨h33,hF⟩:=q0a hF
 refine go ?_
 refine RS.q (u:=.sl 1 0 1 1) (σ':=⟨[(1,.row [.i6 z8] 3),(0,.vec (List.map (cI .i64) l9).flatten 3 1 t10)],2⟩) rfl (q0j und33 inf3 rfl rfl rfl rfl rfl rfl rfl) (RS.q (u:=.vl 0 (t10+1) 0 ((l9++[z8]).length)) (σ':=⟨[(1,.row [.i6 z8] 3),(0,.vec (List.map (cI .i64) (l9++[z8])).flatten 3 1 (t10+1))],2⟩) rfl (q1l rfl rfl rfl rfl (q1s (cI .i64) ([z8]) und33 und33 inf3 rfl (q16 .i64) rfl (q1i (cI .i64) [z8] rfl rfl rfl rfl) h33)) ?_)
 refine go ?_
 exact xC ⟨(l9++[z8]),(t10+1),hF,rfl,rfl⟩
 refine go ?_
 exact xC ⟨l9,t10,hF,rfl,rfl⟩
 rintro (_|m2) _ _ ⟨b27,z28,hF,rfl,rfl⟩
 cases hF
 unfold q6f at hF
 refine go ?_
 refine RS.q rfl (q0b rfl rfl rfl (q07 q0g und99)) ?_
 refine go ?_
 refine cF hF (fun h34 hF=>?_) (fun h34 hF=>?_)
 refine go ?_
 refine WPU.block ?_
 obtain ⟨b43,h44,hF⟩:=q00 hF
 refine gn ?_
 refine z1c (fun tm σ=>tm=fr 62 [(0,.iM q0g p1),(1,.i6 p2),(5,.vl 0 t10 0 l9.length),(6,.i6 z8),(7,.bool b43),(8,.i6 z28)]∧σ=⟨[(0,.vec (List.map (cI .i64) l9).flatten 3 1 t10)],1⟩) ?_ ?_
 rintro _ _ ⟨rfl,rfl⟩
 refine go ?_
 exact lC ⟨b43,(IntKind.i64.wrap (z28+1)),hF,rfl,rfl⟩
 rcases gB h44 with ⟨h35,h44⟩ | ⟨h35,h44⟩
 rcases gB h44 with ⟨h36,h44⟩ | ⟨h36,h44⟩
 exact gy h44
 rcases gB h44 with ⟨h37,h44⟩ | ⟨h37,h44⟩
 exact gy h44
 obtain ⟨r38,h39,h44⟩:=q00 h44
 rcases gB h44 with ⟨h40,h44⟩ | ⟨h40,h44⟩
 obtain rfl:=sI h44
 refine go ?_
 refine RS.cl rfl (pC (q3x n p1 z8 z28 r38 h39) _) fn100 ?_
 refine go ?_
 exact xC ⟨rfl,rfl⟩
 obtain ⟨r41,h42,h44⟩:=q00 h44
 obtain rfl:=sI h44
 refine go ?_
 refine RS.cl rfl (pC (q3x n p1 z8 z28 r38 h39) _) fn100 ?_
 refine go ?_
 refine RS.cl rfl (pC (q3x n p1 z28 p2 r41 h42) _) fn100 ?_
 refine go ?_
 exact xC ⟨rfl,rfl⟩
 obtain rfl:=sI h44
 refine go ?_
 repeat refine RS.no (qlq rfl rfl rfl) rfl rfl ?_
 refine go ?_
 repeat refine RS.no (qlq rfl rfl rfl) rfl rfl ?_
 refine go ?_
 repeat refine RS.no (qlq rfl rfl rfl) rfl rfl ?_
 refine go ?_
 exact xC ⟨rfl,rfl⟩
 refine go ?_
 exact xC ⟨b27,hF,rfl,rfl⟩
 rcases gB h18 with ⟨h14,h18⟩ | ⟨h14,h18⟩
 exact gy h18
 obtain ⟨r15,h16,h18⟩:=q00 h18
 obtain rfl:=sI h18
 refine go ?_
 refine RS.cl rfl (pC (q3x n p1 z8 p2 r15 h16) _) fn100 ?_
 refine go ?_
 exact xC ⟨rfl,rfl⟩
 refine go ?_
 exact xC ⟨l9,t10,hF,rfl,rfl⟩
def q74  (l18:List q1n):Option ((List q1n)×Int) :=
 some (l18,0)
def q4z (p1:List q05) (n:Nat) (r5:(List q0x)×Int) (r7:(List (List UInt8))):Nat→Int→(List q1n)→Option ((List q1n)×Int)
 | 0,_,_=>none
 | m1+1,z15,l16 =>
  cond (decide (z15<(r7.length:Int)))
   (q04 (q12 r7 z15) fun x21 =>
   q04 (qd7 n p1 x21) fun r23 =>
   q04 (q12 r7 z15) fun x25 =>
   q04 (q89 n r5.1 r23.1) fun r27 =>
   q1e ((l16.length+1)*24≤140737488355328∧l16.length+1≤140737488355328) (
   (q4z p1 n r5 r7 m1) (IntKind.i64.wrap (z15+1)) (l16++[(q1n.mk x25 r27)])))
   (q74 l16)
def qbj (n:Nat) (p1:List q05):Option ((List q1n)×Int) :=
 q04 (qd5 n p1) fun r2 =>
 cond (r2 != 0)
  (some ([],r2))
  (q04 (q73 n p1) fun r5 =>
  q04 (qa1 n p1) fun r7 =>
  q4z p1 n r5 r7 n 0 ([]:List q1n))
theorem qjj (n:Nat) (p1:List q05) (r:(List q1n)×Int) (hF:qbj n p1=some r):EvU Tryz.prog 74 [.isl false (List.map q02 p1)] ⟨[],0⟩ (fun u _=>u = .tup [.isl false (List.map q1a r.1),.int .i64 r.2]∧Bel 0 u):=by
 unfold qbj at hF
 refine bg1 51 fn74 ?_
 obtain ⟨r2,h3,hF⟩:=q00 hF
 refine go ?_
 refine RS.cl rfl (pC (qhc n p1 r2 h3) _) fn90 ?_
 refine go ?_
 refine cF hF (fun h4 hF=>?_) (fun h4 hF=>?_)
 refine go ?_
 obtain rfl:=sI hF
 exact rT (us:=[.nils,.i6 r2]) (u:=.tup [.isl false [],.i6 r2]) (q2k rfl (q2k rfl (q33))) wR
 obtain ⟨r5,h6,hF⟩:=q00 hF
 refine go ?_
 refine RS.cl rfl (pC (q94 n p1 r5 h6) _) fn72 ?_
 obtain ⟨r7,h8,hF⟩:=q00 hF
 refine go ?_
 refine RS.cl rfl (pC (qd6 n p1 r7 h8) _) fn91 ?_
 refine gr ?_
 refine gr ?_
 refine WPU.ghost (tm':=fr 51 [(0,.iM q02 p1),(5,.iM q0g r5.1),(7,.iM cS r7),(8,.vl 0 0 0 (([]:List q1n).length)),(9,.i6 0)]) (σ':=⟨[(0,.vec (List.map q1a ([]:List q1n)).flatten 82 2 0)],1⟩) (Gh.trans (z1h 8 82 2 (by decide) NZ rfl rfl) (z1g ⟨rfl,rfl,rfl,rfl,rfl,trivial⟩ rfl)) NZ ?_
 refine gS (l':=[(0,_),(5,_),(7,_),(8,_),(9,_)]) ?_
 refine z1b (fun m tm σ=>∃ z15:Int,∃ l16:List q1n,∃ t17:Nat,q4z p1 n r5 r7 m z15 l16=some r∧tm=fr 51 [(0,.iM q02 p1),(5,.iM q0g r5.1),(7,.iM cS r7),(8,.vl 0 t17 0 l16.length),(9,.i6 z15)]∧σ=⟨[(0,.vec (List.map q1a l16).flatten 82 2 t17)],1⟩) (fun tm σ=>∃ l18:List q1n,∃ t19:Nat,q74 l18=some r∧tm=fr 51 [(8,.vl 0 t19 0 l18.length)]∧σ=⟨[(0,.vec (List.map q1a l18).flatten 82 2 t19)],1⟩) n ⟨0,([]:List q1n),0,hF,rfl,rfl⟩ ?_ ?_
 rintro _ _ ⟨l18,t19,hF,rfl,rfl⟩
 unfold q74 at hF
 refine go ?_
 obtain rfl:=sI hF
 exact rT (us:=[.vl 0 t19 0 l18.length,.i6 0]) (u:=.tup [.iM q1a l18,.i6 0]) (q2k rfl (q2k rfl (q33))) (fR 0 2)
 rintro (_|m1) _ _ ⟨z15,l16,t17,hF,rfl,rfl⟩
 cases hF
 unfold q4z at hF
 refine go ?_
 refine RS.q rfl (q0b rfl rfl rfl (q07 cS und80)) ?_
 refine go ?_
 refine cF hF (fun h20 hF=>?_) (fun h20 hF=>?_)
 refine go ?_
 refine WPU.block ?_
 obtain ⟨x21,h22,hF⟩:=q00 hF
 obtain ⟨r23,h24,hF⟩:=q00 hF
 refine go ?_
 refine RS.q rfl (q0h rfl rfl (q09 cS und80 (q03 inf9) q1k h22 rfl)) (RS.q rfl (q0d und9 rfl rfl rfl) (RS.cl rfl (pC (qhd n p1 x21 r23 h24) _) fn101 ?_))
 obtain ⟨x25,h26,hF⟩:=q00 hF
 obtain ⟨r27,h28,hF⟩:=q00 hF
 obtain ⟨h29,hF⟩:=q0a hF
 refine go ?_
 refine z1d Tryz.tb_ok [(0,9)] (by kernel_rfl) ?_
 repeat refine RD.mv rfl rfl rfl rfl ?_
 refine RD.q rfl (q0h rfl rfl (q09 cS und80 (q03 inf9) q1k h26 rfl)) (RD.q rfl (q0d und9 rfl rfl rfl) ?_)
 repeat refine RD.mv rfl rfl rfl rfl ?_
 refine RD.fl rfl (pC (qbn n r5.1 r23.1 r27 h28)) fn102 (RD.q (u:=.agg [.str x25,.i6 r27]) rfl (q34 bd82 rfl rfl rfl) (RD.act (u:=.sl 1 0 1 1) (σ':=⟨[(1,.row [.str x25,.i6 r27] 82),(0,.vec (List.map q1a l16).flatten 82 2 t17)],2⟩) rfl (q0j und41 inf82 rfl rfl rfl rfl rfl rfl rfl) rfl rfl (RD.act (u:=.vl 0 (t17+1) 0 ((l16++[(q1n.mk x25 r27)]).length)) (σ':=⟨[(1,.row [.str x25,.i6 r27] 82),(0,.vec (List.map q1a (l16++[(q1n.mk x25 r27)])).flatten 82 2 (t17+1))],2⟩) rfl (q1l rfl rfl rfl rfl (q1s q1a ([(q1n.mk x25 r27)]) und41 und41 inf82 rfl q8t rfl (q1i q1a [(q1n.mk x25 r27)] rfl rfl rfl rfl) h29)) rfl rfl (RD.as rfl rfl rfl rfl ?_))))
 refine RD.done ⟨by kernel_rfl,⟨q1u rfl,trivial⟩,?_⟩
 refine go ?_
 exact lC ⟨_,(l16++[(q1n.mk x25 r27)]),(t17+1),hF,rfl,rfl⟩
 refine go ?_
 exact xC ⟨l16,t17,hF,rfl,rfl⟩
def q8h (p1:List q05) (n:Nat) (l16:List qbp):Option (q17×Int) :=
 q04 (qbj n p1) fun r18 =>
 some ((q17.mk l16 r18.1),0)
def q5h (p1:List q05) (n:Nat) (r2:(List (List q18))×Int) (r5:(List q0x)×Int):Nat→Int→(List qbp)→Option (q17×Int)
 | 0,_,_=>none
 | m1+1,z13,l14 =>
  cond (decide (z13<(r5.1.length:Int)))
   (q04 (q12 r5.1 z13) fun x21 =>
   q04 (q12 r5.1 z13) fun x23 =>
   q04 (qea n r5.1 z13) fun r25 =>
   q04 (q12 r2.1 z13) fun x27 =>
   q1e ((l14.length+1)*88≤140737488355328∧l14.length+1≤140737488355328) (
   (q5h p1 n r2 r5 m1) (IntKind.i64.wrap (z13+1)) (l14++[(qbp.mk x21.Name x23.Code r25 x27)])))
   (q8h p1 n l14)
def qd9 (n:Nat) (p1:List q05):Option (q17×Int) :=
 q04 (qed n p1) fun r2 =>
 cond (r2.2 != 0)
  (some ((q17.mk [] []),r2.2))
  (q04 (q73 n p1) fun r5 =>
  q5h p1 n r2 r5 n 0 ([]:List qbp))
theorem qld (n:Nat) (p1:List q05) (r:q17×Int) (hF:qd9 n p1=some r):EvU Tryz.prog 51 [.isl false (List.map q02 p1)] ⟨[],0⟩ (fun u _=>u = .tup [.agg (q06 r.1),.int .i64 r.2]∧Bel 0 u):=by
 unfold qd9 at hF
 refine bg1 63 fn51 ?_
 refine go ?_
 refine RS.q (u:=.ptr 0 0 0) (σ':=⟨[(0,.row [.nils,.nils] 43)],1⟩) rfl (q1d inf43 rfl rfl) ?_
 obtain ⟨r2,h3,hF⟩:=q00 hF
 refine go ?_
 refine RS.cl rfl (pC (qma n p1 r2 h3) _) fn71 ?_
 refine go ?_
 refine cF hF (fun h4 hF=>?_) (fun h4 hF=>?_)
 refine go ?_
 refine RS.q (u:=.agg [.nils,.nils]) rfl (q34 bd43 rfl rfl rfl) ?_
 refine go ?_
 refine z1f (u:=.junk) (σ':=⟨[(0,.row [.nils,.nils] 43)],1⟩) rfl (q0p (q03 inf43) rfl rfl rfl rfl rfl rfl rfl rfl) rfl ?_
 refine go ?_
 obtain rfl:=sI hF
 exact rT (us:=[.agg [.nils,.nils],.i6 r2.2]) (u:=.tup [.agg [.isl false [],.isl false []],.i6 r2.2]) (qio (q14 und43 rfl (q03 inf43) rfl rfl rfl) (q2k rfl (q33))) wR
 obtain ⟨r5,h6,hF⟩:=q00 hF
 refine go ?_
 refine RS.cl rfl (pC (q94 n p1 r5 h6) _) fn72 ?_
 refine go ?_
 refine RS.q (u:=.ptr 1 0 0) (σ':=⟨[(1,.row [.nils,.nils] 43),(0,.row [.nils,.nils] 43)],2⟩) rfl (q1d inf43 rfl rfl) ?_
 refine gr ?_
 refine WPU.ghost (tm':=fr 63 [(0,.iM q02 p1),(2,.ptr 0 0 0),(4,.iM (cL q0u) r2.1),(6,.iM q0g r5.1),(8,.ptr 1 0 0),(9,.i6 0)]) (σ':=⟨[(2,.vec (List.map q84 ([]:List qbp)).flatten 109 4 0),(1,.row [.vl 2 0 0 (([]:List qbp).length),.nils] 43),(0,.row [.nils,.nils] 43)],3⟩) (Gh.trans (z1m 1 0 109 4 (by decide) NZ rfl rfl) (z1g ⟨rfl,rfl,rfl,rfl,rfl,rfl,trivial⟩ rfl)) NZ ?_
 refine gS (l':=[(0,_),(2,_),(4,_),(6,_),(8,_),(9,_)]) ?_
 refine z1b (fun m tm σ=>∃ z13:Int,∃ l14:List qbp,∃ t15:Nat,q5h p1 n r2 r5 m z13 l14=some r∧tm=fr 63 [(0,.iM q02 p1),(2,.ptr 0 0 0),(4,.iM (cL q0u) r2.1),(6,.iM q0g r5.1),(8,.ptr 1 0 0),(9,.i6 z13)]∧σ=⟨[(2,.vec (List.map q84 l14).flatten 109 4 t15),(1,.row [.vl 2 t15 0 l14.length,.nils] 43),(0,.row [.nils,.nils] 43)],3⟩) (fun tm σ=>∃ l16:List qbp,∃ t17:Nat,q8h p1 n l16=some r∧tm=fr 63 [(0,.iM q02 p1),(2,.ptr 0 0 0),(8,.ptr 1 0 0)]∧σ=⟨[(2,.vec (List.map q84 l16).flatten 109 4 t17),(1,.row [.vl 2 t17 0 l16.length,.nils] 43),(0,.row [.nils,.nils] 43)],3⟩) n ⟨0,([]:List qbp),0,hF,rfl,rfl⟩ ?_ ?_
 rintro _ _ ⟨l16,t17,hF,rfl,rfl⟩
 unfold q8h at hF
 obtain ⟨r18,h19,hF⟩:=q00 hF
 refine go ?_
 refine RS.cl rfl (pC (qjj n p1 r18 h19) _) fn74 ?_
 refine go ?_
 refine RS.q rfl (q0s und43 rfl (q03 inf41) rfl rfl rfl) ?_
 refine z1f (u:=.junk) (σ':=⟨[(2,.vec (List.map q84 l16).flatten 109 4 t17),(1,.row [.vl 2 t17 0 l16.length,.iM q1a r18.1] 43),(0,.row [.nils,.nils] 43)],3⟩) rfl (q0p (q03 inf41) rfl rfl rfl rfl rfl rfl rfl rfl) rfl ?_
 refine go ?_
 refine RS.q (u:=.agg [.vl 2 t17 0 l16.length,.iM q1a r18.1]) rfl (q14 und43 rfl (q03 inf43) rfl rfl rfl) ?_
 refine z1f (u:=.junk) (σ':=⟨[(2,.vec (List.map q84 l16).flatten 109 4 t17),(1,.row [.vl 2 t17 0 l16.length,.iM q1a r18.1] 43),(0,.row [.vl 2 t17 0 l16.length,.iM q1a r18.1] 43)],3⟩) rfl (q0p (q03 inf43) rfl rfl rfl rfl rfl rfl rfl rfl) rfl ?_
 refine go ?_
 obtain rfl:=sI hF
 exact rT (us:=[.agg [.vl 2 t17 0 l16.length,.iM q1a r18.1],.i6 0]) (u:=.tup [.agg [.iM q84 l16,.iM q1a r18.1],.i6 0]) (qio (q14 und43 rfl (q03 inf43) rfl rfl rfl) (q2k rfl (q33))) (fR 2 4)
 rintro (_|m1) _ _ ⟨z13,l14,t15,hF,rfl,rfl⟩
 cases hF
 unfold q5h at hF
 refine go ?_
 refine RS.q rfl (q0b rfl rfl rfl (q07 q0g und99)) ?_
 refine go ?_
 refine cF hF (fun h20 hF=>?_) (fun h20 hF=>?_)
 refine go ?_
 refine WPU.block ?_
 obtain ⟨x21,h22,hF⟩:=q00 hF
 obtain ⟨x23,h24,hF⟩:=q00 hF
 obtain ⟨r25,h26,hF⟩:=q00 hF
 obtain ⟨x27,h28,hF⟩:=q00 hF
 obtain ⟨h29,hF⟩:=q0a hF
 refine go ?_
 refine z1d Tryz.tb_ok [(0,20),(1,20)] (by kernel_rfl) ?_
 refine RD.q rfl (q0s und43 rfl (q03 inf40) rfl rfl rfl) (RD.q rfl (q0l und40 rfl rfl rfl rfl) ?_)
 repeat refine RD.mv rfl rfl rfl rfl ?_
 refine RD.q rfl (q0h rfl rfl (q09 q0g und99 (q03 inf105) q1p h22 rfl)) (RD.q rfl (q1m und105 rfl (q03 inf9) rfl rfl) (RD.q rfl (q0d und9 rfl rfl rfl) ?_))
 repeat refine RD.mv rfl rfl rfl rfl ?_
 refine RD.q rfl (q0h rfl rfl (q09 q0g und99 (q03 inf105) q1p h24 rfl)) (RD.q rfl (q1m und105 rfl (q03 inf103) rfl rfl) (RD.q rfl (q0d und103 rfl rfl rfl) ?_))
 repeat refine RD.mv rfl rfl rfl rfl ?_
 refine RD.fl rfl (pC (qm7 n r5.1 z13 r25 h26)) fn73 ?_
 repeat refine RD.mv rfl rfl rfl rfl ?_
 refine RD.q rfl (q0h rfl rfl (q09 (cL q0u) und96 (q03 inf107) (q3v q0u) h28 rfl)) (RD.q rfl (q0d und107 rfl rfl rfl) (RD.q (u:=.agg [.str x21.Name,.iM (cI .u64) x23.Code,.iM (cI .i64) r25,.iM q0u x27]) rfl (q34 bd109 rfl rfl rfl) (RD.act (u:=.sl 3 0 1 1) (σ':=⟨[(3,.row [.str x21.Name,.iM (cI .u64) x23.Code,.iM (cI .i64) r25,.iM q0u x27] 109),(2,.vec (List.map q84 l14).flatten 109 4 t15),(1,.row [.vl 2 t15 0 l14.length,.nils] 43),(0,.row [.nils,.nils] 43)],4⟩) rfl (q0j und40 inf109 rfl rfl rfl rfl rfl rfl rfl) rfl rfl (RD.act (u:=.vl 2 (t15+1) 0 ((l14++[(qbp.mk x21.Name x23.Code r25 x27)]).length)) (σ':=⟨[(3,.row [.str x21.Name,.iM (cI .u64) x23.Code,.iM (cI .i64) r25,.iM q0u x27] 109),(2,.vec (List.map q84 (l14++[(qbp.mk x21.Name x23.Code r25 x27)])).flatten 109 4 (t15+1)),(1,.row [.vl 2 t15 0 l14.length,.nils] 43),(0,.row [.nils,.nils] 43)],4⟩) rfl (q1l rfl rfl rfl rfl (q1s q84 ([(qbp.mk x21.Name x23.Code r25 x27)]) und40 und40 inf109 rfl qmx rfl (q1i q84 [(qbp.mk x21.Name x23.Code r25 x27)] rfl rfl rfl rfl) h29)) rfl rfl (RD.q rfl (q0s und43 rfl (q03 inf40) rfl rfl rfl) ?_)))))
 refine z1l (u:=.junk) (σ':=⟨[(3,.row [.str x21.Name,.iM (cI .u64) x23.Code,.iM (cI .i64) r25,.iM q0u x27] 109),(2,.vec (List.map q84 (l14++[(qbp.mk x21.Name x23.Code r25 x27)])).flatten 109 4 (t15+1)),(1,.row [.vl 2 (t15+1) 0 ((l14++[(qbp.mk x21.Name x23.Code r25 x27)]).length),.nils] 43),(0,.row [.nils,.nils] 43)],4⟩) rfl (q0p (q03 inf40) rfl rfl rfl rfl rfl rfl rfl rfl) rfl ?_
 refine RD.done ⟨by kernel_rfl,⟨q0s und43 rfl (q03 inf40) rfl rfl rfl,⟨q0l und40 rfl rfl rfl rfl,trivial⟩⟩,?_⟩
 refine go ?_
 exact lC ⟨_,(l14++[(qbp.mk x21.Name x23.Code r25 x27)]),(t15+1),hF,rfl,rfl⟩
 refine go ?_
 exact xC ⟨l14,t15,hF,rfl,rfl⟩
def qdb (p1:List UInt8) (p2:List UInt8) (l15:List q0t):Option (q05) :=
 some (q05.mk p1 ([p2]) l15)
def q99 (p1:List UInt8) (p2:List UInt8) (p3:List (List UInt8)):Nat→Int→(List q0t)→Option (q05)
 | 0,_,_=>none
 | m1+1,z12,l13 =>
  cond (decide ((IntKind.i64.wrap (z12+1))<(p3.length:Int)))
   (q04 (q12 p3 z12) fun x18 =>
   q04 (q12 p3 (IntKind.i64.wrap (z12+1))) fun x20 =>
   q1e ((l13.length+1)*32≤140737488355328∧l13.length+1≤140737488355328) (
   (q99 p1 p2 p3 m1) (IntKind.i64.wrap (z12+2)) (l13++[(q0t.mk x18 x20)])))
   (qdb p1 p2 l13)
def qdc (p1:List UInt8) (l32:List q0t):Option (q05) :=
 some (q05.mk p1 [] l32)
def q9a (p1:List UInt8) (p3:List (List UInt8)):Nat→Int→(List q0t)→Option (q05)
 | 0,_,_=>none
 | m2+1,z29,l30 =>
  cond (decide ((IntKind.i64.wrap (z29+1))<(p3.length:Int)))
   (q04 (q12 p3 z29) fun x35 =>
   q04 (q12 p3 (IntKind.i64.wrap (z29+1))) fun x37 =>
   q1e ((l30.length+1)*32≤140737488355328∧l30.length+1≤140737488355328) (
   (q9a p1 p3 m2) (IntKind.i64.wrap (z29+2)) (l30++[(q0t.mk x35 x37)])))
   (qdc p1 l30)
def q2a (n:Nat) (p1:List UInt8) (p2:List UInt8) (p3:List (List UInt8)):Option (q05) :=
 cond (!q1o p2 [])
  (q99 p1 p2 p3 n 0 ([]:List q0t))
  (q9a p1 p3 n 0 ([]:List q0t))
theorem q20 (n:Nat) (p1:List UInt8) (p2:List UInt8) (p3:List (List UInt8)) (r:q05) (hF:q2a n p1 p2 p3=some r):EvU Tryz.prog 82 [.str p1,.str p2,.isl false (List.map cS p3)] ⟨[],0⟩ (fun u _=>u = .agg (q02 r)∧Bel 0 u):=by
 unfold q2a at hF
 refine bg3 39 fn82 ?_
 refine go ?_
 refine RS.q (u:=.ptr 0 0 0) (σ':=⟨[(0,.row [.str [],.nils,.nils] 127)],1⟩) rfl (q1d inf127 rfl rfl) ?_
 refine go ?_
 refine RS.q (u:=.agg [.str p1,.nils,.nils]) rfl (q34 bd127 rfl rfl rfl) (RS.q (u:=.ptr 1 0 0) (σ':=⟨[(1,.row [.str [],.nils,.nils] 127),(0,.row [.str [],.nils,.nils] 127)],2⟩) rfl (q1d inf127 rfl rfl) ?_)
 refine z1f (u:=.junk) (σ':=⟨[(1,.row [.str p1,.nils,.nils] 127),(0,.row [.str [],.nils,.nils] 127)],2⟩) rfl (q0p (q03 inf127) rfl rfl rfl rfl rfl rfl rfl rfl) rfl ?_
 refine go ?_
 refine RS.q (u:=.bool (!q1o p2 [])) rfl (q8o rfl rfl rfl rfl) ?_
 refine go ?_
 refine cF hF (fun h4 hF=>?_) (fun h4 hF=>?_)
 refine go ?_
 refine RS.q (u:=.sl 2 0 1 1) (σ':=⟨[(2,.row [.str p2] 9),(1,.row [.str p1,.nils,.nils] 127),(0,.row [.str [],.nils,.nils] 127)],3⟩) rfl (q0j und80 inf9 rfl rfl rfl rfl rfl rfl rfl) (RS.q rfl (q0s und127 rfl (q03 inf80) rfl rfl rfl) ?_)
 refine z1f (u:=.junk) (σ':=⟨[(2,.row [.str p2] 9),(1,.row [.str p1,.sl 2 0 1 1,.nils] 127),(0,.row [.str [],.nils,.nils] 127)],3⟩) rfl (q0p (q03 inf80) rfl rfl rfl rfl rfl rfl rfl rfl) rfl ?_
 refine gr ?_
 refine WPU.ghost (tm':=fr 39 [(2,.iM cS p3),(6,.ptr 0 0 0),(7,.ptr 1 0 0),(8,.i6 0)]) (σ':=⟨[(3,.vec (List.map q0f ([]:List q0t)).flatten 162 2 0),(2,.row [.str p2] 9),(1,.row [.str p1,.sl 2 0 1 1,.vl 3 0 0 (([]:List q0t).length)] 127),(0,.row [.str [],.nils,.nils] 127)],4⟩) (Gh.trans (z1m 1 2 162 2 (by decide) NZ rfl rfl) (z1g ⟨rfl,rfl,rfl,rfl,trivial⟩ rfl)) NZ ?_
 refine gS (l':=[(2,_),(6,_),(7,_),(8,_)]) ?_
 refine z1b (fun m tm σ=>∃ z12:Int,∃ l13:List q0t,∃ t14:Nat,q99 p1 p2 p3 m z12 l13=some r∧tm=fr 39 [(2,.iM cS p3),(6,.ptr 0 0 0),(7,.ptr 1 0 0),(8,.i6 z12)]∧σ=⟨[(3,.vec (List.map q0f l13).flatten 162 2 t14),(2,.row [.str p2] 9),(1,.row [.str p1,.sl 2 0 1 1,.vl 3 t14 0 l13.length] 127),(0,.row [.str [],.nils,.nils] 127)],4⟩) (fun tm σ=>∃ l15:List q0t,∃ t16:Nat,qdb p1 p2 l15=some r∧tm=fr 39 [(6,.ptr 0 0 0),(7,.ptr 1 0 0)]∧σ=⟨[(3,.vec (List.map q0f l15).flatten 162 2 t16),(2,.row [.str p2] 9),(1,.row [.str p1,.sl 2 0 1 1,.vl 3 t16 0 l15.length] 127),(0,.row [.str [],.nils,.nils] 127)],4⟩) n ⟨0,([]:List q0t),0,hF,rfl,rfl⟩ ?_ ?_
 rintro _ _ ⟨l15,t16,hF,rfl,rfl⟩
 unfold qdb at hF
 refine go ?_
 refine RS.q (u:=.agg [.str p1,.sl 2 0 1 1,.vl 3 t16 0 l15.length]) rfl (q14 und127 rfl (q03 inf127) rfl rfl rfl) ?_
 refine z1f (u:=.junk) (σ':=⟨[(3,.vec (List.map q0f l15).flatten 162 2 t16),(2,.row [.str p2] 9),(1,.row [.str p1,.sl 2 0 1 1,.vl 3 t16 0 l15.length] 127),(0,.row [.str p1,.sl 2 0 1 1,.vl 3 t16 0 l15.length] 127)],4⟩) rfl (q0p (q03 inf127) rfl rfl rfl rfl rfl rfl rfl rfl) rfl ?_
 refine go ?_
 obtain rfl:=sI hF
 exact ⟨.inr rfl,[.agg [.str p1,.sl 2 0 1 1,.vl 3 t16 0 l15.length]],qio (q14 und127 rfl (q03 inf127) rfl rfl rfl) (q33),.agg [.str p1,.iM cS ([p2]),.iM q0f l15],⟨[],0⟩,Nat.le_refl _,Gh.trans (z1e 2 1) (Gh.trans (z1e 3 2) (z1o (.agg [.str p1,.iM cS ([p2]),.iM q0f l15]) rfl)),rfl,BU.h⟩
 rintro (_|m1) _ _ ⟨z12,l13,t14,hF,rfl,rfl⟩
 cases hF
 unfold q99 at hF
 refine go ?_
 refine RS.q rfl (q0b rfl rfl rfl (q07 cS und80)) ?_
 refine go ?_
 refine cF hF (fun h17 hF=>?_) (fun h17 hF=>?_)
 refine go ?_
 refine WPU.block ?_
 obtain ⟨x18,h19,hF⟩:=q00 hF
 obtain ⟨x20,h21,hF⟩:=q00 hF
 obtain ⟨h22,hF⟩:=q0a hF
 refine go ?_
 refine z1d Tryz.tb_ok [(0,12),(1,12)] (by kernel_rfl) ?_
 refine RD.q rfl (q0s und127 rfl (q03 inf125) rfl rfl rfl) (RD.q rfl (q0l und125 rfl rfl rfl rfl) ?_)
 repeat refine RD.mv rfl rfl rfl rfl ?_
 refine RD.q rfl (q0h rfl rfl (q09 cS und80 (q03 inf9) q1k h19 rfl)) (RD.q rfl (q0d und9 rfl rfl rfl) ?_)
 repeat refine RD.mv rfl rfl rfl rfl ?_
 refine RD.q rfl (q2i rfl rfl (qmw _ _ _) rfl) (RD.q rfl (q0h rfl rfl (q09 cS und80 (q03 inf9) q1k h21 rfl)) (RD.q rfl (q0d und9 rfl rfl rfl) (RD.q (u:=.agg [.str x18,.str x20]) rfl (q34 bd162 rfl rfl rfl) (RD.act (u:=.sl 4 0 1 1) (σ':=⟨[(4,.row [.str x18,.str x20] 162),(3,.vec (List.map q0f l13).flatten 162 2 t14),(2,.row [.str p2] 9),(1,.row [.str p1,.sl 2 0 1 1,.vl 3 t14 0 l13.length] 127),(0,.row [.str [],.nils,.nils] 127)],5⟩) rfl (q0j und125 inf162 rfl rfl rfl rfl rfl rfl rfl) rfl rfl (RD.act (u:=.vl 3 (t14+1) 0 ((l13++[(q0t.mk x18 x20)]).length)) (σ':=⟨[(4,.row [.str x18,.str x20] 162),(3,.vec (List.map q0f (l13++[(q0t.mk x18 x20)])).flatten 162 2 (t14+1)),(2,.row [.str p2] 9),(1,.row [.str p1,.sl 2 0 1 1,.vl 3 t14 0 l13.length] 127),(0,.row [.str [],.nils,.nils] 127)],5⟩) rfl (q1l rfl rfl rfl rfl (q1s q0f ([(q0t.mk x18 x20)]) und125 und125 inf162 rfl q22 rfl (q1i q0f [(q0t.mk x18 x20)] rfl rfl rfl rfl) h22)) rfl rfl (RD.q rfl (q0s und127 rfl (q03 inf125) rfl rfl rfl) ?_))))))
 refine z1l (u:=.junk) (σ':=⟨[(4,.row [.str x18,.str x20] 162),(3,.vec (List.map q0f (l13++[(q0t.mk x18 x20)])).flatten 162 2 (t14+1)),(2,.row [.str p2] 9),(1,.row [.str p1,.sl 2 0 1 1,.vl 3 (t14+1) 0 ((l13++[(q0t.mk x18 x20)]).length)] 127),(0,.row [.str [],.nils,.nils] 127)],5⟩) rfl (q0p (q03 inf125) rfl rfl rfl rfl rfl rfl rfl rfl) rfl ?_
 refine RD.done ⟨by kernel_rfl,⟨q0s und127 rfl (q03 inf125) rfl rfl rfl,⟨q0l und125 rfl rfl rfl rfl,trivial⟩⟩,?_⟩
 refine go ?_
 exact lC ⟨_,(l13++[(q0t.mk x18 x20)]),(t14+1),hF,rfl,rfl⟩
 refine go ?_
 exact xC ⟨l13,t14,hF,rfl,rfl⟩
 refine gr ?_
 refine WPU.ghost (tm':=fr 39 [(2,.iM cS p3),(6,.ptr 0 0 0),(7,.ptr 1 0 0),(8,.i6 0)]) (σ':=⟨[(2,.vec (List.map q0f ([]:List q0t)).flatten 162 2 0),(1,.row [.str p1,.nils,.vl 2 0 0 (([]:List q0t).length)] 127),(0,.row [.str [],.nils,.nils] 127)],3⟩) (Gh.trans (z1m 1 2 162 2 (by decide) NZ rfl rfl) (z1g ⟨rfl,rfl,rfl,rfl,trivial⟩ rfl)) NZ ?_
 refine gS (l':=[(2,_),(6,_),(7,_),(8,_)]) ?_
 refine z1b (fun m tm σ=>∃ z29:Int,∃ l30:List q0t,∃ t31:Nat,q9a p1 p3 m z29 l30=some r∧tm=fr 39 [(2,.iM cS p3),(6,.ptr 0 0 0),(7,.ptr 1 0 0),(8,.i6 z29)]∧σ=⟨[(2,.vec (List.map q0f l30).flatten 162 2 t31),(1,.row [.str p1,.nils,.vl 2 t31 0 l30.length] 127),(0,.row [.str [],.nils,.nils] 127)],3⟩) (fun tm σ=>∃ l32:List q0t,∃ t33:Nat,qdc p1 l32=some r∧tm=fr 39 [(6,.ptr 0 0 0),(7,.ptr 1 0 0)]∧σ=⟨[(2,.vec (List.map q0f l32).flatten 162 2 t33),(1,.row [.str p1,.nils,.vl 2 t33 0 l32.length] 127),(0,.row [.str [],.nils,.nils] 127)],3⟩) n ⟨0,([]:List q0t),0,hF,rfl,rfl⟩ ?_ ?_
 rintro _ _ ⟨l32,t33,hF,rfl,rfl⟩
 unfold qdc at hF
 refine go ?_
 refine RS.q (u:=.agg [.str p1,.nils,.vl 2 t33 0 l32.length]) rfl (q14 und127 rfl (q03 inf127) rfl rfl rfl) ?_
 refine z1f (u:=.junk) (σ':=⟨[(2,.vec (List.map q0f l32).flatten 162 2 t33),(1,.row [.str p1,.nils,.vl 2 t33 0 l32.length] 127),(0,.row [.str p1,.nils,.vl 2 t33 0 l32.length] 127)],3⟩) rfl (q0p (q03 inf127) rfl rfl rfl rfl rfl rfl rfl rfl) rfl ?_
 refine go ?_
 obtain rfl:=sI hF
 exact ⟨.inr rfl,[.agg [.str p1,.nils,.vl 2 t33 0 l32.length]],qio (q14 und127 rfl (q03 inf127) rfl rfl rfl) (q33),.agg [.str p1,.isl false [],.iM q0f l32],⟨[],0⟩,Nat.le_refl _,Gh.trans (z1e 2 2) (Gh.trans (Gh.wk (.cons (.agg (.cons (.refl _) (.cons (.nil false) (.cons (.refl _) .nil)))) .nil)) (z1o (.agg [.str p1,.isl false [],.iM q0f l32]) rfl)),rfl,BU.h⟩
 rintro (_|m2) _ _ ⟨z29,l30,t31,hF,rfl,rfl⟩
 cases hF
 unfold q9a at hF
 refine go ?_
 refine RS.q rfl (q0b rfl rfl rfl (q07 cS und80)) ?_
 refine go ?_
 refine cF hF (fun h34 hF=>?_) (fun h34 hF=>?_)
 refine go ?_
 refine WPU.block ?_
 obtain ⟨x35,h36,hF⟩:=q00 hF
 obtain ⟨x37,h38,hF⟩:=q00 hF
 obtain ⟨h39,hF⟩:=q0a hF
 refine go ?_
 refine z1d Tryz.tb_ok [(0,12),(1,12)] (by kernel_rfl) ?_
 refine RD.q rfl (q0s und127 rfl (q03 inf125) rfl rfl rfl) (RD.q rfl (q0l und125 rfl rfl rfl rfl) ?_)
 repeat refine RD.mv rfl rfl rfl rfl ?_
 refine RD.q rfl (q0h rfl rfl (q09 cS und80 (q03 inf9) q1k h36 rfl)) (RD.q rfl (q0d und9 rfl rfl rfl) ?_)
 repeat refine RD.mv rfl rfl rfl rfl ?_
 refine RD.q rfl (q2i rfl rfl (qmw _ _ _) rfl) (RD.q rfl (q0h rfl rfl (q09 cS und80 (q03 inf9) q1k h38 rfl)) (RD.q rfl (q0d und9 rfl rfl rfl) (RD.q (u:=.agg [.str x35,.str x37]) rfl (q34 bd162 rfl rfl rfl) (RD.act (u:=.sl 3 0 1 1) (σ':=⟨[(3,.row [.str x35,.str x37] 162),(2,.vec (List.map q0f l30).flatten 162 2 t31),(1,.row [.str p1,.nils,.vl 2 t31 0 l30.length] 127),(0,.row [.str [],.nils,.nils] 127)],4⟩) rfl (q0j und125 inf162 rfl rfl rfl rfl rfl rfl rfl) rfl rfl (RD.act (u:=.vl 2 (t31+1) 0 ((l30++[(q0t.mk x35 x37)]).length)) (σ':=⟨[(3,.row [.str x35,.str x37] 162),(2,.vec (List.map q0f (l30++[(q0t.mk x35 x37)])).flatten 162 2 (t31+1)),(1,.row [.str p1,.nils,.vl 2 t31 0 l30.length] 127),(0,.row [.str [],.nils,.nils] 127)],4⟩) rfl (q1l rfl rfl rfl rfl (q1s q0f ([(q0t.mk x35 x37)]) und125 und125 inf162 rfl q22 rfl (q1i q0f [(q0t.mk x35 x37)] rfl rfl rfl rfl) h39)) rfl rfl (RD.q rfl (q0s und127 rfl (q03 inf125) rfl rfl rfl) ?_))))))
 refine z1l (u:=.junk) (σ':=⟨[(3,.row [.str x35,.str x37] 162),(2,.vec (List.map q0f (l30++[(q0t.mk x35 x37)])).flatten 162 2 (t31+1)),(1,.row [.str p1,.nils,.vl 2 (t31+1) 0 ((l30++[(q0t.mk x35 x37)]).length)] 127),(0,.row [.str [],.nils,.nils] 127)],4⟩) rfl (q0p (q03 inf125) rfl rfl rfl rfl rfl rfl rfl rfl) rfl ?_
 refine RD.done ⟨by kernel_rfl,⟨q0s und127 rfl (q03 inf125) rfl rfl rfl,⟨q0l und125 rfl rfl rfl rfl,trivial⟩⟩,?_⟩
 refine go ?_
 exact lC ⟨_,(l30++[(q0t.mk x35 x37)]),(t31+1),hF,rfl,rfl⟩
 refine go ?_
 exact xC ⟨l30,t31,hF,rfl,rfl⟩
def qda (n:Nat)  : Option ((List q05)) :=
 q04 (q2a n ([116,111,112]) [] []) fun r1 =>
 q04 (q2a n ([108,105,115,116]) ([116,111,112]) []) fun r3 =>
 q04 (q2a n ([99,111,110,115]) ([108,105,115,116]) ([[70,73,82,83,84],[116,111,112],[82,69,83,84],[108,105,115,116]])) fun r5 =>
 q04 (q2a n ([110,117,108,108]) ([108,105,115,116]) []) fun r7 =>
 q04 (q2a n ([100,108,105,115,116]) ([116,111,112]) ([[76,73,83,84],[108,105,115,116],[76,65,83,84],[108,105,115,116]])) fun r9 =>
 q04 (q2a n ([105,110,100,101,120]) ([116,111,112]) []) fun r11 =>
 q04 (q2a n ([104,97,110,100,108,101]) ([105,110,100,101,120]) []) fun r13 =>
 q04 (q2a n ([101,118,101,110,116]) ([105,110,100,101,120]) []) fun r15 =>
 q04 (q2a n ([101,110,116,105,116,121]) ([105,110,100,101,120]) []) fun r17 =>
 q04 (q2a n ([114,101,108]) ([116,111,112]) ([[76,65,66,69,76],[104,97,110,100,108,101]])) fun r19 =>
 q04 (q2a n ([113,101,113]) ([116,111,112]) ([[72,73,71,72],[104,97,110,100,108,101],[76,79,87],[104,97,110,100,108,101]])) fun r21 =>
 q04 (q2a n ([115,101,109]) ([116,111,112]) ([[84,79,80],[104,97,110,100,108,101],[73,78,68,69,88],[105,110,100,101,120],[82,69,76,83],[100,108,105,115,116],[67,79,78,83],[100,108,105,115,116]])) fun r23 =>
 q04 (q2a n ([115,105,103,110]) ([116,111,112]) ([[83,69,77],[115,101,109],[65,82,71,83],[108,105,115,116]])) fun r25 =>
 some ([r1,r3,r5,r7,r9,r11,r13,r15,r17,r19,r21,r23,r25])
theorem qle (n:Nat)  (r:(List q05)) (hF:qda n  = some r):EvU Tryz.prog 60 [] ⟨[],0⟩ (fun u _=>u = .isl false (List.map q02 r)∧Bel 0 u):=by
 unfold qda at hF
 refine bg0 21 fn60 ?_
 obtain ⟨r1,h2,hF⟩:=q00 hF
 obtain ⟨r3,h4,hF⟩:=q00 hF
 obtain ⟨r5,h6,hF⟩:=q00 hF
 obtain ⟨r7,h8,hF⟩:=q00 hF
 obtain ⟨r9,h10,hF⟩:=q00 hF
 obtain ⟨r11,h12,hF⟩:=q00 hF
 obtain ⟨r13,h14,hF⟩:=q00 hF
 obtain ⟨r15,h16,hF⟩:=q00 hF
 obtain ⟨r17,h18,hF⟩:=q00 hF
 obtain ⟨r19,h20,hF⟩:=q00 hF
 obtain ⟨r21,h22,hF⟩:=q00 hF
 obtain ⟨r23,h24,hF⟩:=q00 hF
 obtain ⟨r25,h26,hF⟩:=q00 hF
 refine go ?_
 refine RS.cl rfl (z1j (args':=[.str ([116,111,112]),.str [],.isl false []]) (.cons (.refl _) (.cons (.refl _) (.cons (.nil false) .nil))) (pC (q20 n ([116,111,112]) [] [] r1 h2)) _) fn82 (RS.cl rfl (z1j (args':=[.str ([108,105,115,116]),.str ([116,111,112]),.isl false []]) (.cons (.refl _) (.cons (.refl _) (.cons (.nil false) .nil))) (pC (q20 n ([108,105,115,116]) ([116,111,112]) [] r3 h4)) _) fn82 (RS.q (u:=.sl 0 0 4 4) (σ':=⟨[(0,.row [.str ([70,73,82,83,84]),.str ([116,111,112]),.str ([82,69,83,84]),.str ([108,105,115,116])] 9)],1⟩) rfl (q0j und80 inf9 rfl rfl rfl rfl rfl rfl rfl) ?_))
 refine z1i rfl (z1e 0 1) (pC (q20 n ([99,111,110,115]) ([108,105,115,116]) ([[70,73,82,83,84],[116,111,112],[82,69,83,84],[108,105,115,116]]) r5 h6) _) fn82 ?_
 refine RS.cl rfl (z1j (args':=[.str ([110,117,108,108]),.str ([108,105,115,116]),.isl false []]) (.cons (.refl _) (.cons (.refl _) (.cons (.nil false) .nil))) (pC (q20 n ([110,117,108,108]) ([108,105,115,116]) [] r7 h8)) _) fn82 (RS.q (u:=.sl 1 0 4 4) (σ':=⟨[(1,.row [.str ([76,73,83,84]),.str ([108,105,115,116]),.str ([76,65,83,84]),.str ([108,105,115,116])] 9)],2⟩) rfl (q0j und80 inf9 rfl rfl rfl rfl rfl rfl rfl) ?_)
 refine z1i rfl (z1e 1 1) (pC (q20 n ([100,108,105,115,116]) ([116,111,112]) ([[76,73,83,84],[108,105,115,116],[76,65,83,84],[108,105,115,116]]) r9 h10) _) fn82 ?_
 refine RS.cl rfl (z1j (args':=[.str ([105,110,100,101,120]),.str ([116,111,112]),.isl false []]) (.cons (.refl _) (.cons (.refl _) (.cons (.nil false) .nil))) (pC (q20 n ([105,110,100,101,120]) ([116,111,112]) [] r11 h12)) _) fn82 (RS.cl rfl (z1j (args':=[.str ([104,97,110,100,108,101]),.str ([105,110,100,101,120]),.isl false []]) (.cons (.refl _) (.cons (.refl _) (.cons (.nil false) .nil))) (pC (q20 n ([104,97,110,100,108,101]) ([105,110,100,101,120]) [] r13 h14)) _) fn82 (RS.cl rfl (z1j (args':=[.str ([101,118,101,110,116]),.str ([105,110,100,101,120]),.isl false []]) (.cons (.refl _) (.cons (.refl _) (.cons (.nil false) .nil))) (pC (q20 n ([101,118,101,110,116]) ([105,110,100,101,120]) [] r15 h16)) _) fn82 (RS.cl rfl (z1j (args':=[.str ([101,110,116,105,116,121]),.str ([105,110,100,101,120]),.isl false []]) (.cons (.refl _) (.cons (.refl _) (.cons (.nil false) .nil))) (pC (q20 n ([101,110,116,105,116,121]) ([105,110,100,101,120]) [] r17 h18)) _) fn82 (RS.q (u:=.sl 2 0 2 2) (σ':=⟨[(2,.row [.str ([76,65,66,69,76]),.str ([104,97,110,100,108,101])] 9)],3⟩) rfl (q0j und80 inf9 rfl rfl rfl rfl rfl rfl rfl) ?_))))
 refine z1i rfl (z1e 2 1) (pC (q20 n ([114,101,108]) ([116,111,112]) ([[76,65,66,69,76],[104,97,110,100,108,101]]) r19 h20) _) fn82 ?_
 refine RS.q (u:=.sl 3 0 4 4) (σ':=⟨[(3,.row [.str ([72,73,71,72]),.str ([104,97,110,100,108,101]),.str ([76,79,87]),.str ([104,97,110,100,108,101])] 9)],4⟩) rfl (q0j und80 inf9 rfl rfl rfl rfl rfl rfl rfl) ?_
 refine z1i rfl (z1e 3 1) (pC (q20 n ([113,101,113]) ([116,111,112]) ([[72,73,71,72],[104,97,110,100,108,101],[76,79,87],[104,97,110,100,108,101]]) r21 h22) _) fn82 ?_
 refine RS.q (u:=.sl 4 0 8 8) (σ':=⟨[(4,.row [.str ([84,79,80]),.str ([104,97,110,100,108,101]),.str ([73,78,68,69,88]),.str ([105,110,100,101,120]),.str ([82,69,76,83]),.str ([100,108,105,115,116]),.str ([67,79,78,83]),.str ([100,108,105,115,116])] 9)],5⟩) rfl (q0j und80 inf9 rfl rfl rfl rfl rfl rfl rfl) ?_
 refine z1i rfl (z1e 4 1) (pC (q20 n ([115,101,109]) ([116,111,112]) ([[84,79,80],[104,97,110,100,108,101],[73,78,68,69,88],[105,110,100,101,120],[82,69,76,83],[100,108,105,115,116],[67,79,78,83],[100,108,105,115,116]]) r23 h24) _) fn82 ?_
 refine RS.q (u:=.sl 5 0 4 4) (σ':=⟨[(5,.row [.str ([83,69,77]),.str ([115,101,109]),.str ([65,82,71,83]),.str ([108,105,115,116])] 9)],6⟩) rfl (q0j und80 inf9 rfl rfl rfl rfl rfl rfl rfl) ?_
 refine z1i rfl (z1e 5 1) (pC (q20 n ([115,105,103,110]) ([116,111,112]) ([[83,69,77],[115,101,109],[65,82,71,83],[108,105,115,116]]) r25 h26) _) fn82 ?_
 refine RS.q (u:=.sl 6 0 13 13) (σ':=⟨[(6,.row [.str r1.Name,.iM cS r1.Supers,.iM q0f r1.Feats,.str r3.Name,.iM cS r3.Supers,.iM q0f r3.Feats,.str r5.Name,.iM cS r5.Supers,.iM q0f r5.Feats,.str r7.Name,.iM cS r7.Supers,.iM q0f r7.Feats,.str r9.Name,.iM cS r9.Supers,.iM q0f r9.Feats,.str r11.Name,.iM cS r11.Supers,.iM q0f r11.Feats,.str r13.Name,.iM cS r13.Supers,.iM q0f r13.Feats,.str r15.Name,.iM cS r15.Supers,.iM q0f r15.Feats,.str r17.Name,.iM cS r17.Supers,.iM q0f r17.Feats,.str r19.Name,.iM cS r19.Supers,.iM q0f r19.Feats,.str r21.Name,.iM cS r21.Supers,.iM q0f r21.Feats,.str r23.Name,.iM cS r23.Supers,.iM q0f r23.Feats,.str r25.Name,.iM cS r25.Supers,.iM q0f r25.Feats] 127)],7⟩) rfl (q0j und38 inf127 rfl rfl rfl rfl rfl rfl rfl) ?_
 refine go ?_
 obtain rfl:=sI hF
 exact rT (us:=[.sl 6 0 13 13]) (u:=.iM q02 ([r1,r3,r5,r7,r9,r11,r13,r15,r17,r19,r21,r23,r25])) (q2k rfl (q33)) (fR 6 3)
def qc6 (n:Nat)  : Option (q17) :=
 q04 (qda n) fun r1 =>
 q04 (qd9 n r1) fun r3 =>
 some (q17.mk r3.1.Types r3.1.Feats)
theorem qkx (n:Nat)  (r:q17) (hF:qc6 n  = some r):EvU Tryz.prog 31 [] ⟨[],0⟩ (fun u _=>u = .agg (q06 r)∧Bel 0 u):=by
 unfold qc6 at hF
 refine bg0 9 fn31 ?_
 refine go ?_
 refine RS.q (u:=.ptr 0 0 0) (σ':=⟨[(0,.row [.nils,.nils] 43)],1⟩) rfl (q1d inf43 rfl rfl) ?_
 obtain ⟨r1,h2,hF⟩:=q00 hF
 obtain ⟨r3,h4,hF⟩:=q00 hF
 refine go ?_
 refine RS.cl rfl (pC (qle n r1 h2) _) fn60 (RS.cl rfl (pC (qld n r1 r3 h4) _) fn51 ?_)
 refine go ?_
 refine RS.q (u:=.ptr 1 0 0) (σ':=⟨[(1,.row [.nils,.nils] 43),(0,.row [.nils,.nils] 43)],2⟩) rfl (q1d inf43 rfl rfl) ?_
 refine z1f (u:=.junk) (σ':=⟨[(1,.row (q06 r3.1) 43),(0,.row [.nils,.nils] 43)],2⟩) rfl (q0p (q03 inf43) rfl rfl rfl rfl rfl rfl rfl rfl) rfl ?_
 refine go ?_
 refine RS.q (u:=.agg (q06 r3.1)) rfl (q14 und43 rfl (q03 inf43) rfl rfl rfl) ?_
 refine z1f (u:=.junk) (σ':=⟨[(1,.row (q06 r3.1) 43),(0,.row (q06 r3.1) 43)],2⟩) rfl (q0p (q03 inf43) rfl rfl rfl rfl rfl rfl rfl rfl) rfl ?_
 refine go ?_
 obtain rfl:=sI hF
 exact rT (qio (q14 und43 rfl (q03 inf43) rfl rfl rfl) (q33)) (z1o _ rfl)
def qgx (n:Nat) (p1:List q0i):Option (GFS) :=
 some (GFS.mk p1)
theorem q5t (n:Nat) (p1:List q0i) (r:GFS) (hF:qgx n p1=some r):EvU Tryz.prog 43 [.isl false (List.map q01 p1)] ⟨[],0⟩ (fun u _=>u = .agg [.isl false (List.map q01 r.Nodes)]∧Bel 0 u):=by
 unfold qgx at hF
 refine bg1 5 fn43 ?_
 refine go ?_
 refine RS.q (u:=.ptr 0 0 0) (σ':=⟨[(0,.row [.nils] 24)],1⟩) rfl (q1d inf24 rfl rfl) ?_
 refine go ?_
 refine RS.q (u:=.agg [.iM q01 p1]) rfl (q34 bd24 rfl rfl rfl) ?_
 refine z1f (u:=.junk) (σ':=⟨[(0,.row [.iM q01 p1] 24)],1⟩) rfl (q0p (q03 inf24) rfl rfl rfl rfl rfl rfl rfl rfl) rfl ?_
 refine go ?_
 obtain rfl:=sI hF
 exact rT (qio (q14 und24 rfl (q03 inf24) rfl rfl rfl) (q33)) (z1o _ rfl)
def qc5 (p1:Int) (l12:List q0z):Option (q0i) :=
 some (q0i.mk p1 l12)
def q8s (p1:Int) (p2:List Int):Nat→Int→(List q0z)→Option (q0i)
 | 0,_,_=>none
 | m1+1,z9,l10 =>
  cond (decide ((IntKind.i64.wrap (z9+1))<(p2.length:Int)))
   (q04 (q12 p2 z9) fun x15 =>
   q04 (q12 p2 (IntKind.i64.wrap (z9+1))) fun x17 =>
   q1e ((l10.length+1)*16≤140737488355328∧l10.length+1≤140737488355328) (
   (q8s p1 p2 m1) (IntKind.i64.wrap (z9+2)) (l10++[(q0z.mk x15 x17)])))
   (qc5 p1 l10)
def q4p (n:Nat) (p1:Int) (p2:List Int):Option (q0i) :=
 q8s p1 p2 n 0 ([]:List q0z)
theorem q0y (n:Nat) (p1:Int) (p2:List Int) (r:q0i) (hF:q4p n p1 p2=some r):EvU Tryz.prog 44 [.int .i64 p1,.isl false (List.map (cI .i64) p2)] ⟨[],0⟩ (fun u _=>u = .agg (q01 r)∧Bel 0 u):=by
 unfold q4p at hF
 refine bg2 32 fn44 ?_
 refine go ?_
 refine RS.q (u:=.ptr 0 0 0) (σ':=⟨[(0,.row [.i6 0,.nils] 54)],1⟩) rfl (q1d inf54 rfl rfl) ?_
 refine go ?_
 refine RS.q (u:=.agg [.i6 p1,.nils]) rfl (q34 bd54 rfl rfl rfl) (RS.q (u:=.ptr 1 0 0) (σ':=⟨[(1,.row [.i6 0,.nils] 54),(0,.row [.i6 0,.nils] 54)],2⟩) rfl (q1d inf54 rfl rfl) ?_)
 refine z1f (u:=.junk) (σ':=⟨[(1,.row [.i6 p1,.nils] 54),(0,.row [.i6 0,.nils] 54)],2⟩) rfl (q0p (q03 inf54) rfl rfl rfl rfl rfl rfl rfl rfl) rfl ?_
 refine gr ?_
 refine WPU.ghost (tm':=fr 32 [(1,.iM (cI .i64) p2),(4,.ptr 0 0 0),(5,.ptr 1 0 0),(6,.i6 0)]) (σ':=⟨[(2,.vec (List.map q0c ([]:List q0z)).flatten 66 2 0),(1,.row [.i6 p1,.vl 2 0 0 (([]:List q0z).length)] 54),(0,.row [.i6 0,.nils] 54)],3⟩) (Gh.trans (z1m 1 1 66 2 (by decide) NZ rfl rfl) (z1g ⟨rfl,rfl,rfl,rfl,trivial⟩ rfl)) NZ ?_
 refine gS (l':=[(1,_),(4,_),(5,_),(6,_)]) ?_
 refine z1b (fun m tm σ=>∃ z9:Int,∃ l10:List q0z,∃ t11:Nat,q8s p1 p2 m z9 l10=some r∧tm=fr 32 [(1,.iM (cI .i64) p2),(4,.ptr 0 0 0),(5,.ptr 1 0 0),(6,.i6 z9)]∧σ=⟨[(2,.vec (List.map q0c l10).flatten 66 2 t11),(1,.row [.i6 p1,.vl 2 t11 0 l10.length] 54),(0,.row [.i6 0,.nils] 54)],3⟩) (fun tm σ=>∃ l12:List q0z,∃ t13:Nat,qc5 p1 l12=some r∧tm=fr 32 [(4,.ptr 0 0 0),(5,.ptr 1 0 0)]∧σ=⟨[(2,.vec (List.map q0c l12).flatten 66 2 t13),(1,.row [.i6 p1,.vl 2 t13 0 l12.length] 54),(0,.row [.i6 0,.nils] 54)],3⟩) n ⟨0,([]:List q0z),0,hF,rfl,rfl⟩ ?_ ?_
 rintro _ _ ⟨l12,t13,hF,rfl,rfl⟩
 unfold qc5 at hF
 refine go ?_
 refine RS.q (u:=.agg [.i6 p1,.vl 2 t13 0 l12.length]) rfl (q14 und54 rfl (q03 inf54) rfl rfl rfl) ?_
 refine z1f (u:=.junk) (σ':=⟨[(2,.vec (List.map q0c l12).flatten 66 2 t13),(1,.row [.i6 p1,.vl 2 t13 0 l12.length] 54),(0,.row [.i6 p1,.vl 2 t13 0 l12.length] 54)],3⟩) rfl (q0p (q03 inf54) rfl rfl rfl rfl rfl rfl rfl rfl) rfl ?_
 refine go ?_
 obtain rfl:=sI hF
 exact rT (us:=[.agg [.i6 p1,.vl 2 t13 0 l12.length]]) (u:=.agg [.i6 p1,.iM q0c l12]) (qio (q14 und54 rfl (q03 inf54) rfl rfl rfl) (q33)) (fR 2 2)
 rintro (_|m1) _ _ ⟨z9,l10,t11,hF,rfl,rfl⟩
 cases hF
 unfold q8s at hF
 refine go ?_
 refine RS.q rfl (q0b rfl rfl rfl (q07 (cI .i64) und33)) ?_
 refine go ?_
 refine cF hF (fun h14 hF=>?_) (fun h14 hF=>?_)
 refine go ?_
 refine WPU.block ?_
 obtain ⟨x15,h16,hF⟩:=q00 hF
 obtain ⟨x17,h18,hF⟩:=q00 hF
 obtain ⟨h19,hF⟩:=q0a hF
 refine go ?_
 refine z1d Tryz.tb_ok [(0,12),(1,12)] (by kernel_rfl) ?_
 refine RD.q rfl (q0s und54 rfl (q03 inf52) rfl rfl rfl) (RD.q rfl (q0l und52 rfl rfl rfl rfl) ?_)
 repeat refine RD.mv rfl rfl rfl rfl ?_
 refine RD.q rfl (q0h rfl rfl (q09 (cI .i64) und33 (q03 inf3) (q16 .i64) h16 rfl)) (RD.q rfl (q0d und3 rfl rfl rfl) ?_)
 repeat refine RD.mv rfl rfl rfl rfl ?_
 refine RD.q rfl (q2i rfl rfl (qmw _ _ _) rfl) (RD.q rfl (q0h rfl rfl (q09 (cI .i64) und33 (q03 inf3) (q16 .i64) h18 rfl)) (RD.q rfl (q0d und3 rfl rfl rfl) (RD.q (u:=.agg [.i6 x15,.i6 x17]) rfl (q34 bd66 rfl rfl rfl) (RD.act (u:=.sl 3 0 1 1) (σ':=⟨[(3,.row [.i6 x15,.i6 x17] 66),(2,.vec (List.map q0c l10).flatten 66 2 t11),(1,.row [.i6 p1,.vl 2 t11 0 l10.length] 54),(0,.row [.i6 0,.nils] 54)],4⟩) rfl (q0j und52 inf66 rfl rfl rfl rfl rfl rfl rfl) rfl rfl (RD.act (u:=.vl 2 (t11+1) 0 ((l10++[(q0z.mk x15 x17)]).length)) (σ':=⟨[(3,.row [.i6 x15,.i6 x17] 66),(2,.vec (List.map q0c (l10++[(q0z.mk x15 x17)])).flatten 66 2 (t11+1)),(1,.row [.i6 p1,.vl 2 t11 0 l10.length] 54),(0,.row [.i6 0,.nils] 54)],4⟩) rfl (q1l rfl rfl rfl rfl (q1s q0c ([(q0z.mk x15 x17)]) und52 und52 inf66 rfl q0o rfl (q1i q0c [(q0z.mk x15 x17)] rfl rfl rfl rfl) h19)) rfl rfl (RD.q rfl (q0s und54 rfl (q03 inf52) rfl rfl rfl) ?_))))))
 refine z1l (u:=.junk) (σ':=⟨[(3,.row [.i6 x15,.i6 x17] 66),(2,.vec (List.map q0c (l10++[(q0z.mk x15 x17)])).flatten 66 2 (t11+1)),(1,.row [.i6 p1,.vl 2 (t11+1) 0 ((l10++[(q0z.mk x15 x17)]).length)] 54),(0,.row [.i6 0,.nils] 54)],4⟩) rfl (q0p (q03 inf52) rfl rfl rfl rfl rfl rfl rfl rfl) rfl ?_
 refine RD.done ⟨by kernel_rfl,⟨q0s und54 rfl (q03 inf52) rfl rfl rfl,⟨q0l und52 rfl rfl rfl rfl,trivial⟩⟩,?_⟩
 refine go ?_
 exact lC ⟨_,(l10++[(q0z.mk x15 x17)]),(t11+1),hF,rfl,rfl⟩
 refine go ?_
 exact xC ⟨l10,t11,hF,rfl,rfl⟩
def qim (n:Nat) (p1:Int):Option (GFS) :=
 some (GFS.mk ([(q0i.mk p1 [])]))
theorem q5z (n:Nat) (p1:Int) (r:GFS) (hF:qim n p1=some r):EvU Tryz.prog 45 [.int .i64 p1] ⟨[],0⟩ (fun u _=>u = .agg [.isl false (List.map q01 r.Nodes)]∧Bel 0 u):=by
 unfold qim at hF
 refine bg1 7 fn45 ?_
 refine go ?_
 refine RS.q (u:=.ptr 0 0 0) (σ':=⟨[(0,.row [.nils] 24)],1⟩) rfl (q1d inf24 rfl rfl) ?_
 refine go ?_
 refine RS.q (u:=.agg [.i6 p1,.nils]) rfl (q34 bd54 rfl rfl rfl) (RS.q (u:=.sl 1 0 1 1) (σ':=⟨[(1,.row [.i6 p1,.nils] 54),(0,.row [.nils] 24)],2⟩) rfl (q0j und22 inf54 rfl rfl rfl rfl rfl rfl rfl) (RS.q (u:=.agg [.sl 1 0 1 1]) rfl (q34 bd24 rfl rfl rfl) ?_))
 refine z1f (u:=.junk) (σ':=⟨[(1,.row [.i6 p1,.nils] 54),(0,.row [.sl 1 0 1 1] 24)],2⟩) rfl (q0p (q03 inf24) rfl rfl rfl rfl rfl rfl rfl rfl) rfl ?_
 refine go ?_
 obtain rfl:=sI hF
 exact ⟨.inr rfl,[.agg [.sl 1 0 1 1]],qio (q14 und24 rfl (q03 inf24) rfl rfl rfl) (q33),.agg [.iM q01 ([(q0i.mk p1 [])])],⟨[],0⟩,Nat.le_refl _,Gh.trans (Gh.trans (z1t 1) (z1e 1 2)) (z1o (.agg [.iM q01 ([(q0i.mk p1 [])])]) rfl),rfl,BU.h⟩
def q2f (n:Nat)  : Option (Bool) :=
 q04 (q4p n 1 ([0,1,1,2])) fun r1 =>
 q04 (q4p n 3 ([0,2])) fun r3 =>
 q04 (q4p n 2 []) fun r5 =>
 q04 (qgx n ([r1,r3,r5])) fun r7 =>
 q04 (q04 (qev n r7) fun r9 =>
 q04 (q9q n r9 ([[],[0],[1]])) fun r11 =>
 cond (!r11)
  (some true)
  (q04 (qcm n r7) fun r14 =>
  q04 (q5k n r14 ([(q0m.mk ([1]) ([0,0]))])) fun r16 =>
  cond (!r16)
   (some true)
   (q04 (q4p n 1 ([5,0])) fun r19 =>
   q04 (qgx n ([r19])) fun r21 =>
   q04 (qcm n r21) fun r23 =>
   q04 (q5k n r23 ([(q0m.mk [] ([5]))])) fun r25 =>
   some (!r25)))) fun b27 =>
 cond b27
  (some false)
  (q04 (ql7 n r7 ([0,0])) fun r30 =>
  q04 (qnr n r7 ([0,1])) fun r32 =>
  q04 (qc6 n) fun r34 =>
  q04 (qbu n r34 ([82,69,83,84,46,70,73,82,83,84])) fun r36 =>
  q04 (qbu n r34 ([70,46])) fun r38 =>
  q04 (qbu n r34 ([70,73,82,83,84,46,71])) fun r40 =>
  q04 (cond (r30.1 == 2)
   (cond r30.2
    (cond (!r32.2)
     (q04 (qim n 7) fun r45 =>
     q04 (qbv n ([3,4]) r45) fun r47 =>
     q04 (q4p n 0 ([3,1])) fun r49 =>
     q04 (q4p n 0 ([4,2])) fun r51 =>
     q04 (q4p n 7 []) fun r53 =>
     q04 (qgx n ([r49,r51,r53])) fun r55 =>
     q04 (q5p n r47 r55) fun r57 =>
     cond r57
      (cond (r36.2 == 0)
       (q04 (q7f n r36.1 ([10,2])) fun r61 =>
       cond r61
        (q04 (qid n r34 r36.1) fun r64 =>
        cond (q1o r64 ([82,69,83,84,46,70,73,82,83,84]))
         (cond (r38.2 == 8)
          (some (r40.2 == 5))
          (some false))
         (some false))
        (some false))
       (some false))
      (some false))
     (some false))
    (some false))
   (some false)) fun b68 =>
  some b68)
theorem q8n (n:Nat)  (r:Bool) (hF:q2f n  = some r):EvU Tryz.prog 13 [] ⟨[],0⟩ (fun u _=>u = .bool r∧Bel 0 u):=by
 unfold q2f at hF
 refine bg0 122 fn13 ?_
 obtain ⟨r1,h2,hF⟩:=q00 hF
 obtain ⟨r3,h4,hF⟩:=q00 hF
 obtain ⟨r5,h6,hF⟩:=q00 hF
 obtain ⟨r7,h8,hF⟩:=q00 hF
 refine go ?_
 refine RS.q (u:=.sl 0 0 4 4) (σ':=⟨[(0,.row [.i6 0,.i6 1,.i6 1,.i6 2] 3)],1⟩) rfl (q0j und33 inf3 rfl rfl rfl rfl rfl rfl rfl) ?_
 refine z1i rfl (z1e 0 1) (pC (q0y n 1 ([0,1,1,2]) r1 h2) _) fn44 ?_
 refine RS.q (u:=.sl 1 0 2 2) (σ':=⟨[(1,.row [.i6 0,.i6 2] 3)],2⟩) rfl (q0j und33 inf3 rfl rfl rfl rfl rfl rfl rfl) ?_
 refine z1i rfl (z1e 1 1) (pC (q0y n 3 ([0,2]) r3 h4) _) fn44 ?_
 refine RS.cl rfl (z1j (args':=[.i6 2,.isl false []]) (.cons (.refl _) (.cons (.nil false) .nil)) (pC (q0y n 2 [] r5 h6)) _) fn44 (RS.q (u:=.sl 2 0 3 3) (σ':=⟨[(2,.row [.i6 r1.Typex,.iM q0c r1.Arcs,.i6 r3.Typex,.iM q0c r3.Arcs,.i6 r5.Typex,.iM q0c r5.Arcs] 54)],3⟩) rfl (q0j und22 inf54 rfl rfl rfl rfl rfl rfl rfl) ?_)
 refine z1i rfl (z1e 2 2) (pC (q5t n ([r1,r3,r5]) r7 h8) _) fn43 ?_
 refine RS.q (u:=.ptr 3 0 0) (σ':=⟨[(3,.row [.nils] 24)],4⟩) rfl (q1d inf24 rfl rfl) ?_
 refine z1f (u:=.junk) (σ':=⟨[(3,.row [.iM q01 r7.Nodes] 24)],4⟩) rfl (q0p (q03 inf24) rfl rfl rfl rfl rfl rfl rfl rfl) rfl ?_
 obtain ⟨b27,h28,hF⟩:=q00 hF
 refine gn ?_
 refine z1c (fun tm σ=>tm=fr 122 [(1,.ptr 3 0 0),(48,.bool b27)]∧σ=⟨[(6,.row [.nils,.sl 4 0 1 1,.sl 5 0 1 1] 33),(5,.row [.i6 1] 3),(4,.row [.i6 0] 3),(3,.row [.iM q01 r7.Nodes] 24)],7⟩) ?_ ?_
 rintro _ _ ⟨rfl,rfl⟩
 refine go ?_
 refine cF hF (fun h29 hF=>?_) (fun h29 hF=>?_)
 exact gx hF
 obtain ⟨r30,h31,hF⟩:=q00 hF
 refine go ?_
 refine RS.q (u:=.agg [.iM q01 r7.Nodes]) rfl (q14 und24 rfl (q03 inf24) rfl rfl rfl) (RS.q (u:=.sl 7 0 2 2) (σ':=⟨[(7,.row [.i6 0,.i6 0] 3),(6,.row [.nils,.sl 4 0 1 1,.sl 5 0 1 1] 33),(5,.row [.i6 1] 3),(4,.row [.i6 0] 3),(3,.row [.iM q01 r7.Nodes] 24)],8⟩) rfl (q0j und33 inf3 rfl rfl rfl rfl rfl rfl rfl) ?_)
 refine RS.cl rfl (EvU.viewT (qr8 n r7 ([0,0]) r30 h31) BUL.h (by simp only [toV,qom,okL,okC,cond_true]<;>rfl) (fun m=>by simp [ren,q19]) (z1e 7 1)) fn36 ?_
 obtain ⟨r32,h33,hF⟩:=q00 hF
 refine go ?_
 refine RS.q (u:=.agg [.iM q01 r7.Nodes]) rfl (q14 und24 rfl (q03 inf24) rfl rfl rfl) (RS.q (u:=.sl 8 0 2 2) (σ':=⟨[(8,.row [.i6 0,.i6 1] 3),(7,.row [.i6 0,.i6 0] 3),(6,.row [.nils,.sl 4 0 1 1,.sl 5 0 1 1] 33),(5,.row [.i6 1] 3),(4,.row [.i6 0] 3),(3,.row [.iM q01 r7.Nodes] 24)],9⟩) rfl (q0j und33 inf3 rfl rfl rfl rfl rfl rfl rfl) ?_)
 refine RS.cl rfl (EvU.viewT (qpp n r7 ([0,1]) r32 h33) BUL.h (by simp only [toV,qom,okL,okC,cond_true]<;>rfl) (fun m=>by simp [ren,q19]) (z1e 8 1)) fn30 ?_
 obtain ⟨r34,h35,hF⟩:=q00 hF
 refine go ?_
 refine RS.cl rfl (pC (qkx n r34 h35) _) fn31 (RS.q (u:=.ptr 9 0 0) (σ':=⟨[(9,.row [.nils,.nils] 43),(8,.row [.i6 0,.i6 1] 3),(7,.row [.i6 0,.i6 0] 3),(6,.row [.nils,.sl 4 0 1 1,.sl 5 0 1 1] 33),(5,.row [.i6 1] 3),(4,.row [.i6 0] 3),(3,.row [.iM q01 r7.Nodes] 24)],10⟩) rfl (q1d inf43 rfl rfl) ?_)
 refine z1f (u:=.junk) (σ':=⟨[(9,.row (q06 r34) 43),(8,.row [.i6 0,.i6 1] 3),(7,.row [.i6 0,.i6 0] 3),(6,.row [.nils,.sl 4 0 1 1,.sl 5 0 1 1] 33),(5,.row [.i6 1] 3),(4,.row [.i6 0] 3),(3,.row [.iM q01 r7.Nodes] 24)],10⟩) rfl (q0p (q03 inf43) rfl rfl rfl rfl rfl rfl rfl rfl) rfl ?_
 obtain ⟨r36,h37,hF⟩:=q00 hF
 refine go ?_
 refine RS.q (u:=.agg (q06 r34)) rfl (q14 und43 rfl (q03 inf43) rfl rfl rfl) (RS.cl rfl (pC (qe1 n r34 ([82,69,83,84,46,70,73,82,83,84]) r36 h37) _) fn26 ?_)
 obtain ⟨r38,h39,hF⟩:=q00 hF
 refine go ?_
 refine RS.q (u:=.agg (q06 r34)) rfl (q14 und43 rfl (q03 inf43) rfl rfl rfl) (RS.cl rfl (pC (qe1 n r34 ([70,46]) r38 h39) _) fn26 ?_)
 obtain ⟨r40,h41,hF⟩:=q00 hF
 refine go ?_
 refine RS.q (u:=.agg (q06 r34)) rfl (q14 und43 rfl (q03 inf43) rfl rfl rfl) (RS.cl rfl (pC (qe1 n r34 ([70,73,82,83,84,46,71]) r40 h41) _) fn26 ?_)
 obtain ⟨b68,h69,hF⟩:=q00 hF
 refine gn ?_
 refine z1c (fun tm σ=>tm=fr 122 [(0,.bool b68)]∧σ=⟨[(9,.row (q06 r34) 43),(8,.row [.i6 0,.i6 1] 3),(7,.row [.i6 0,.i6 0] 3),(6,.row [.nils,.sl 4 0 1 1,.sl 5 0 1 1] 33),(5,.row [.i6 1] 3),(4,.row [.i6 0] 3),(3,.row [.iM q01 r7.Nodes] 24)],10⟩) ?_ ?_
 rintro _ _ ⟨rfl,rfl⟩
 exact gx hF
 rcases gB h69 with ⟨h42,h69⟩ | ⟨h42,h69⟩
 rcases gB h69 with ⟨h43,h69⟩ | ⟨h43,h69⟩
 rcases gB h69 with ⟨h44,h69⟩ | ⟨h44,h69⟩
 obtain ⟨r45,h46,h69⟩:=q00 h69
 obtain ⟨r47,h48,h69⟩:=q00 h69
 obtain ⟨r49,h50,h69⟩:=q00 h69
 obtain ⟨r51,h52,h69⟩:=q00 h69
 obtain ⟨r53,h54,h69⟩:=q00 h69
 obtain ⟨r55,h56,h69⟩:=q00 h69
 obtain ⟨r57,h58,h69⟩:=q00 h69
 rcases gB h69 with ⟨h59,h69⟩ | ⟨h59,h69⟩
 rcases gB h69 with ⟨h60,h69⟩ | ⟨h60,h69⟩
 obtain ⟨r61,h62,h69⟩:=q00 h69
 rcases gB h69 with ⟨h63,h69⟩ | ⟨h63,h69⟩
 obtain ⟨r64,h65,h69⟩:=q00 h69
 rcases gB h69 with ⟨h66,h69⟩ | ⟨h66,h69⟩
 rcases gB h69 with ⟨h67,h69⟩ | ⟨h67,h69⟩
 obtain rfl:=sI h69
 refine go ?_
 refine RS.w (u:=.sl 10 0 2 2) (σ':=⟨[(10,.row [.i6 3,.i6 4] 3),(9,.row (q06 r34) 43),(8,.row [.i6 0,.i6 1] 3),(7,.row [.i6 0,.i6 0] 3),(6,.row [.nils,.sl 4 0 1 1,.sl 5 0 1 1] 33),(5,.row [.i6 1] 3),(4,.row [.i6 0] 3),(3,.row [.iM q01 r7.Nodes] 24)],11⟩) rfl (q0j und33 inf3 rfl rfl rfl rfl rfl rfl rfl) (RS.cl rfl (pC (q5z n 7 r45 h46) _) fn45 ?_)
 refine z1i rfl (z1e 10 1) (pC (q3p n ([3,4]) r45 r47 h48) _) fn22 ?_
 refine RS.w (u:=.sl 11 0 2 2) (σ':=⟨[(11,.row [.i6 3,.i6 1] 3),(9,.row (q06 r34) 43),(8,.row [.i6 0,.i6 1] 3),(7,.row [.i6 0,.i6 0] 3),(6,.row [.nils,.sl 4 0 1 1,.sl 5 0 1 1] 33),(5,.row [.i6 1] 3),(4,.row [.i6 0] 3),(3,.row [.iM q01 r7.Nodes] 24)],12⟩) rfl (q0j und33 inf3 rfl rfl rfl rfl rfl rfl rfl) ?_
 refine z1i rfl (z1e 11 1) (pC (q0y n 0 ([3,1]) r49 h50) _) fn44 ?_
 refine RS.w (u:=.sl 12 0 2 2) (σ':=⟨[(12,.row [.i6 4,.i6 2] 3),(9,.row (q06 r34) 43),(8,.row [.i6 0,.i6 1] 3),(7,.row [.i6 0,.i6 0] 3),(6,.row [.nils,.sl 4 0 1 1,.sl 5 0 1 1] 33),(5,.row [.i6 1] 3),(4,.row [.i6 0] 3),(3,.row [.iM q01 r7.Nodes] 24)],13⟩) rfl (q0j und33 inf3 rfl rfl rfl rfl rfl rfl rfl) ?_
 refine z1i rfl (z1e 12 1) (pC (q0y n 0 ([4,2]) r51 h52) _) fn44 ?_
 refine RS.cl rfl (z1j (args':=[.i6 7,.isl false []]) (.cons (.refl _) (.cons (.nil false) .nil)) (pC (q0y n 7 [] r53 h54)) _) fn44 (RS.w (u:=.sl 13 0 3 3) (σ':=⟨[(13,.row [.i6 r49.Typex,.iM q0c r49.Arcs,.i6 r51.Typex,.iM q0c r51.Arcs,.i6 r53.Typex,.iM q0c r53.Arcs] 54),(9,.row (q06 r34) 43),(8,.row [.i6 0,.i6 1] 3),(7,.row [.i6 0,.i6 0] 3),(6,.row [.nils,.sl 4 0 1 1,.sl 5 0 1 1] 33),(5,.row [.i6 1] 3),(4,.row [.i6 0] 3),(3,.row [.iM q01 r7.Nodes] 24)],14⟩) rfl (q0j und22 inf54 rfl rfl rfl rfl rfl rfl rfl) ?_)
 refine z1i rfl (z1e 13 2) (pC (q5t n ([r49,r51,r53]) r55 h56) _) fn43 ?_
 refine RS.cl rfl (pC (q2n n r47 r55 r57 h58) _) fn21 ?_
 refine go ?_
 refine RS.w (u:=.sl 14 0 2 2) (σ':=⟨[(14,.row [.i6 10,.i6 2] 3),(9,.row (q06 r34) 43),(8,.row [.i6 0,.i6 1] 3),(7,.row [.i6 0,.i6 0] 3),(6,.row [.nils,.sl 4 0 1 1,.sl 5 0 1 1] 33),(5,.row [.i6 1] 3),(4,.row [.i6 0] 3),(3,.row [.iM q01 r7.Nodes] 24)],15⟩) rfl (q0j und33 inf3 rfl rfl rfl rfl rfl rfl rfl) (RS.cl rfl (vw (q3w n r36.1 ([10,2]) r61 h62) (z1e 14 1)) fn28 ?_)
 refine go ?_
 refine RS.w (u:=.agg (q06 r34)) rfl (q14 und43 rfl (q03 inf43) rfl rfl rfl) ?_
 refine go ?_
 refine RS.cl rfl (pC (qe2 n r34 r36.1 r64 h65) _) fn25 (RS.w (u:=.bool (q1o r64 ([82,69,83,84,46,70,73,82,83,84]))) rfl (q8o rfl rfl rfl rfl) ?_)
 refine go ?_
 exact xC ⟨rfl,rfl⟩
 obtain rfl:=sI h69
 refine go ?_
 refine RS.w (u:=.sl 10 0 2 2) (σ':=⟨[(10,.row [.i6 3,.i6 4] 3),(9,.row (q06 r34) 43),(8,.row [.i6 0,.i6 1] 3),(7,.row [.i6 0,.i6 0] 3),(6,.row [.nils,.sl 4 0 1 1,.sl 5 0 1 1] 33),(5,.row [.i6 1] 3),(4,.row [.i6 0] 3),(3,.row [.iM q01 r7.Nodes] 24)],11⟩) rfl (q0j und33 inf3 rfl rfl rfl rfl rfl rfl rfl) (RS.cl rfl (pC (q5z n 7 r45 h46) _) fn45 ?_)
 refine z1i rfl (z1e 10 1) (pC (q3p n ([3,4]) r45 r47 h48) _) fn22 ?_
 refine RS.w (u:=.sl 11 0 2 2) (σ':=⟨[(11,.row [.i6 3,.i6 1] 3),(9,.row (q06 r34) 43),(8,.row [.i6 0,.i6 1] 3),(7,.row [.i6 0,.i6 0] 3),(6,.row [.nils,.sl 4 0 1 1,.sl 5 0 1 1] 33),(5,.row [.i6 1] 3),(4,.row [.i6 0] 3),(3,.row [.iM q01 r7.Nodes] 24)],12⟩) rfl (q0j und33 inf3 rfl rfl rfl rfl rfl rfl rfl) ?_
 refine z1i rfl (z1e 11 1) (pC (q0y n 0 ([3,1]) r49 h50) _) fn44 ?_
 refine RS.w (u:=.sl 12 0 2 2) (σ':=⟨[(12,.row [.i6 4,.i6 2] 3),(9,.row (q06 r34) 43),(8,.row [.i6 0,.i6 1] 3),(7,.row [.i6 0,.i6 0] 3),(6,.row [.nils,.sl 4 0 1 1,.sl 5 0 1 1] 33),(5,.row [.i6 1] 3),(4,.row [.i6 0] 3),(3,.row [.iM q01 r7.Nodes] 24)],13⟩) rfl (q0j und33 inf3 rfl rfl rfl rfl rfl rfl rfl) ?_
 refine z1i rfl (z1e 12 1) (pC (q0y n 0 ([4,2]) r51 h52) _) fn44 ?_
 refine RS.cl rfl (z1j (args':=[.i6 7,.isl false []]) (.cons (.refl _) (.cons (.nil false) .nil)) (pC (q0y n 7 [] r53 h54)) _) fn44 (RS.w (u:=.sl 13 0 3 3) (σ':=⟨[(13,.row [.i6 r49.Typex,.iM q0c r49.Arcs,.i6 r51.Typex,.iM q0c r51.Arcs,.i6 r53.Typex,.iM q0c r53.Arcs] 54),(9,.row (q06 r34) 43),(8,.row [.i6 0,.i6 1] 3),(7,.row [.i6 0,.i6 0] 3),(6,.row [.nils,.sl 4 0 1 1,.sl 5 0 1 1] 33),(5,.row [.i6 1] 3),(4,.row [.i6 0] 3),(3,.row [.iM q01 r7.Nodes] 24)],14⟩) rfl (q0j und22 inf54 rfl rfl rfl rfl rfl rfl rfl) ?_)
 refine z1i rfl (z1e 13 2) (pC (q5t n ([r49,r51,r53]) r55 h56) _) fn43 ?_
 refine RS.cl rfl (pC (q2n n r47 r55 r57 h58) _) fn21 ?_
 refine go ?_
 refine RS.w (u:=.sl 14 0 2 2) (σ':=⟨[(14,.row [.i6 10,.i6 2] 3),(9,.row (q06 r34) 43),(8,.row [.i6 0,.i6 1] 3),(7,.row [.i6 0,.i6 0] 3),(6,.row [.nils,.sl 4 0 1 1,.sl 5 0 1 1] 33),(5,.row [.i6 1] 3),(4,.row [.i6 0] 3),(3,.row [.iM q01 r7.Nodes] 24)],15⟩) rfl (q0j und33 inf3 rfl rfl rfl rfl rfl rfl rfl) (RS.cl rfl (vw (q3w n r36.1 ([10,2]) r61 h62) (z1e 14 1)) fn28 ?_)
 refine go ?_
 refine RS.w (u:=.agg (q06 r34)) rfl (q14 und43 rfl (q03 inf43) rfl rfl rfl) ?_
 refine go ?_
 refine RS.cl rfl (pC (qe2 n r34 r36.1 r64 h65) _) fn25 (RS.w (u:=.bool (q1o r64 ([82,69,83,84,46,70,73,82,83,84]))) rfl (q8o rfl rfl rfl rfl) ?_)
 refine go ?_
 exact xC ⟨rfl,rfl⟩
 obtain rfl:=sI h69
 refine go ?_
 refine RS.w (u:=.sl 10 0 2 2) (σ':=⟨[(10,.row [.i6 3,.i6 4] 3),(9,.row (q06 r34) 43),(8,.row [.i6 0,.i6 1] 3),(7,.row [.i6 0,.i6 0] 3),(6,.row [.nils,.sl 4 0 1 1,.sl 5 0 1 1] 33),(5,.row [.i6 1] 3),(4,.row [.i6 0] 3),(3,.row [.iM q01 r7.Nodes] 24)],11⟩) rfl (q0j und33 inf3 rfl rfl rfl rfl rfl rfl rfl) (RS.cl rfl (pC (q5z n 7 r45 h46) _) fn45 ?_)
 refine z1i rfl (z1e 10 1) (pC (q3p n ([3,4]) r45 r47 h48) _) fn22 ?_
 refine RS.w (u:=.sl 11 0 2 2) (σ':=⟨[(11,.row [.i6 3,.i6 1] 3),(9,.row (q06 r34) 43),(8,.row [.i6 0,.i6 1] 3),(7,.row [.i6 0,.i6 0] 3),(6,.row [.nils,.sl 4 0 1 1,.sl 5 0 1 1] 33),(5,.row [.i6 1] 3),(4,.row [.i6 0] 3),(3,.row [.iM q01 r7.Nodes] 24)],12⟩) rfl (q0j und33 inf3 rfl rfl rfl rfl rfl rfl rfl) ?_
 refine z1i rfl (z1e 11 1) (pC (q0y n 0 ([3,1]) r49 h50) _) fn44 ?_
 refine RS.w (u:=.sl 12 0 2 2) (σ':=⟨[(12,.row [.i6 4,.i6 2] 3),(9,.row (q06 r34) 43),(8,.row [.i6 0,.i6 1] 3),(7,.row [.i6 0,.i6 0] 3),(6,.row [.nils,.sl 4 0 1 1,.sl 5 0 1 1] 33),(5,.row [.i6 1] 3),(4,.row [.i6 0] 3),(3,.row [.iM q01 r7.Nodes] 24)],13⟩) rfl (q0j und33 inf3 rfl rfl rfl rfl rfl rfl rfl) ?_
 refine z1i rfl (z1e 12 1) (pC (q0y n 0 ([4,2]) r51 h52) _) fn44 ?_
 refine RS.cl rfl (z1j (args':=[.i6 7,.isl false []]) (.cons (.refl _) (.cons (.nil false) .nil)) (pC (q0y n 7 [] r53 h54)) _) fn44 (RS.w (u:=.sl 13 0 3 3) (σ':=⟨[(13,.row [.i6 r49.Typex,.iM q0c r49.Arcs,.i6 r51.Typex,.iM q0c r51.Arcs,.i6 r53.Typex,.iM q0c r53.Arcs] 54),(9,.row (q06 r34) 43),(8,.row [.i6 0,.i6 1] 3),(7,.row [.i6 0,.i6 0] 3),(6,.row [.nils,.sl 4 0 1 1,.sl 5 0 1 1] 33),(5,.row [.i6 1] 3),(4,.row [.i6 0] 3),(3,.row [.iM q01 r7.Nodes] 24)],14⟩) rfl (q0j und22 inf54 rfl rfl rfl rfl rfl rfl rfl) ?_)
 refine z1i rfl (z1e 13 2) (pC (q5t n ([r49,r51,r53]) r55 h56) _) fn43 ?_
 refine RS.cl rfl (pC (q2n n r47 r55 r57 h58) _) fn21 ?_
 refine go ?_
 refine RS.w (u:=.sl 14 0 2 2) (σ':=⟨[(14,.row [.i6 10,.i6 2] 3),(9,.row (q06 r34) 43),(8,.row [.i6 0,.i6 1] 3),(7,.row [.i6 0,.i6 0] 3),(6,.row [.nils,.sl 4 0 1 1,.sl 5 0 1 1] 33),(5,.row [.i6 1] 3),(4,.row [.i6 0] 3),(3,.row [.iM q01 r7.Nodes] 24)],15⟩) rfl (q0j und33 inf3 rfl rfl rfl rfl rfl rfl rfl) (RS.cl rfl (vw (q3w n r36.1 ([10,2]) r61 h62) (z1e 14 1)) fn28 ?_)
 refine go ?_
 refine RS.w (u:=.agg (q06 r34)) rfl (q14 und43 rfl (q03 inf43) rfl rfl rfl) ?_
 refine go ?_
 refine RS.cl rfl (pC (qe2 n r34 r36.1 r64 h65) _) fn25 (RS.w (u:=.bool (q1o r64 ([82,69,83,84,46,70,73,82,83,84]))) rfl (q8o rfl rfl rfl rfl) ?_)
 refine go ?_
 exact xC ⟨rfl,rfl⟩
 obtain rfl:=sI h69
 refine go ?_
 refine RS.w (u:=.sl 10 0 2 2) (σ':=⟨[(10,.row [.i6 3,.i6 4] 3),(9,.row (q06 r34) 43),(8,.row [.i6 0,.i6 1] 3),(7,.row [.i6 0,.i6 0] 3),(6,.row [.nils,.sl 4 0 1 1,.sl 5 0 1 1] 33),(5,.row [.i6 1] 3),(4,.row [.i6 0] 3),(3,.row [.iM q01 r7.Nodes] 24)],11⟩) rfl (q0j und33 inf3 rfl rfl rfl rfl rfl rfl rfl) (RS.cl rfl (pC (q5z n 7 r45 h46) _) fn45 ?_)
 refine z1i rfl (z1e 10 1) (pC (q3p n ([3,4]) r45 r47 h48) _) fn22 ?_
 refine RS.w (u:=.sl 11 0 2 2) (σ':=⟨[(11,.row [.i6 3,.i6 1] 3),(9,.row (q06 r34) 43),(8,.row [.i6 0,.i6 1] 3),(7,.row [.i6 0,.i6 0] 3),(6,.row [.nils,.sl 4 0 1 1,.sl 5 0 1 1] 33),(5,.row [.i6 1] 3),(4,.row [.i6 0] 3),(3,.row [.iM q01 r7.Nodes] 24)],12⟩) rfl (q0j und33 inf3 rfl rfl rfl rfl rfl rfl rfl) ?_
 refine z1i rfl (z1e 11 1) (pC (q0y n 0 ([3,1]) r49 h50) _) fn44 ?_
 refine RS.w (u:=.sl 12 0 2 2) (σ':=⟨[(12,.row [.i6 4,.i6 2] 3),(9,.row (q06 r34) 43),(8,.row [.i6 0,.i6 1] 3),(7,.row [.i6 0,.i6 0] 3),(6,.row [.nils,.sl 4 0 1 1,.sl 5 0 1 1] 33),(5,.row [.i6 1] 3),(4,.row [.i6 0] 3),(3,.row [.iM q01 r7.Nodes] 24)],13⟩) rfl (q0j und33 inf3 rfl rfl rfl rfl rfl rfl rfl) ?_
 refine z1i rfl (z1e 12 1) (pC (q0y n 0 ([4,2]) r51 h52) _) fn44 ?_
 refine RS.cl rfl (z1j (args':=[.i6 7,.isl false []]) (.cons (.refl _) (.cons (.nil false) .nil)) (pC (q0y n 7 [] r53 h54)) _) fn44 (RS.w (u:=.sl 13 0 3 3) (σ':=⟨[(13,.row [.i6 r49.Typex,.iM q0c r49.Arcs,.i6 r51.Typex,.iM q0c r51.Arcs,.i6 r53.Typex,.iM q0c r53.Arcs] 54),(9,.row (q06 r34) 43),(8,.row [.i6 0,.i6 1] 3),(7,.row [.i6 0,.i6 0] 3),(6,.row [.nils,.sl 4 0 1 1,.sl 5 0 1 1] 33),(5,.row [.i6 1] 3),(4,.row [.i6 0] 3),(3,.row [.iM q01 r7.Nodes] 24)],14⟩) rfl (q0j und22 inf54 rfl rfl rfl rfl rfl rfl rfl) ?_)
 refine z1i rfl (z1e 13 2) (pC (q5t n ([r49,r51,r53]) r55 h56) _) fn43 ?_
 refine RS.cl rfl (pC (q2n n r47 r55 r57 h58) _) fn21 ?_
 refine go ?_
 refine RS.w (u:=.sl 14 0 2 2) (σ':=⟨[(14,.row [.i6 10,.i6 2] 3),(9,.row (q06 r34) 43),(8,.row [.i6 0,.i6 1] 3),(7,.row [.i6 0,.i6 0] 3),(6,.row [.nils,.sl 4 0 1 1,.sl 5 0 1 1] 33),(5,.row [.i6 1] 3),(4,.row [.i6 0] 3),(3,.row [.iM q01 r7.Nodes] 24)],15⟩) rfl (q0j und33 inf3 rfl rfl rfl rfl rfl rfl rfl) (RS.cl rfl (vw (q3w n r36.1 ([10,2]) r61 h62) (z1e 14 1)) fn28 ?_)
 refine go ?_
 exact xC ⟨rfl,rfl⟩
 obtain rfl:=sI h69
 refine go ?_
 refine RS.w (u:=.sl 10 0 2 2) (σ':=⟨[(10,.row [.i6 3,.i6 4] 3),(9,.row (q06 r34) 43),(8,.row [.i6 0,.i6 1] 3),(7,.row [.i6 0,.i6 0] 3),(6,.row [.nils,.sl 4 0 1 1,.sl 5 0 1 1] 33),(5,.row [.i6 1] 3),(4,.row [.i6 0] 3),(3,.row [.iM q01 r7.Nodes] 24)],11⟩) rfl (q0j und33 inf3 rfl rfl rfl rfl rfl rfl rfl) (RS.cl rfl (pC (q5z n 7 r45 h46) _) fn45 ?_)
 refine z1i rfl (z1e 10 1) (pC (q3p n ([3,4]) r45 r47 h48) _) fn22 ?_
 refine RS.w (u:=.sl 11 0 2 2) (σ':=⟨[(11,.row [.i6 3,.i6 1] 3),(9,.row (q06 r34) 43),(8,.row [.i6 0,.i6 1] 3),(7,.row [.i6 0,.i6 0] 3),(6,.row [.nils,.sl 4 0 1 1,.sl 5 0 1 1] 33),(5,.row [.i6 1] 3),(4,.row [.i6 0] 3),(3,.row [.iM q01 r7.Nodes] 24)],12⟩) rfl (q0j und33 inf3 rfl rfl rfl rfl rfl rfl rfl) ?_
 refine z1i rfl (z1e 11 1) (pC (q0y n 0 ([3,1]) r49 h50) _) fn44 ?_
 refine RS.w (u:=.sl 12 0 2 2) (σ':=⟨[(12,.row [.i6 4,.i6 2] 3),(9,.row (q06 r34) 43),(8,.row [.i6 0,.i6 1] 3),(7,.row [.i6 0,.i6 0] 3),(6,.row [.nils,.sl 4 0 1 1,.sl 5 0 1 1] 33),(5,.row [.i6 1] 3),(4,.row [.i6 0] 3),(3,.row [.iM q01 r7.Nodes] 24)],13⟩) rfl (q0j und33 inf3 rfl rfl rfl rfl rfl rfl rfl) ?_
 refine z1i rfl (z1e 12 1) (pC (q0y n 0 ([4,2]) r51 h52) _) fn44 ?_
 refine RS.cl rfl (z1j (args':=[.i6 7,.isl false []]) (.cons (.refl _) (.cons (.nil false) .nil)) (pC (q0y n 7 [] r53 h54)) _) fn44 (RS.w (u:=.sl 13 0 3 3) (σ':=⟨[(13,.row [.i6 r49.Typex,.iM q0c r49.Arcs,.i6 r51.Typex,.iM q0c r51.Arcs,.i6 r53.Typex,.iM q0c r53.Arcs] 54),(9,.row (q06 r34) 43),(8,.row [.i6 0,.i6 1] 3),(7,.row [.i6 0,.i6 0] 3),(6,.row [.nils,.sl 4 0 1 1,.sl 5 0 1 1] 33),(5,.row [.i6 1] 3),(4,.row [.i6 0] 3),(3,.row [.iM q01 r7.Nodes] 24)],14⟩) rfl (q0j und22 inf54 rfl rfl rfl rfl rfl rfl rfl) ?_)
 refine z1i rfl (z1e 13 2) (pC (q5t n ([r49,r51,r53]) r55 h56) _) fn43 ?_
 refine RS.cl rfl (pC (q2n n r47 r55 r57 h58) _) fn21 ?_
 refine go ?_
 exact xC ⟨rfl,rfl⟩
 obtain rfl:=sI h69
 refine go ?_
 refine RS.w (u:=.sl 10 0 2 2) (σ':=⟨[(10,.row [.i6 3,.i6 4] 3),(9,.row (q06 r34) 43),(8,.row [.i6 0,.i6 1] 3),(7,.row [.i6 0,.i6 0] 3),(6,.row [.nils,.sl 4 0 1 1,.sl 5 0 1 1] 33),(5,.row [.i6 1] 3),(4,.row [.i6 0] 3),(3,.row [.iM q01 r7.Nodes] 24)],11⟩) rfl (q0j und33 inf3 rfl rfl rfl rfl rfl rfl rfl) (RS.cl rfl (pC (q5z n 7 r45 h46) _) fn45 ?_)
 refine z1i rfl (z1e 10 1) (pC (q3p n ([3,4]) r45 r47 h48) _) fn22 ?_
 refine RS.w (u:=.sl 11 0 2 2) (σ':=⟨[(11,.row [.i6 3,.i6 1] 3),(9,.row (q06 r34) 43),(8,.row [.i6 0,.i6 1] 3),(7,.row [.i6 0,.i6 0] 3),(6,.row [.nils,.sl 4 0 1 1,.sl 5 0 1 1] 33),(5,.row [.i6 1] 3),(4,.row [.i6 0] 3),(3,.row [.iM q01 r7.Nodes] 24)],12⟩) rfl (q0j und33 inf3 rfl rfl rfl rfl rfl rfl rfl) ?_
 refine z1i rfl (z1e 11 1) (pC (q0y n 0 ([3,1]) r49 h50) _) fn44 ?_
 refine RS.w (u:=.sl 12 0 2 2) (σ':=⟨[(12,.row [.i6 4,.i6 2] 3),(9,.row (q06 r34) 43),(8,.row [.i6 0,.i6 1] 3),(7,.row [.i6 0,.i6 0] 3),(6,.row [.nils,.sl 4 0 1 1,.sl 5 0 1 1] 33),(5,.row [.i6 1] 3),(4,.row [.i6 0] 3),(3,.row [.iM q01 r7.Nodes] 24)],13⟩) rfl (q0j und33 inf3 rfl rfl rfl rfl rfl rfl rfl) ?_
 refine z1i rfl (z1e 12 1) (pC (q0y n 0 ([4,2]) r51 h52) _) fn44 ?_
 refine RS.cl rfl (z1j (args':=[.i6 7,.isl false []]) (.cons (.refl _) (.cons (.nil false) .nil)) (pC (q0y n 7 [] r53 h54)) _) fn44 (RS.w (u:=.sl 13 0 3 3) (σ':=⟨[(13,.row [.i6 r49.Typex,.iM q0c r49.Arcs,.i6 r51.Typex,.iM q0c r51.Arcs,.i6 r53.Typex,.iM q0c r53.Arcs] 54),(9,.row (q06 r34) 43),(8,.row [.i6 0,.i6 1] 3),(7,.row [.i6 0,.i6 0] 3),(6,.row [.nils,.sl 4 0 1 1,.sl 5 0 1 1] 33),(5,.row [.i6 1] 3),(4,.row [.i6 0] 3),(3,.row [.iM q01 r7.Nodes] 24)],14⟩) rfl (q0j und22 inf54 rfl rfl rfl rfl rfl rfl rfl) ?_)
 refine z1i rfl (z1e 13 2) (pC (q5t n ([r49,r51,r53]) r55 h56) _) fn43 ?_
 refine RS.cl rfl (pC (q2n n r47 r55 r57 h58) _) fn21 ?_
 refine go ?_
 exact xC ⟨rfl,rfl⟩
 exact gy h69
 exact gy h69
 exact gy h69
 obtain ⟨r9,h10,h28⟩:=q00 h28
 obtain ⟨r11,h12,h28⟩:=q00 h28
 rcases gB h28 with ⟨h13,h28⟩ | ⟨h13,h28⟩
 obtain rfl:=sI h28
 refine go ?_
 refine RS.q (u:=.agg [.iM q01 r7.Nodes]) rfl (q14 und24 rfl (q03 inf24) rfl rfl rfl) (RS.cl rfl (pC (qal n r7 r9 h10) _) fn15 (RS.q (u:=.sl 4 0 1 1) (σ':=⟨[(4,.row [.i6 0] 3),(3,.row [.iM q01 r7.Nodes] 24)],5⟩) rfl (q0j und33 inf3 rfl rfl rfl rfl rfl rfl rfl) (RS.q (u:=.sl 5 0 1 1) (σ':=⟨[(5,.row [.i6 1] 3),(4,.row [.i6 0] 3),(3,.row [.iM q01 r7.Nodes] 24)],6⟩) rfl (q0j und33 inf3 rfl rfl rfl rfl rfl rfl rfl) (RS.q (u:=.sl 6 0 3 3) (σ':=⟨[(6,.row [.nils,.sl 4 0 1 1,.sl 5 0 1 1] 33),(5,.row [.i6 1] 3),(4,.row [.i6 0] 3),(3,.row [.iM q01 r7.Nodes] 24)],7⟩) rfl (q0j und28 inf33 rfl rfl rfl rfl rfl rfl rfl) (RS.cl rfl (vw (q70 n r9 ([[],[0],[1]]) r11 h12) (Gh.trans (z1e 4 1) (Gh.trans (z1e 5 1) (Gh.trans (z1t 6) (z1e 6 1))))) fn14 ?_)))))
 refine go ?_
 exact xC ⟨rfl,rfl⟩
 obtain ⟨r14,h15,h28⟩:=q00 h28
 obtain ⟨r16,h17,h28⟩:=q00 h28
 rcases gB h28 with ⟨h18,h28⟩ | ⟨h18,h28⟩
 obtain rfl:=sI h28
 refine go ?_
 refine RS.q (u:=.agg [.iM q01 r7.Nodes]) rfl (q14 und24 rfl (q03 inf24) rfl rfl rfl) (RS.cl rfl (pC (qal n r7 r9 h10) _) fn15 (RS.q (u:=.sl 4 0 1 1) (σ':=⟨[(4,.row [.i6 0] 3),(3,.row [.iM q01 r7.Nodes] 24)],5⟩) rfl (q0j und33 inf3 rfl rfl rfl rfl rfl rfl rfl) (RS.q (u:=.sl 5 0 1 1) (σ':=⟨[(5,.row [.i6 1] 3),(4,.row [.i6 0] 3),(3,.row [.iM q01 r7.Nodes] 24)],6⟩) rfl (q0j und33 inf3 rfl rfl rfl rfl rfl rfl rfl) (RS.q (u:=.sl 6 0 3 3) (σ':=⟨[(6,.row [.nils,.sl 4 0 1 1,.sl 5 0 1 1] 33),(5,.row [.i6 1] 3),(4,.row [.i6 0] 3),(3,.row [.iM q01 r7.Nodes] 24)],7⟩) rfl (q0j und28 inf33 rfl rfl rfl rfl rfl rfl rfl) (RS.cl rfl (vw (q70 n r9 ([[],[0],[1]]) r11 h12) (Gh.trans (z1e 4 1) (Gh.trans (z1e 5 1) (Gh.trans (z1t 6) (z1e 6 1))))) fn14 ?_)))))
 refine go ?_
 refine RS.w (u:=.agg [.iM q01 r7.Nodes]) rfl (q14 und24 rfl (q03 inf24) rfl rfl rfl) (RS.cl rfl (pC (qcn n r7 r14 h15) _) fn18 (RS.w (u:=.sl 7 0 1 1) (σ':=⟨[(7,.row [.i6 1] 3),(6,.row [.nils,.sl 4 0 1 1,.sl 5 0 1 1] 33),(5,.row [.i6 1] 3),(4,.row [.i6 0] 3),(3,.row [.iM q01 r7.Nodes] 24)],8⟩) rfl (q0j und33 inf3 rfl rfl rfl rfl rfl rfl rfl) (RS.w (u:=.sl 8 0 2 2) (σ':=⟨[(8,.row [.i6 0,.i6 0] 3),(7,.row [.i6 1] 3),(6,.row [.nils,.sl 4 0 1 1,.sl 5 0 1 1] 33),(5,.row [.i6 1] 3),(4,.row [.i6 0] 3),(3,.row [.iM q01 r7.Nodes] 24)],9⟩) rfl (q0j und33 inf3 rfl rfl rfl rfl rfl rfl rfl) (RS.w (u:=.agg [.sl 7 0 1 1,.sl 8 0 2 2]) rfl (q34 bd56 rfl rfl rfl) (RS.w (u:=.sl 9 0 1 1) (σ':=⟨[(9,.row [.sl 7 0 1 1,.sl 8 0 2 2] 56),(8,.row [.i6 0,.i6 0] 3),(7,.row [.i6 1] 3),(6,.row [.nils,.sl 4 0 1 1,.sl 5 0 1 1] 33),(5,.row [.i6 1] 3),(4,.row [.i6 0] 3),(3,.row [.iM q01 r7.Nodes] 24)],10⟩) rfl (q0j und31 inf56 rfl rfl rfl rfl rfl rfl rfl) (RS.cl rfl (vw (q6q n r14 ([(q0m.mk ([1]) ([0,0]))]) r16 h17) (Gh.trans (z1e 7 1) (Gh.trans (z1e 8 1) (z1e 9 2)))) fn17 ?_))))))
 refine go ?_
 exact xC ⟨rfl,rfl⟩
 obtain ⟨r19,h20,h28⟩:=q00 h28
 obtain ⟨r21,h22,h28⟩:=q00 h28
 obtain ⟨r23,h24,h28⟩:=q00 h28
 obtain ⟨r25,h26,h28⟩:=q00 h28
 obtain rfl:=sI h28
 refine go ?_
 refine RS.q (u:=.agg [.iM q01 r7.Nodes]) rfl (q14 und24 rfl (q03 inf24) rfl rfl rfl) (RS.cl rfl (pC (qal n r7 r9 h10) _) fn15 (RS.q (u:=.sl 4 0 1 1) (σ':=⟨[(4,.row [.i6 0] 3),(3,.row [.iM q01 r7.Nodes] 24)],5⟩) rfl (q0j und33 inf3 rfl rfl rfl rfl rfl rfl rfl) (RS.q (u:=.sl 5 0 1 1) (σ':=⟨[(5,.row [.i6 1] 3),(4,.row [.i6 0] 3),(3,.row [.iM q01 r7.Nodes] 24)],6⟩) rfl (q0j und33 inf3 rfl rfl rfl rfl rfl rfl rfl) (RS.q (u:=.sl 6 0 3 3) (σ':=⟨[(6,.row [.nils,.sl 4 0 1 1,.sl 5 0 1 1] 33),(5,.row [.i6 1] 3),(4,.row [.i6 0] 3),(3,.row [.iM q01 r7.Nodes] 24)],7⟩) rfl (q0j und28 inf33 rfl rfl rfl rfl rfl rfl rfl) (RS.cl rfl (vw (q70 n r9 ([[],[0],[1]]) r11 h12) (Gh.trans (z1e 4 1) (Gh.trans (z1e 5 1) (Gh.trans (z1t 6) (z1e 6 1))))) fn14 ?_)))))
 refine go ?_
 refine RS.w (u:=.agg [.iM q01 r7.Nodes]) rfl (q14 und24 rfl (q03 inf24) rfl rfl rfl) (RS.cl rfl (pC (qcn n r7 r14 h15) _) fn18 (RS.w (u:=.sl 7 0 1 1) (σ':=⟨[(7,.row [.i6 1] 3),(6,.row [.nils,.sl 4 0 1 1,.sl 5 0 1 1] 33),(5,.row [.i6 1] 3),(4,.row [.i6 0] 3),(3,.row [.iM q01 r7.Nodes] 24)],8⟩) rfl (q0j und33 inf3 rfl rfl rfl rfl rfl rfl rfl) (RS.w (u:=.sl 8 0 2 2) (σ':=⟨[(8,.row [.i6 0,.i6 0] 3),(7,.row [.i6 1] 3),(6,.row [.nils,.sl 4 0 1 1,.sl 5 0 1 1] 33),(5,.row [.i6 1] 3),(4,.row [.i6 0] 3),(3,.row [.iM q01 r7.Nodes] 24)],9⟩) rfl (q0j und33 inf3 rfl rfl rfl rfl rfl rfl rfl) (RS.w (u:=.agg [.sl 7 0 1 1,.sl 8 0 2 2]) rfl (q34 bd56 rfl rfl rfl) (RS.w (u:=.sl 9 0 1 1) (σ':=⟨[(9,.row [.sl 7 0 1 1,.sl 8 0 2 2] 56),(8,.row [.i6 0,.i6 0] 3),(7,.row [.i6 1] 3),(6,.row [.nils,.sl 4 0 1 1,.sl 5 0 1 1] 33),(5,.row [.i6 1] 3),(4,.row [.i6 0] 3),(3,.row [.iM q01 r7.Nodes] 24)],10⟩) rfl (q0j und31 inf56 rfl rfl rfl rfl rfl rfl rfl) (RS.cl rfl (vw (q6q n r14 ([(q0m.mk ([1]) ([0,0]))]) r16 h17) (Gh.trans (z1e 7 1) (Gh.trans (z1e 8 1) (z1e 9 2)))) fn17 ?_))))))
 refine go ?_
 refine RS.w (u:=.sl 10 0 2 2) (σ':=⟨[(10,.row [.i6 5,.i6 0] 3),(9,.row [.sl 7 0 1 1,.sl 8 0 2 2] 56),(8,.row [.i6 0,.i6 0] 3),(7,.row [.i6 1] 3),(6,.row [.nils,.sl 4 0 1 1,.sl 5 0 1 1] 33),(5,.row [.i6 1] 3),(4,.row [.i6 0] 3),(3,.row [.iM q01 r7.Nodes] 24)],11⟩) rfl (q0j und33 inf3 rfl rfl rfl rfl rfl rfl rfl) ?_
 refine z1i rfl (z1e 10 1) (pC (q0y n 1 ([5,0]) r19 h20) _) fn44 ?_
 refine RS.w (u:=.sl 11 0 1 1) (σ':=⟨[(11,.row (q01 r19) 54),(9,.row [.sl 7 0 1 1,.sl 8 0 2 2] 56),(8,.row [.i6 0,.i6 0] 3),(7,.row [.i6 1] 3),(6,.row [.nils,.sl 4 0 1 1,.sl 5 0 1 1] 33),(5,.row [.i6 1] 3),(4,.row [.i6 0] 3),(3,.row [.iM q01 r7.Nodes] 24)],12⟩) rfl (q0j und22 inf54 rfl rfl rfl rfl rfl rfl rfl) ?_
 refine z1i rfl (z1e 11 2) (pC (q5t n ([r19]) r21 h22) _) fn43 ?_
 refine RS.cl rfl (pC (qcn n r21 r23 h24) _) fn18 (RS.w (u:=.sl 12 0 1 1) (σ':=⟨[(12,.row [.i6 5] 3),(9,.row [.sl 7 0 1 1,.sl 8 0 2 2] 56),(8,.row [.i6 0,.i6 0] 3),(7,.row [.i6 1] 3),(6,.row [.nils,.sl 4 0 1 1,.sl 5 0 1 1] 33),(5,.row [.i6 1] 3),(4,.row [.i6 0] 3),(3,.row [.iM q01 r7.Nodes] 24)],13⟩) rfl (q0j und33 inf3 rfl rfl rfl rfl rfl rfl rfl) (RS.w (u:=.agg [.nils,.sl 12 0 1 1]) rfl (q34 bd56 rfl rfl rfl) (RS.w (u:=.sl 13 0 1 1) (σ':=⟨[(13,.row [.nils,.sl 12 0 1 1] 56),(12,.row [.i6 5] 3),(9,.row [.sl 7 0 1 1,.sl 8 0 2 2] 56),(8,.row [.i6 0,.i6 0] 3),(7,.row [.i6 1] 3),(6,.row [.nils,.sl 4 0 1 1,.sl 5 0 1 1] 33),(5,.row [.i6 1] 3),(4,.row [.i6 0] 3),(3,.row [.iM q01 r7.Nodes] 24)],14⟩) rfl (q0j und31 inf56 rfl rfl rfl rfl rfl rfl rfl) (RS.cl rfl (vw (q6q n r23 ([(q0m.mk [] ([5]))]) r25 h26) (Gh.trans (z1e 12 1) (Gh.trans (z1t 13) (z1e 13 2)))) fn17 ?_))))
 refine go ?_
 exact xC ⟨rfl,rfl⟩
def q5d (n:Nat) (p1:List Int) (p2:GFS):Option (Bool) :=
 q04 (q04 (q9n n p2) fun r3 =>
 cond (!r3)
  (some true)
  (q04 (qc7 n p1) fun r6 =>
  some (!r6))) fun b8 =>
 cond b8
  (q04 (q2f n) fun r11 =>
  some r11)
  (q04 (q04 (qbv n p1 p2) fun r13 =>
  q04 (qdd n p1 p2) fun r15 =>
  q04 (q5p n r13 r15) fun r17 =>
  cond r17
   (q04 (q2f n) fun r20 =>
   some r20)
   (some false)) fun b22 =>
  some b22)
theorem qgw (n:Nat) (p1:List Int) (p2:GFS) (r:Bool) (hF:q5d n p1 p2=some r):EvU Tryz.prog 4 [.isl false (List.map (cI .i64) p1),.agg [.isl false (List.map q01 p2.Nodes)]] ⟨[],0⟩ (fun u _=>u = .bool r∧Bel 0 u):=by
 unfold q5d at hF
 refine bg2 24 fn4 ?_
 refine go ?_
 refine RS.q (u:=.ptr 0 0 0) (σ':=⟨[(0,.row [.iM q01 p2.Nodes] 24)],1⟩) rfl (q3i rfl rfl rfl) ?_
 obtain ⟨b8,h9,hF⟩:=q00 hF
 refine gn ?_
 refine z1c (fun tm σ=>tm=fr 24 [(0,.iM (cI .i64) p1),(3,.ptr 0 0 0),(12,.bool b8)]∧σ=⟨[(0,.row [.iM q01 p2.Nodes] 24)],1⟩) ?_ ?_
 rintro _ _ ⟨rfl,rfl⟩
 refine go ?_
 refine cF hF (fun h10 hF=>?_) (fun h10 hF=>?_)
 obtain ⟨r11,h12,hF⟩:=q00 hF
 refine go ?_
 refine RS.cl rfl (pC (q8n n r11 h12) _) fn13 ?_
 exact gx hF
 obtain ⟨b22,h23,hF⟩:=q00 hF
 refine gn ?_
 refine z1c (fun tm σ=>tm=fr 24 [(4,.bool b22)]∧σ=⟨[(0,.row [.iM q01 p2.Nodes] 24)],1⟩) ?_ ?_
 rintro _ _ ⟨rfl,rfl⟩
 exact gx hF
 obtain ⟨r13,h14,h23⟩:=q00 h23
 obtain ⟨r15,h16,h23⟩:=q00 h23
 obtain ⟨r17,h18,h23⟩:=q00 h23
 rcases gB h23 with ⟨h19,h23⟩ | ⟨h19,h23⟩
 obtain ⟨r20,h21,h23⟩:=q00 h23
 obtain rfl:=sI h23
 refine z1d Tryz.tb_ok [] (by kernel_rfl) ?_
 refine RD.mv rfl rfl rfl rfl (RD.q (u:=.agg [.iM q01 p2.Nodes]) rfl (q14 und24 rfl (q03 inf24) rfl rfl rfl) (RD.fl rfl (pC (q3p n p1 p2 r13 h14)) fn22 (RD.mv rfl rfl rfl rfl (RD.q (u:=.agg [.iM q01 p2.Nodes]) rfl (q14 und24 rfl (q03 inf24) rfl rfl rfl) (RD.fl rfl (pC (qhf n p1 p2 r15 h16)) fn23 (RD.fl rfl (pC (q2n n r13 r15 r17 h18)) fn21 (RD.mv rfl rfl rfl rfl ?_)))))))
 refine RD.fl rfl (pC (q8n n r20 h21)) fn13 (RD.q rfl (qet rfl h19 rfl) (RD.as rfl rfl rfl rfl ?_))
 refine RD.done ⟨by kernel_rfl,trivial,?_⟩
 refine go ?_
 exact xC ⟨rfl,rfl⟩
 obtain rfl:=sI h23
 refine z1d Tryz.tb_ok [] (by kernel_rfl) ?_
 refine RD.mv rfl rfl rfl rfl (RD.q (u:=.agg [.iM q01 p2.Nodes]) rfl (q14 und24 rfl (q03 inf24) rfl rfl rfl) (RD.fl rfl (pC (q3p n p1 p2 r13 h14)) fn22 (RD.mv rfl rfl rfl rfl (RD.q (u:=.agg [.iM q01 p2.Nodes]) rfl (q14 und24 rfl (q03 inf24) rfl rfl rfl) (RD.fl rfl (pC (qhf n p1 p2 r15 h16)) fn23 (RD.fl rfl (pC (q2n n r13 r15 r17 h18)) fn21 (RD.mv rfl rfl rfl rfl ?_)))))))
 refine RD.no (qrl rfl rfl rfl h19) rfl rfl (RD.q rfl (qes rfl h19 rfl) (RD.as rfl rfl rfl rfl ?_))
 refine RD.done ⟨by kernel_rfl,trivial,?_⟩
 refine go ?_
 exact xC ⟨rfl,rfl⟩
 obtain ⟨r3,h4,h9⟩:=q00 h9
 rcases gB h9 with ⟨h5,h9⟩ | ⟨h5,h9⟩
 obtain rfl:=sI h9
 refine go ?_
 refine RS.q (u:=.agg [.iM q01 p2.Nodes]) rfl (q14 und24 rfl (q03 inf24) rfl rfl rfl) (RS.cl rfl (pC (qgy n p2 r3 h4) _) fn12 ?_)
 refine go ?_
 exact xC ⟨rfl,rfl⟩
 obtain ⟨r6,h7,h9⟩:=q00 h9
 obtain rfl:=sI h9
 refine go ?_
 refine RS.q (u:=.agg [.iM q01 p2.Nodes]) rfl (q14 und24 rfl (q03 inf24) rfl rfl rfl) (RS.cl rfl (pC (qgy n p2 r3 h4) _) fn12 ?_)
 refine go ?_
 refine RS.cl rfl (pC (qnl n p1 r6 h7) _) fn20 ?_
 refine go ?_
 exact xC ⟨rfl,rfl⟩
end Go.Proofs
end
section
namespace Go.Proofs
open Go Go.Rx Go.Vx Go.Shelf Go.Sort
theorem q15 {α β:Type} (a:α) (k:α→Option β):q04 (some a) k=k a:=rfl
theorem wr {z:Int} (h1 : -9223372036854775808≤z) (h2:z≤9223372036854775807):IntKind.i64.wrap z=z:=qjz (by omega) (by omega)
theorem wr1 {i len:Nat} (h:i<len) (hl:len≤9223372036854775807):IntKind.i64.wrap ((i:Int)+1)=((i+1:Nat):Int):=by rw [wr (by omega) (by omega)]; simp
theorem wrn {z:Int} {k:Nat} (h:z=k) (h2:k≤9223372036854775807):IntKind.i64.wrap z=(k:Int):=by subst h; exact wr (by omega) (by omega)
theorem q5s {α:Type} {l:List α} {i:Nat} (h:i<l.length):∃ x,l[i]? = some x∧x∈l:=⟨l[i],by simp [h],by simp⟩
theorem qa5 {α:Type} {l:List α} {i:Nat} {x:α} (h:l[i]? = some x):l.take (i+1)=l.take i++[x]:=by rw [List.take_add_one,h]; rfl
theorem drop_cons' {α:Type} {l:List α} {i:Nat} {x:α} (h:l[i]? = some x):l.drop i=x::l.drop (i+1):=by
 have hlt:i<l.length:=(List.getElem?_eq_some_iff.1 h).1
 rw [List.drop_eq_getElem_cons hlt]
 congr 1
 rw [List.getElem?_eq_getElem hlt] at h
 exact Option.some.inj h
theorem dlt {i n:Nat} (h:i<n):decide ((i:Int)<(n:Int))=true:=by simp; omega
theorem qoi {i n:Nat} (h:¬ i<n):decide ((i:Int)<(n:Int))=false:=by simp; omega
theorem drop_nil' {α:Type} {l:List α} {i:Nat} (h:¬ i<l.length):l.drop i=[]:=List.drop_eq_nil_of_le (by omega)
structure Cmp {α:Type} (c:α→α→Int):Prop where
 val:∀ x y,c x y = -1∨c x y=0∨c x y=1
 anti:∀ x y,c y x = - c x y
 trans:∀ x y z,c x y≤0→c y z≤0→c x z≤0
theorem Cmp.self {α:Type} {c:α→α→Int} (h:Cmp c) (x:α):c x x=0:=by have:=h.anti x x; omega
theorem Cmp.congr {α:Type} {c:α→α→Int} (h:Cmp c) {x y:α} (hxy:c x y=0) (z:α):c x z=c y z:=by
 have h1:=h.val x z
 have h2:=h.val y z
 have a1:=h.anti x y
 have a2:=h.anti x z
 have a3:=h.anti y z
 have t1:=h.trans x y z
 have t2:=h.trans y x z
 have t3:=h.trans z x y
 have t4:=h.trans z y x
 omega
theorem Cmp.congr' {α:Type} {c:α→α→Int} (h:Cmp c) {x y:α} (hxy:c x y=0) (z:α):c z x=c z y:=by
 have h1:=h.congr hxy z
 have a2:=h.anti x z
 have a3:=h.anti y z
 omega
theorem Cmp.lt_of {α:Type} {c:α→α→Int} (h:Cmp c) {x y z:α} (h1:c x y<0) (h2:c y z≤0):c x z<0:=by
 have t1:=h.trans x y z (by omega) h2
 rcases Int.lt_or_eq_of_le t1 with h3 | h3
 ·exact h3
 ·have:=h.congr h3 y
  have a3:=h.anti y z
  omega
def qu1 {α:Type} (c d:α→α→Int) (x y:α):Int:=if c x y≠0 then c x y else d x y
theorem Cmp.lex {α:Type} {c d:α→α→Int} (hc:Cmp c) (hd:Cmp d):Cmp (qu1 c d) where
 val x y:=by unfold qu1; split; exact hc.val x y; exact hd.val x y
 anti x y:=by
  unfold qu1
  have a1:=hc.anti x y
  have a2:=hd.anti x y
  by_cases h:c x y=0
  ·have:c y x=0:=by omega
   simp [h,this,a2]
  ·have:¬ c y x=0:=by omega
   simp [h,this,a1]
 trans x y z h1 h2:=by
  unfold qu1 at *
  by_cases h:c x y=0
  ·have e:=hc.congr h z
   simp only [h,ne_eq,not_true,if_false] at h1
   rw [e]
   by_cases h':c y z=0
   ·simp only [h',ne_eq,not_true,if_false] at h2 ⊢
    exact hd.trans x y z h1 h2
   ·simp only [h',ne_eq,not_false_eq_true,if_true] at h2 ⊢
    exact h2
  ·simp only [h,ne_eq,not_false_eq_true,if_true] at h1
   have h1':c x y<0:=by omega
   by_cases h':c y z=0
   ·have e:=hc.congr' h' x
    rw [← e]
    simp only [h,ne_eq,not_false_eq_true,if_true]
    exact h1
   ·simp only [h',ne_eq,not_false_eq_true,if_true] at h2
    have:=hc.lt_of h1' h2
    have hne:¬ c x z=0:=by omega
    simp only [hne,ne_eq,not_false_eq_true,if_true]
    omega
theorem qky {α:Type} {c d:α→α→Int} {x y:α}:qu1 c d x y=0↔c x y=0∧d x y=0:=by
 unfold qu1
 by_cases h:c x y=0<;>simp [h]
theorem Cmp.pull {α β:Type} {c:α→α→Int} (h:Cmp c) (f:β→α):Cmp (fun x y=>c (f x) (f y)):=⟨fun x y=>h.val _ _,fun x y=>h.anti _ _,fun x y z=>h.trans _ _ _⟩
def qhy (a b:Int):Int:=if a<b then -1 else if b<a then 1 else 0
theorem qdq {a b : Int} : qhy a b = 0 ↔ a = b := by unfold qhy; split; · omega
                                                    split <;> omega
theorem qhz : Cmp qhy where
  val x y := by unfold qhy; split; · simp
                split <;> simp
  anti x y := by unfold qhy; split <;> split <;> (try split) <;> omega
  trans x y z := by
    unfold qhy
    intro h1 h2
    split at h1 <;> split at h2 <;> (try split at h1) <;> (try split at h2) <;> (try split) <;> (try split) <;> omega
theorem qy5 {α:Type} (c:α→α→Int) (x y:α):ltOf c x y=true↔c x y<0:=by simp [ltOf]
theorem Cmp.swo {α:Type} {c:α→α→Int} (h:Cmp c):SWO (ltOf c) where
 irrefl x:=by have:=h.self x; simp [ltOf,this]
 trans x y z h1 h2:=by rw [qy5] at *; exact h.lt_of h1 (by omega)
 ntrans x y z h1 h2:=by
  have e:∀ a b,ltOf c a b=false↔c b a≤0:=fun a b=>by have:=h.anti a b; simp [ltOf]; omega
  rw [e] at *
  exact h.trans z y x h2 h1
section
variable {α:Type} {c:α→α→Int}
theorem srt_le (hc:Cmp c) (l:List α):(srt (ltOf c) l).Pairwise (fun x y=>c x y≤0):=by
 have:=qwp hc.swo l
 refine List.Pairwise.imp ?_ this
 intro x y h
 have:=hc.anti x y
 simp [ltOf] at h
 omega
end
end Go.Proofs
end
section
namespace Go.Vx
open Go Go.Rx
section
variable {K V:Type} [DecidableEq K]
variable {eq:K→K→Bool} (he:∀ a b,eq a b=true↔a=b)
include he
omit he [DecidableEq K] in
theorem qss (v:V):∀ (es:List (K×V×Nat)) (i:Nat),(qnm v es i).map (fun e=>e.1)=es.map (fun e=>e.1)∧(qnm v es i).map (fun e=>e.2.2)=es.map (fun e=>e.2.2)
 | [],i=>by simp [qnm]
 | e::es,0=>by simp [qnm]
 | e::es,i+1=>by simp [qnm,qss v es i]
structure MInv (m:qfc K V):Prop where
 keys:(m.es.map (fun e=>e.1)).Nodup
 borns:(m.es.map (fun e=>e.2.2)).Nodup
 lt:∀ e∈m.es,e.2.2<m.cl
omit he [DecidableEq K] in
theorem MInv.set {m:qfc K V} (h:MInv m) (v:V) (i:Nat):MInv (⟨qnm v m.es i,m.cl⟩:qfc K V):=by
 obtain ⟨h1,h2⟩:=qss v m.es i
 refine ⟨by simp only [h1]; exact h.keys,by simp only [h2]; exact h.borns,fun e he=>?_⟩
 have:e.2.2∈(qnm v m.es i).map (fun e=>e.2.2):=List.mem_map.2 ⟨e,he,rfl⟩
 rw [h2] at this
 obtain ⟨e',g1,g2⟩:=List.mem_map.1 this
 have:=h.lt e' g1
 simp only at g2 ⊢
 omega
end
end Go.Vx
end
section
namespace Go.Proofs
open Go Go.Rx Go.Vx Go.Shelf Go.Sort
set_option maxRecDepth 10000
def qgz {α:Type} (c:α→α→Int):List α→List α→Int
 | [],[]=>0
 | [],_::_=>-1
 | _::_,[]=>1
 | x::xs,y::ys=>if c x y≠0 then c x y else qgz c xs ys
theorem Cmp.list {α:Type} {c:α→α→Int} (h:Cmp c):Cmp (qgz c) where
 val:=by
  intro x
  induction x with
  | nil=>intro y; cases y<;>simp [qgz]
  | cons a x ih =>
   intro y
   cases y with
   | nil=>simp [qgz]
   | cons b y=>simp only [qgz]; split; exact h.val a b; exact ih y
 anti:=by
  intro x
  induction x with
  | nil=>intro y; cases y<;>simp [qgz]
  | cons a x ih =>
   intro y
   cases y with
   | nil=>simp [qgz]
   | cons b y =>
    simp only [qgz]
    have a1:=h.anti a b
    have a2:=ih y
    by_cases e:c a b=0
    ·have:c b a=0:=by omega
     simp [e,this,a2]
    ·have:¬ c b a=0:=by omega
     simp [e,this,a1]
 trans:=by
  intro x
  induction x with
  | nil =>
   intro y z h1 h2
   cases z<;>simp [qgz]
  | cons a x ih =>
   intro y z h1 h2
   cases y with
   | nil=>simp [qgz] at h1
   | cons b y =>
    cases z with
    | nil=>simp [qgz] at h2
    | cons d z =>
     simp only [qgz] at *
     by_cases e:c a b=0
     ·have e2:=h.congr e d
      simp only [e,ne_eq,not_true,if_false] at h1
      rw [e2]
      by_cases e3:c b d=0
      ·simp only [e3,ne_eq,not_true,if_false] at h2 ⊢
       exact ih y z h1 h2
      ·simp only [e3,ne_eq,not_false_eq_true,if_true] at h2 ⊢
       exact h2
     ·simp only [e,ne_eq,not_false_eq_true,if_true] at h1
      have h1':c a b<0:=by omega
      by_cases e3:c b d=0
      ·have e4:=h.congr' e3 a
       rw [← e4]
       simp only [e,ne_eq,not_false_eq_true,if_true]
       exact h1
      ·simp only [e3,ne_eq,not_false_eq_true,if_true] at h2
       have:=h.lt_of h1' h2
       have hne:¬ c a d=0:=by omega
       simp only [hne,ne_eq,not_false_eq_true,if_true]
       omega
theorem qkz {α:Type} {c:α→α→Int}:∀ {xs ys:List α},(∀ x∈xs,∀ y,c x y=0→x=y)→qgz c xs ys=0→xs=ys
 | [],[],_,_=>rfl
 | [],_::_,_,h=>by simp [qgz] at h
 | _::_,[],_,h=>by simp [qgz] at h
 | x::xs,y::ys,hc,h=>by
  simp only [qgz] at h
  by_cases e:c x y=0
  ·simp only [e,ne_eq,not_true,if_false] at h
   rw [hc x (by simp) y e,qkz (fun a ha=>hc a (by simp [ha])) h]
  ·simp [e] at h
def ccA:q0z→q0z→Int:=qu1 (fun x y=>qhy x.Feat y.Feat) (fun x y=>qhy x.To y.To)
theorem ccA_ok:Cmp ccA:=(qhz.pull _).lex (qhz.pull _)
theorem qxf {x y:q0z} (h:ccA x y=0):x=y:=by
 simp only [ccA,qky,qdq] at h
 cases x; cases y; simp only at h; obtain ⟨rfl,rfl⟩:=h; rfl
def ccN:q0i→q0i→Int:=qu1 (qu1 (fun x y=>qhy x.Typex y.Typex) (fun x y=>qhy x.Arcs.length y.Arcs.length)) (fun x y=>qgz ccA x.Arcs y.Arcs)
theorem ccN_ok:Cmp ccN:=((qhz.pull _).lex (qhz.pull (fun x:q0i=>(x.Arcs.length:Int)))).lex (ccA_ok.list.pull _)
theorem qxh {x y:q0i} (h:ccN x y=0):x=y:=by
 simp only [ccN,qky,qdq] at h
 have:=qkz (fun a _ b h=>qxf h) h.2
 cases x; cases y; simp only at h this; obtain ⟨⟨rfl,_⟩,_⟩:=h; subst this; rfl
def ccG:GFS→GFS→Int:=qu1 (fun x y=>qhy x.Nodes.length y.Nodes.length) (fun x y=>qgz ccN x.Nodes y.Nodes)
theorem qyz:Cmp ccG:=(qhz.pull (fun x:GFS=>(x.Nodes.length:Int))).lex (ccN_ok.list.pull _)
theorem qxg {x y:GFS}:ccG x y=0↔x=y:=⟨fun h=>by
 simp only [ccG,qky,qdq] at h
 have:=qkz (fun a _ b h=>qxh h) h.2
 cases x; cases y; simp only at this; subst this; rfl,fun h=>by subst h; exact qyz.self x⟩
structure Small (f:GFS) (k:Nat):Prop where
 nodes:f.Nodes.length≤k
 arcs:∀ x∈f.Nodes,x.Arcs.length≤k
def qx0 (l:List q0z):List Int:=l.flatMap fun a=>[a.Feat,a.To]
def qpk (x:q0i):List Int:=[x.Typex,(x.Arcs.length:Int)]++qx0 x.Arcs
def qvu (f:GFS):List Int:=(f.Nodes.length:Int)::f.Nodes.flatMap qpk
theorem qna:∀ l:List q0z,(qx0 l).length=2*l.length
 | []=>rfl
 | a::l=>by have:=qna l; simp only [qx0,List.flatMap_cons,List.length_append,List.length_cons,List.length_nil] at *; omega
theorem qvw {x:q0i} {i:Int} {rc:Int→List Int→Option (List Int)} (hx:x.Arcs.length≤1000000):∀ (m k:Nat) (acc:List Int),x.Arcs.length - k<m→k≤x.Arcs.length→acc.length+2*(x.Arcs.length - k)≤1000000000 →
  q37 i rc x m k acc=rc (IntKind.i64.wrap (i+1)) (acc++qx0 (x.Arcs.drop k))
 | 0,k,acc,hm,_,_=>by omega
 | m+1,k,acc,hm,hk,ha=>by
  unfold q37
  by_cases hlt:k<x.Arcs.length
  ·obtain ⟨a,h1,_⟩:=q5s hlt
   have hn:(acc.length+2)*8≤140737488355328∧acc.length+2≤140737488355328:=by omega
   simp only [dlt hlt,cond_true,q30,h1,q15,q1e,hn,and_self,if_true,wr1 hlt (show x.Arcs.length≤9223372036854775807 by omega)]
   rw [qvw hx m (k+1) _ (by omega) (by omega) (by simp only [List.length_append,List.length_cons,List.length_nil]; omega),drop_cons' h1]
   simp [qx0]
  ·simp only [qoi hlt,cond_false,q5j,drop_nil' hlt,qx0,List.flatMap_nil,List.append_nil]
theorem qvv {f:GFS} {n:Nat} (hf:Small f 1000) (hn:1001≤n):∀ (m i:Nat) (acc:List Int),f.Nodes.length - i<m→i≤f.Nodes.length→acc.length+2002*(f.Nodes.length - i)≤900000000 →
  q1v f n m i acc=some (acc++(f.Nodes.drop i).flatMap qpk)
 | 0,i,acc,hm,_,_=>by omega
 | m+1,i,acc,hm,hi,ha=>by
  unfold q1v
  have hl:=hf.nodes
  by_cases hlt:i<f.Nodes.length
  ·obtain ⟨x,hx,hxm⟩:=q5s hlt
   have h2:=hf.arcs x hxm
   have hn:(acc.length+2)*8≤140737488355328∧acc.length+2≤140737488355328:=by omega
   have h0:=qvw (i:=(i:Int)) (rc:=q1v f n m) (x:=x) (by omega) n 0 (acc++[x.Typex,(x.Arcs.length:Int)]) (by omega) (by omega) (by simp only [List.length_append,List.length_cons,List.length_nil]; omega)
   rw [Int.ofNat_zero,List.drop_zero] at h0
   simp only [dlt hlt,cond_true,q30,hx,q15,q1e,hn,and_self,if_true,h0,wr1 hlt (show f.Nodes.length≤9223372036854775807 by omega)]
   rw [qvv hf (by omega) m (i+1) _ (by omega) (by omega) (by simp only [List.length_append,List.length_cons,List.length_nil,qna]; omega),drop_cons' hx]
   simp [qpk]
  ·simp only [qoi hlt,cond_false,q5i,drop_nil' hlt,List.flatMap_nil,List.append_nil]
theorem qvx {f:GFS} {n:Nat} (hf:Small f 1000) (hn:1001≤n):q53 n f=some (qvu f):=by
 have hl:=hf.nodes
 have:=qvv hf hn n 0 [(f.Nodes.length:Int)] (by omega) (by omega) (by simp only [List.length_cons,List.length_nil]; omega)
 rw [Int.ofNat_zero,List.drop_zero] at this
 simp only [q53,this,qvu,List.singleton_append]
def qqy:List Int→List Int→Int
 | x::xs,y::ys=>if qhy x y≠0 then qhy x y else qqy xs ys
 | _,_=>0
theorem qsk {l m:List Int} (hl:l.length≤1000000000):∀ (n i:Nat),l.length - i<n→i≤l.length→q36 l m n i=some (qqy (l.drop i) (m.drop i))
 | 0,i,hn,_=>by omega
 | n+1,i,hn,hi=>by
  unfold q36
  by_cases h1:i<l.length
  ·obtain ⟨x,hx,_⟩:=q5s h1
   by_cases h2:i<m.length
   ·obtain ⟨y,hy,_⟩:=q5s h2
    simp only [dlt h1,dlt h2,cond_true,q15,q30,hx,hy,wr1 h1 (show l.length≤9223372036854775807 by omega),drop_cons' hx,drop_cons' hy,qqy,qhy]
    by_cases h3:x<y
    ·simp [h3]
    ·by_cases h4:y<x
     ·simp [h3,h4]
     ·simp only [h3,h4,decide_false,cond_false,if_false,ne_eq,not_true,gt_iff_lt]
      exact qsk hl n (i+1) (by omega) (by omega)
   ·simp only [dlt h1,qoi h2,cond_true,cond_false,q15,q3y,drop_cons' hx,drop_nil' h2,qqy]
  ·simp only [qoi h1,cond_false,q15,q3y,drop_nil' h1,qqy]
theorem qy8 {f:GFS} {k:Nat} (hf:Small f k):(qvu f).length≤1+f.Nodes.length*(2+2*k):=by
 have:∀ l:List q0i,(∀ x∈l,x.Arcs.length≤k)→(l.flatMap qpk).length≤l.length*(2+2*k):=by
  intro l
  induction l with
  | nil=>intro _; simp
  | cons x l ih =>
   intro h
   have h1:=ih fun y hy=>h y (List.mem_cons_of_mem _ hy)
   have h2:=h x (by simp)
   have h3:(l.length+1)*(2+2*k)=l.length*(2+2*k)+(2+2*k):=by rw [Nat.add_mul,Nat.one_mul]
   simp only [List.flatMap_cons,List.length_append,qpk,List.length_cons,List.length_nil,qna]
   rw [h3]
   omega
 have:=this f.Nodes hf.arcs
 simp only [qvu,List.length_cons]
 omega
theorem qw9 {f g:GFS} {n:Nat} (hf:Small f 1000) (hg:Small g 1000) (hn:3000000≤n):q6m n f g=some (qqy (qvu f) (qvu g)):=by
 have h1:=qy8 hf
 have h2:=hf.nodes
 have h3:f.Nodes.length*(2+2*1000)≤1000*(2+2*1000):=Nat.mul_le_mul_right _ h2
 have:=qsk (l:=qvu f) (m:=qvu g) (by omega) n 0 (by omega) (by omega)
 rw [Int.ofNat_zero,List.drop_zero,List.drop_zero] at this
 simp only [q6m,qvx hf (show 1001≤n by omega),qvx hg (show 1001≤n by omega),q15,this]
theorem qpe {c d:List Int}:∀ {xs ys:List q0z},xs.length=ys.length→qqy (qx0 xs++c) (qx0 ys++d)=if qgz ccA xs ys≠0 then qgz ccA xs ys else qqy c d
 | [],[],_=>by simp [qx0,qgz]
 | [],_::_,h=>by simp at h
 | _::_,[],h=>by simp at h
 | x::xs,y::ys,h=>by
  simp only [List.length_cons,Nat.add_right_cancel_iff] at h
  have ih:=qpe (c:=c) (d:=d) h
  simp only [qx0,List.flatMap_cons,List.cons_append,List.nil_append,qqy,qgz] at ih ⊢
  rw [ih]
  unfold ccA qu1
  by_cases e:qhy x.Feat y.Feat=0
  ·by_cases e2:qhy x.To y.To=0<;>simp [e,e2]
  ·simp [e]
theorem qmz {c d:List Int}:∀ {xs ys:List q0i},xs.length=ys.length→qqy (xs.flatMap qpk++c) (ys.flatMap qpk++d)=if qgz ccN xs ys≠0 then qgz ccN xs ys else qqy c d
 | [],[],_=>by simp [qgz]
 | [],_::_,h=>by simp at h
 | _::_,[],h=>by simp at h
 | x::xs,y::ys,h=>by
  simp only [List.length_cons,Nat.add_right_cancel_iff] at h
  have ih:=qmz (c:=c) (d:=d) h
  simp only [List.flatMap_cons,qpk,List.append_assoc,List.cons_append,List.nil_append,qqy,qgz]
  have hN:ccN x y=(if (if qhy x.Typex y.Typex≠0 then qhy x.Typex y.Typex else qhy (x.Arcs.length:Int) y.Arcs.length)≠0 then (if qhy x.Typex y.Typex≠0 then qhy x.Typex y.Typex else qhy (x.Arcs.length:Int) y.Arcs.length) else qgz ccA x.Arcs y.Arcs):=rfl
  simp only [hN]
  by_cases e:qhy x.Typex y.Typex=0
  ·by_cases e2:qhy (x.Arcs.length:Int) y.Arcs.length=0
   ·have hl:x.Arcs.length=y.Arcs.length:=by have:=qdq.1 e2; omega
    simp only [e,e2,ne_eq,not_true,if_false]
    rw [qpe hl,ih]
    by_cases e3:qgz ccA x.Arcs y.Arcs=0<;>simp [e3]
   ·simp [e,e2]
  ·simp [e]
theorem z00 (f g:GFS):qqy (qvu f) (qvu g)=ccG f g:=by
 simp only [qvu,qqy,ccG]
 unfold qu1
 by_cases e:qhy (f.Nodes.length:Int) g.Nodes.length=0
 ·have hl:f.Nodes.length=g.Nodes.length:=by have:=qdq.1 e; omega
  have:=qmz (c:=[]) (d:=[]) hl
  simp only [List.append_nil,qqy] at this
  simp only [e,ne_eq,not_true,if_false,this]
  by_cases e2:qgz ccN f.Nodes g.Nodes=0<;>simp [e2]
 ·simp [e]
theorem qsl {f g:GFS} {n:Nat} (hf:Small f 1000) (hg:Small g 1000) (hn:3000000≤n):q5p n f g=some (ccG f g == 0):=by
 simp only [q5p,qw9 hf hg hn,q15,z00]
theorem qs2 {f:GFS} (hl:f.Nodes.length≤12):∀ (m i:Nat),f.Nodes.length - i<m→i≤f.Nodes.length→∃ b,q4b f m i=some b∧(b=true→∀ x∈f.Nodes.drop i,x.Arcs.length≤12)
 | 0,i,hm,_=>by omega
 | m+1,i,hm,hi=>by
  unfold q4b
  by_cases hlt:i<f.Nodes.length
  ·obtain ⟨x,hx,_⟩:=q5s hlt
   simp only [dlt hlt,cond_true,q30,hx,q15,wr1 hlt (show f.Nodes.length≤9223372036854775807 by omega)]
   by_cases h:(x.Arcs.length:Int) > 12
   ·simp only [h,decide_true,cond_true]; exact ⟨false,rfl,fun h=>by cases h⟩
   ·simp only [h,decide_false,cond_false]
    obtain ⟨b,h1,h2⟩:=qs2 hl m (i+1) (by omega) (by omega)
    refine ⟨b,h1,fun hb=>?_⟩
    rw [drop_cons' hx]
    intro y hy
    rcases List.mem_cons.1 hy with rfl | hy
    ·omega
    ·exact h2 hb y hy
  ·simp only [qoi hlt,cond_false,q7y,drop_nil' hlt]
   exact ⟨true,rfl,fun _ x hx=>by cases hx⟩
theorem qy3 (f:GFS) {n:Nat} (hn:20≤n):∃ b,qa4 n f=some b∧(b=true→Small f 12):=by
 unfold qa4
 by_cases h:(f.Nodes.length:Int) > 12
 ·simp only [h,decide_true,cond_true]; exact ⟨false,rfl,fun h=>by cases h⟩
 ·simp only [h,decide_false,cond_false]
  obtain ⟨b,h1,h2⟩:=qs2 (f:=f) (by omega) n 0 (by omega) (by omega)
  rw [Int.ofNat_zero] at h1
  rw [List.drop_zero] at h2
  exact ⟨b,h1,fun hb=>⟨by omega,h2 hb⟩⟩
theorem Small.up {f:GFS} {k k':Nat} (h:Small f k) (hk:k≤k'):Small f k':=⟨by have:=h.nodes; omega,fun x hx=>by have:=h.arcs x hx; omega⟩
end Go.Proofs
end
section
namespace Go.Proofs
open Go Go.Rx Go.Vx Go.Shelf Go.Sort
set_option maxRecDepth 10000
def cF (a b:q0z):Int:=qhy a.Feat b.Feat
theorem cF_ok:Cmp cF:=qhz.pull q0z.Feat
def qol (l:List q0z):List q0z:=srt (ltOf cF) l
theorem q6t (l:List q0z):(qol l).Perm l:=qsx _ l
def Dis (l:List q0z):Prop:=l.Pairwise (fun a b=>a.Feat≠b.Feat)
theorem Dis.perm {l m:List q0z} (h:l.Perm m) (hd:Dis l):Dis m:=(h.pairwise_iff (fun {a b} h=>Ne.symm h)).1 hd
def UpA (l:List q0z):Prop:=l.Pairwise (fun a b=>a.Feat<b.Feat)
theorem cF_le {a b:q0z}:cF a b≤0↔a.Feat≤b.Feat:=by
 unfold cF qhy
 by_cases h1:a.Feat<b.Feat
 ·simp [h1]; omega
 ·by_cases h2:b.Feat<a.Feat
  ·simp [h1,h2]
  ·simp [h1,h2]; omega
theorem qod {l:List q0z} (h:Dis l):UpA (qol l):=by
 have h1:=srt_le cF_ok l
 have h2:Dis (qol l):=h.perm (q6t l).symm
 refine (List.Pairwise.and h1 h2).imp fun {a b} h=>?_
 have:=cF_le.1 h.1
 have:=h.2
 omega
theorem qt0:∀ {a b:List q0z},UpA a→UpA b→a.Perm b→a=b
 | [],b,_,_,h=>(List.nil_perm.1 h).symm
 | x::a,[],_,_,h=>by have:=h.length_eq; simp at this
 | x::a,y::b,ha,hb,h=>by
  obtain ⟨h1,h2⟩:=List.pairwise_cons.1 ha
  obtain ⟨h3,h4⟩:=List.pairwise_cons.1 hb
  have hxy:x=y:=by
   rcases List.mem_cons.1 (h.mem_iff.1 (List.mem_cons_self)) with hx | hx
   ·exact hx
   ·rcases List.mem_cons.1 (h.mem_iff.2 (List.mem_cons_self)) with hy | hy
    ·exact hy.symm
    ·have h5:=h1 y hy; have h6:=h3 x hx; omega
  subst hxy
  rw [qt0 h2 h4 (h.cons_inv)]
theorem qwo {l m:List q0z} (hd:Dis l) (h:m.Perm l) (hm:UpA m):qol l=m:=qt0 (qod hd) hm ((q6t l).trans h.symm)
theorem UpA.dis {l:List q0z} (h:UpA l):Dis l:=h.imp fun {a b} h=>by omega
structure NOk (x:q0i) (N:Nat):Prop where
 ty:0≤x.Typex
 dis:Dis x.Arcs
 arc:∀ a∈x.Arcs,0≤a.Feat∧0≤a.To∧a.To<N
def GOK (f:GFS):Prop:=∀ x∈f.Nodes,NOk x f.Nodes.length
def nd (f:GFS) (v:Int):q0i:=(f.Nodes[v.toNat]?).getD (q0i.mk 0 [])
def InG (f:GFS) (v:Int):Prop:=0≤v∧v<f.Nodes.length
theorem qtn {f:GFS} {v:Int} (h:InG f v):q12 f.Nodes v=some (nd f v)∧nd f v∈f.Nodes:=by
 have hv:v.toNat<f.Nodes.length:=by have:=h.1; have:=h.2; omega
 have h1:0≤v∧v<(f.Nodes.length:Int):=h
 simp [q12,h1,nd,hv]
def sar (f:GFS) (v:Int):List q0z:=qol (nd f v).Arcs
theorem qir {f:GFS} {v:Int} {a:q0z}:a∈sar f v↔a∈(nd f v).Arcs:=(q6t _).mem_iff
def qqd (g:List Int→Int→List Int) (o:List Int) (a:q0z):List Int:=if a.To∈o then o else g o a.To
def dfs (f:GFS):Nat→List Int→Int→List Int
 | 0,o,_=>o
 | k+1,o,v=>(sar f v).foldl (qqd (dfs f k)) (o++[v])
structure Seen (f:GFS) (o:List Int):Prop where
 nd:o.Nodup
 ing:∀ v∈o,InG f v
theorem ql2:∀ (N:Nat) {o:List Int},o.Nodup→(∀ v∈o,0≤v∧v<N)→o.length≤N
 | 0,o,_,h=>by
  cases o with
  | nil=>simp
  | cons v o=>have:=h v (by simp); omega
 | N+1,o,hn,h=>by
  have h1:=ql2 N (o:=o.filter (fun v=>v != (N:Int))) (hn.filter _) fun v hv=>by
   rw [List.mem_filter] at hv
   have:=h v hv.1
   have h2:=hv.2
   simp at h2
   omega
  have h2:o.length≤(o.filter (fun v=>v != (N:Int))).length+1:=by
   clear h1 h
   induction o with
   | nil=>simp
   | cons x o ih =>
    obtain ⟨h3,h4⟩:=List.nodup_cons.1 hn
    have:=ih h4
    by_cases e:x=N
    ·subst e
     have:o.filter (fun v=>v != (N:Int))=o:=List.filter_eq_self.2 fun v hv=>by
      simp only [bne_iff_ne,ne_eq]
      intro e; subst e; exact h3 hv
     simp [this]
    ·have e2:(x != (N:Int))=true:=by simpa using e
     rw [List.filter_cons_of_pos (by simpa using e)]
     simp only [List.length_cons]
     omega
  omega
theorem Seen.len {f:GFS} {o:List Int} (h:Seen f o):o.length≤f.Nodes.length:=ql2 _ h.nd h.ing
theorem Seen.snoc {f:GFS} {o:List Int} (h:Seen f o) {v:Int} (hv:InG f v) (hn:v ∉ o):Seen f (o++[v]):=⟨by
 rw [List.nodup_append]
 refine ⟨h.nd,by simp,?_⟩
 intro a ha b hb
 simp at hb
 subst hb
 intro e; subst e; exact hn ha,fun u hu=>by
 rcases List.mem_append.1 hu with hu | hu
 ·exact h.ing u hu
 ·simp at hu; subst hu; exact hv⟩
theorem qus {f:GFS} (hg:GOK f):∀ (k:Nat) (o:List Int) (v:Int),Seen f o→InG f v→v ∉ o→f.Nodes.length - o.length≤k →
  Seen f (dfs f k o v)∧(∃ t,dfs f k o v=o++v::t)∧(∀ u∈dfs f k o v,u ∉ o→∀ a∈(nd f u).Arcs,a.To∈dfs f k o v)∧(∀ k',f.Nodes.length - o.length≤k'→dfs f k' o v=dfs f k o v)
 | 0,o,v,hs,hv,hn,hk=>by
  have h1:=(hs.snoc hv hn).len
  simp only [List.length_append,List.length_cons,List.length_nil] at h1
  omega
 | k+1,o,v,hs,hv,hn,hk=>by
  have hs1:=hs.snoc hv hn
  have hl1:=hs1.len
  simp only [List.length_append,List.length_cons,List.length_nil] at hl1
  have key:∀ (l:List q0z),(∀ a∈l,InG f a.To)→∀ (p:List Int),Seen f p→(∃ t,p=o++v::t)→(∀ u∈p,u ∉ o→u≠v→∀ a∈(nd f u).Arcs,a.To∈p) →
    Seen f (l.foldl (qqd (dfs f k)) p)∧(∃ t,l.foldl (qqd (dfs f k)) p=p++t)∧(∀ u∈l.foldl (qqd (dfs f k)) p,u ∉ o→u≠v→∀ a∈(nd f u).Arcs,a.To∈l.foldl (qqd (dfs f k)) p)∧(∀ a∈l,a.To∈l.foldl (qqd (dfs f k)) p) ∧
     (∀ k',f.Nodes.length - (o.length+1)≤k'→l.foldl (qqd (dfs f k')) p=l.foldl (qqd (dfs f k)) p):=by
   intro l
   induction l with
   | nil=>intro _ p hp hpre hcl; exact ⟨hp,⟨[],by simp⟩,hcl,⟨fun a ha=>(List.not_mem_nil ha).elim,fun _ _=>rfl⟩⟩
   | cons a l ih =>
    intro hl p hp hpre hcl
    have hla:=hl a (by simp)
    have hll:=fun b hb=>hl b (List.mem_cons_of_mem a hb)
    simp only [List.foldl_cons]
    by_cases hm:a.To∈p
    ·have e:∀ k',qqd (dfs f k') p a=p:=fun k'=>by simp [qqd,hm]
     simp only [e]
     obtain ⟨g1,⟨t,g2⟩,g3,g4,g5⟩:=ih hll p hp hpre hcl
     refine ⟨g1,⟨t,g2⟩,g3,fun b hb=>?_,g5⟩
     rcases List.mem_cons.1 hb with rfl | hb
     ·rw [g2]; exact List.mem_append_left _ hm
     ·exact g4 b hb
    ·have e:∀ k',qqd (dfs f k') p a=dfs f k' p a.To:=fun k'=>by simp [qqd,hm]
     obtain ⟨t0,hpre⟩:=hpre
     have hpl:o.length+1≤p.length:=by rw [hpre]; simp
     obtain ⟨d1,⟨t1,d2⟩,d3,d4⟩:=qus hg k p a.To hp hla hm (by omega)
     have hsub:∀ u∈p,u∈dfs f k p a.To:=fun u hu=>by rw [d2]; exact List.mem_append_left _ hu
     obtain ⟨g1,⟨t,g2⟩,g3,g4,g5⟩:=ih hll (dfs f k p a.To) d1 ⟨t0++a.To::t1,by rw [d2,hpre]; simp⟩ (fun u hu h1 h2 b hb=>by
      by_cases hup:u∈p
      ·exact hsub _ (hcl u hup h1 h2 b hb)
      ·exact d3 u hu hup b hb)
     rw [e k]
     refine ⟨g1,⟨a.To::t1++t,by rw [g2,d2]; simp⟩,g3,fun b hb=>?_,fun k' hk'=>?_⟩
     ·rcases List.mem_cons.1 hb with rfl | hb
      ·rw [g2,d2]; simp
      ·exact g4 b hb
     ·rw [e k',d4 k' (by omega)]; exact g5 k' hk'
  have hla:∀ a∈sar f v,InG f a.To:=fun a ha=>by
   have h1:=(hg _ (qtn hv).2).arc a (qir.1 ha)
   exact ⟨h1.2.1,h1.2.2⟩
  obtain ⟨g1,⟨t,g2⟩,g3,g4,g5⟩:=key (sar f v) hla (o++[v]) hs1 ⟨[],rfl⟩ (fun u hu h1 h2=>by
   rcases List.mem_append.1 hu with hu | hu
   ·exact absurd hu h1
   ·simp at hu; exact absurd hu h2)
  refine ⟨g1,⟨t,by show (sar f v).foldl _ _=_; rw [g2]; simp⟩,fun u hu h1 a ha=>?_,fun k' hk'=>?_⟩
  ·by_cases e:u=v
   ·subst e; exact g4 a (qir.2 ha)
   ·exact g3 u hu h1 e a ha
  ·cases k' with
   | zero=>omega
   | succ k'=>exact g5 k' (by omega)
def qok (f:GFS) (r:Int):List Int:=dfs f f.Nodes.length [] r
theorem Seen.nil (f:GFS):Seen f []:=⟨List.nodup_nil,fun v hv=>by cases hv⟩
structure OrdOk (f:GFS) (r:Int) (o:List Int):Prop where
 seen:Seen f o
 head:∃ t,o=r::t
 clo:∀ u∈o,∀ a∈(nd f u).Arcs,a.To∈o
theorem qr6 {f:GFS} (hg:GOK f) {r:Int} (hr:InG f r):OrdOk f r (qok f r)∧∀ k,f.Nodes.length≤k→dfs f k [] r=qok f r:=by
 obtain ⟨h1,⟨t,h2⟩,h3,h4⟩:=qus hg f.Nodes.length [] r (Seen.nil f) hr (by simp) (by simp)
 exact ⟨⟨h1,⟨t,by have h5:=h2; rw [List.nil_append] at h5; exact h5⟩,fun u hu=>h3 u hu (by simp)⟩,fun k hk=>h4 k (by simpa using hk)⟩
def qqp (o:List Int) (a:q0z):q0z:=⟨a.Feat,(o.idxOf a.To:Int)⟩
def qi9 (f:GFS) (o:List Int) (v:Int):q0i:=⟨(nd f v).Typex,(sar f v).map (qqp o)⟩
def q85 (f:GFS) (r:Int):GFS:=⟨(qok f r).map (qi9 f (qok f r))⟩
theorem set_at {α:Type} (a b:List α) (x y:α):(a++x::b).set a.length y=a++y::b:=by simp
end Go.Proofs
end
section
namespace Go.Proofs
open Go Go.Rx Go.Vx Go.Shelf Go.Sort
set_option maxRecDepth 10000
def qte (N:Nat) (seen:List Int):List q0z→Int
 | []=>0
 | a::l=>if a.Feat<0∨a.To<0∨a.To ≥ (N:Int) then 2 else if a.Feat∈seen then 4 else qte N (a.Feat::seen) l
def errN (N:Nat) (x:q0i):Int:=if x.Typex<0 then 2 else qte N [] x.Arcs
theorem qoz {N:Nat}:∀ {l:List q0z} {seen:List Int},qte N seen l=0↔(∀ a∈l,0≤a.Feat∧0≤a.To∧a.To<N)∧Dis l∧∀ a∈l,a.Feat ∉ seen
 | [],seen=>by simp [qte,Dis]
 | a::l,seen=>by
  simp only [qte]
  by_cases h1:a.Feat<0∨a.To<0∨a.To ≥ (N:Int)
  ·simp only [h1,if_true]
   refine ⟨fun h=>absurd h (by decide),fun h=>?_⟩
   have:=h.1 a (by simp)
   omega
  ·by_cases h2:a.Feat∈seen
   ·simp only [h1,h2,if_true,if_false]
    exact ⟨fun h=>absurd h (by decide),fun h=>absurd h2 (h.2.2 a (by simp))⟩
   ·simp only [h1,h2,if_false]
    rw [qoz (l:=l)]
    unfold Dis
    rw [List.pairwise_cons]
    constructor
    ·rintro ⟨g1,g2,g3⟩
     refine ⟨fun b hb=>?_,⟨fun b hb=>?_,g2⟩,fun b hb=>?_⟩
     ·rcases List.mem_cons.1 hb with rfl | hb
      ·omega
      ·exact g1 b hb
     ·have:=g3 b hb
      simp only [List.mem_cons,not_or] at this
      exact fun e=>this.1 e.symm
     ·rcases List.mem_cons.1 hb with rfl | hb
      ·exact h2
      ·have:=g3 b hb
       simp only [List.mem_cons,not_or] at this
       exact this.2
    ·rintro ⟨g1,⟨g2,g3⟩,g4⟩
     refine ⟨fun b hb=>g1 b (by simp [hb]),g3,fun b hb=>?_⟩
     simp only [List.mem_cons,not_or]
     exact ⟨fun e=>g2 b hb e.symm,g4 b (by simp [hb])⟩
theorem qp2 {N:Nat} {x:q0i}:errN N x=0↔NOk x N:=by
 unfold errN
 by_cases h:x.Typex<0
 ·simp only [h,if_true]
  exact ⟨fun h=>absurd h (by decide),fun h'=>by have:=h'.ty; omega⟩
 ·simp only [h,if_false]
  rw [qoz]
  exact ⟨fun ⟨h1,h2,_⟩=>⟨by omega,h2,h1⟩,fun h=>⟨h.arc,h.dis,fun _ _=>by simp⟩⟩
def qz4 (N:Nat):List q0i→Int
 | []=>0
 | x::l=>if errN N x≠0 then errN N x else qz4 N l
theorem qp1 {N:Nat}:∀ {l:List q0i},qz4 N l=0↔∀ x∈l,NOk x N
 | []=>by simp [qz4]
 | x::l=>by
  simp only [qz4]
  by_cases h:errN N x=0
  ·simp only [h,ne_eq,not_true,if_false,qp1 (l:=l),List.mem_cons,forall_eq_or_imp,qp2.1 h,true_and]
  ·simp only [h,ne_eq,not_false_eq_true,if_true,List.mem_cons,forall_eq_or_imp,false_iff,not_and]
   exact fun h2=>absurd (qp2.2 h2) h
def quy (f:GFS):Int:=if f.Nodes.length=0 then 1 else if f.Nodes.length > 4096 then 7 else qz4 f.Nodes.length f.Nodes
theorem qp0 {f:GFS}:quy f=0↔f.Nodes.length≠0∧f.Nodes.length≤4096∧GOK f:=by
 unfold quy
 by_cases h0:f.Nodes.length=0
 ·simp [h0]
 ·by_cases h1:f.Nodes.length > 4096
  ·simp [h0,h1]; intro _; omega
  ·simp only [h0,h1,if_false,qp1]
   exact ⟨fun h=>⟨by simpa using h0,by omega,h⟩,fun h=>h.2.2⟩
structure Sim (f g:GFS) (π:Int→Int) (S:Int→Prop):Prop where
 clo:∀ v,S v→∀ a∈sar f v,S a.To
 inj:∀ u v,S u→S v→π u=π v→u=v
 ty:∀ v,S v→(nd g (π v)).Typex=(nd f v).Typex
 arc:∀ v,S v→sar g (π v)=(sar f v).map fun a=>⟨a.Feat,π a.To⟩
theorem z0t {l:List q0z} (h:UpA l):qol l=l:=qwo h.dis (List.Perm.refl _) h
theorem qks {o:List Int} {v:Int} (h:v∈o):o[o.idxOf v]? = some v:=by
 have h1:=List.idxOf_lt_length_of_mem h
 rw [List.getElem?_eq_getElem h1,List.getElem_idxOf]
structure CanOk (f:GFS) (r:Int) (c:GFS):Prop where
 len:c.Nodes.length=(qok f r).length
 le:c.Nodes.length≤f.Nodes.length
 pos:0<c.Nodes.length
 ok:GOK c
 at_:∀ v∈qok f r,nd c ((qok f r).idxOf v:Int)=qi9 f (qok f r) v
 up:∀ x∈c.Nodes,UpA x.Arcs
 sim:Sim f c (fun v=>((qok f r).idxOf v:Int)) (fun v=>v∈qok f r)
theorem up_map {o:List Int} {l:List q0z} (h:UpA l):UpA (l.map (qqp o)):=by
 unfold UpA at *
 rw [List.pairwise_map]
 exact h
theorem z01 {f:GFS} (hf:GOK f) {r:Int} (hr:InG f r):CanOk f r (q85 f r):=by
 obtain ⟨o1,_⟩:=qr6 hf hr
 have hat:∀ v∈qok f r,nd (q85 f r) ((qok f r).idxOf v:Int)=qi9 f (qok f r) v:=fun v hv=>by
  simp only [nd,q85,Int.toNat_natCast,List.getElem?_map,qks hv,Option.map_some,Option.getD_some]
 have hin:∀ v∈qok f r,InG f v:=o1.seen.ing
 have hup:∀ v∈qok f r,UpA (qi9 f (qok f r) v).Arcs:=fun v hv=>up_map (qod (hf _ (qtn (hin v hv)).2).dis)
 refine ⟨by simp [q85],by simp only [q85,List.length_map]; exact o1.seen.len,?_,?_,hat,?_,?_⟩
 ·obtain ⟨t,ht⟩:=o1.head
  simp [q85,ht]
 ·intro x hx
  simp only [q85,List.mem_map] at hx
  obtain ⟨v,hv,rfl⟩:=hx
  have hn:=hf _ (qtn (hin v hv)).2
  refine ⟨hn.ty,(hup v hv).dis,fun a ha=>?_⟩
  simp only [qi9,List.mem_map] at ha
  obtain ⟨b,hb,rfl⟩:=ha
  have hb':=qir.1 hb
  refine ⟨(hn.arc b hb').1,by simp only [qqp]; omega,?_⟩
  have:=List.idxOf_lt_length_of_mem (o1.clo v hv b hb')
  simp only [qqp,q85,List.length_map]
  omega
 ·intro x hx
  simp only [q85,List.mem_map] at hx
  obtain ⟨v,hv,rfl⟩:=hx
  exact hup v hv
 ·refine ⟨fun v hv a ha=>o1.clo v hv a (qir.1 ha),fun u v hu hv e=>?_,fun v hv=>?_,fun v hv=>?_⟩
  ·have h1:=qks hu
   have h2:=qks hv
   have e':(qok f r).idxOf u=(qok f r).idxOf v:=Int.ofNat.inj e
   rw [e',h2] at h1
   exact (Option.some.inj h1).symm
  ·simp only [hat v hv,qi9]
  ·simp only [sar,hat v hv]
   rw [z0t (hup v hv)]
   rfl
theorem Small.canon {f:GFS} {k:Nat} (hs:Small f k) (hf:GOK f) {r:Int} (hr:InG f r):Small (q85 f r) k:=by
 have hc:=z01 hf hr
 obtain ⟨o1,_⟩:=qr6 hf hr
 refine ⟨Nat.le_trans hc.le hs.nodes,fun x hx=>?_⟩
 simp only [q85,List.mem_map] at hx
 obtain ⟨v,hv,rfl⟩:=hx
 simp only [qi9,List.length_map,sar]
 rw [(q6t _).length_eq]
 exact hs.arcs _ (qtn (o1.seen.ing v hv)).2
end Go.Proofs
end
section
namespace Go.Proofs
open Go Go.Rx Go.Vx Go.Shelf Go.Sort
set_option maxRecDepth 10000
theorem qmo {N:Nat}:∀ {l:List q0z} {s s':List Int},(∀ x,x∈s↔x∈s')→qte N s l=qte N s' l
 | [],s,s',_=>rfl
 | a::l,s,s',h=>by
  simp only [qte]
  rw [qmo (l:=l) (s:=a.Feat::s) (s':=a.Feat::s') fun x=>by simp only [List.mem_cons,h x]]
  by_cases h1:a.Feat∈s
  ·simp only [h1,(h _).1 h1,if_true]
  ·simp only [h1,mt (h _).2 h1,if_false]
theorem qu9 {l:List q0z} (hl:l.length≤1000000) {i:Nat} {x:q0z} (hx:l[i]? = some x) (hi:i<l.length) {rc:Int→Option Int}:∀ (m k:Nat),i - k<m→k≤i →
  q51 l i rc m k=if x.Feat∈((l.take i).drop k).map q0z.Feat then some 4 else rc (IntKind.i64.wrap ((i:Int)+1))
 | 0,k,hm,_=>by omega
 | m+1,k,hm,hk=>by
  unfold q51
  by_cases hlt:k<i
  ·obtain ⟨y,hy,_⟩:=q5s (l:=l) (i:=k) (by omega)
   have hy':(l.take i)[k]? = some y:=by rw [List.getElem?_take_of_lt hlt]; exact hy
   have hd:decide ((k:Int)<(i:Int))=true:=dlt hlt
   have hw:IntKind.i64.wrap ((k:Int)+1)=((k+1:Nat):Int):=wrn (by omega) (by omega)
   simp only [hd,cond_true,q30,hy,hx,q15,drop_cons' hy',List.map_cons,List.mem_cons,hw]
   by_cases e:y.Feat=x.Feat
   ·simp [e]
   ·have e2:(y.Feat == x.Feat)=false:=by simpa using e
    have e3:¬ x.Feat=y.Feat:=fun h=>e h.symm
    simp only [e2,cond_false,e3,false_or]
    exact qu9 hl hx hi m (k+1) (by omega) (by omega)
  ·have hd:decide ((k:Int)<(i:Int))=false:=qoi hlt
   have:(l.take i).drop k=[]:=List.drop_eq_nil_of_le (by simp; omega)
   simp only [hd,cond_false,q9d,this,List.map_nil,List.not_mem_nil,if_false]
theorem qu8 {l:List q0z} {N n:Nat} (hl:l.length≤1000000) (hn:l.length<n):∀ (m i:Nat),l.length - i<m→i≤l.length→q2p l N n m i=some (qte N ((l.take i).map q0z.Feat) (l.drop i))
 | 0,i,hm,_=>by omega
 | m+1,i,hm,hi=>by
  unfold q2p
  by_cases hlt:i<l.length
  ·obtain ⟨a,ha,_⟩:=q5s hlt
   have h2:=qu9 hl ha hlt (rc:=q2p l N n m) n 0 (by omega) (by omega)
   rw [Int.ofNat_zero,List.drop_zero] at h2
   simp only [dlt hlt,cond_true,q30,ha,q15,drop_cons' ha,qte]
   by_cases h1:a.Feat<0
   ·simp [h1,q15]
   ·by_cases h3:a.To<0
    ·simp [h1,h3,q15]
    ·by_cases h4:a.To ≥ (N:Int)
     ·simp [h1,h3,h4,q15]
     ·simp only [h1,h3,h4,decide_false,cond_false,q15,or_self,if_false,h2,wr1 hlt (show l.length≤9223372036854775807 by omega)]
      rw [qu8 hl hn m (i+1) (by omega) (by omega),qa5 ha]
      by_cases h5:a.Feat∈(l.take i).map q0z.Feat
      ·simp only [h5,if_true]
      ·simp only [h5,if_false]
       congr 1
       exact qmo fun x=>by simp [or_comm]
  ·simp only [qoi hlt,cond_false,q9c,drop_nil' hlt,qte]
theorem qv6 {f:GFS} {k:Nat} (hf:Small f k) (hk:k≤1000000) {n:Nat} (hn:k<n):∀ (m i:Nat),f.Nodes.length - i<m→i≤f.Nodes.length→q52 f n m i=some (qz4 f.Nodes.length (f.Nodes.drop i))
 | 0,i,hm,_=>by omega
 | m+1,i,hm,hi=>by
  have hnl:=hf.nodes
  unfold q52
  by_cases hlt:i<f.Nodes.length
  ·obtain ⟨x,hx,hxm⟩:=q5s hlt
   have hal:=hf.arcs x hxm
   have h2:=qu8 (l:=x.Arcs) (N:=f.Nodes.length) (n:=n) (by omega) (by omega) n 0 (by omega) (by omega)
   rw [Int.ofNat_zero,List.drop_zero,List.take_zero,List.map_nil] at h2
   simp only [dlt hlt,cond_true,q30,hx,q15,drop_cons' hx,qz4,errN,qey,h2,wr1 hlt (show f.Nodes.length≤9223372036854775807 by omega)]
   by_cases h1:x.Typex<0
   ·simp [h1]
   ·simp only [h1,decide_false,cond_false,if_false]
    by_cases h3:qte f.Nodes.length [] x.Arcs=0
    ·simp only [h3,bne_self_eq_false,cond_false,ne_eq,not_true,if_false]
     exact qv6 hf hk hn m (i+1) (by omega) (by omega)
    ·have hb:(qte f.Nodes.length [] x.Arcs != 0)=true:=by simpa using h3
     simp only [hb,cond_true,h3,ne_eq,not_false_eq_true,if_true]
  ·simp only [qoi hlt,cond_false,q9e,drop_nil' hlt,qz4]
theorem z0b {f:GFS} {k:Nat} (hf:Small f k) (hk:k≤1000000) {n:Nat} (hn:k<n):qbz n f=some (quy f):=by
 have hnl:=hf.nodes
 unfold qbz quy
 by_cases h0:f.Nodes.length=0
 ·simp [h0]
 ·have e0:((f.Nodes.length:Int) == 0)=false:=by simp; intro h; simp [h] at h0
  simp only [e0,cond_false,h0,if_false]
  by_cases h1:f.Nodes.length > 4096
  ·have:(f.Nodes.length:Int) > 4096:=by omega
   simp [h1,this]
  ·have:¬ (f.Nodes.length:Int) > 4096:=by omega
   simp only [h1,this,decide_false,cond_false,if_false]
   have h:=qv6 hf hk hn n 0 (by omega) (by omega)
   rw [Int.ofNat_zero,List.drop_zero] at h
   exact h
theorem qza {l:List q0z} {i:Nat} {x:q0z} (hx:l[i]? = some x) {out:List q0z} (hol:out.length≤1000000) (hup:UpA out) {rc:Int→List q0z→Option (List q0z)}:∀ (m p:Nat),p<m→p≤out.length→(∀ a∈out.drop p,x.Feat<a.Feat) →
  ∃ q,q≤out.length∧q3o l i out rc m p=q3n l i out rc (q:Int)∧(∀ a∈out.drop q,x.Feat<a.Feat)∧(∀ a∈out.take q,a.Feat≤x.Feat)
 | 0,p,hm,_,_=>by omega
 | m+1,p,hm,hp,hd=>by
  unfold q3o
  cases p with
  | zero =>
   have:¬ ((0:Nat):Int) > 0:=by omega
   simp only [this,decide_false,cond_false,q15]
   exact ⟨0,by omega,rfl,hd,by simp⟩
  | succ p =>
   have h0:((p+1:Nat):Int) > 0:=by omega
   have hw:IntKind.i64.wrap (((p+1:Nat):Int) - 1)=(p:Int):=wrn (by omega) (by omega)
   obtain ⟨y,hy,_⟩:=q5s (l:=out) (i:=p) (by omega)
   simp only [h0,decide_true,cond_true,hw,q30,hy,hx,q15]
   by_cases e:y.Feat > x.Feat
   ·simp only [e,decide_true,cond_true]
    refine qza hx hol hup m p (by omega) (by omega) fun a ha=>?_
    rw [drop_cons' hy] at ha
    rcases List.mem_cons.1 ha with rfl | ha
    ·omega
    ·exact hd a ha
   ·simp only [e,decide_false,cond_false]
    refine ⟨p+1,hp,rfl,hd,fun a ha=>?_⟩
    obtain ⟨j,hj,rfl⟩:=List.mem_iff_getElem.1 ha
    simp only [List.length_take] at hj
    rw [List.getElem_take]
    obtain ⟨hp',ey⟩:=List.getElem?_eq_some_iff.1 hy
    by_cases ej:j=p
    ·subst ej; rw [ey]; omega
    ·have:=List.pairwise_iff_getElem.1 hup j p (by omega) hp' (by omega)
     rw [ey] at this
     omega
theorem ins_K2 {l:List q0z} {i:Nat} {x:q0z} (hx:l[i]? = some x) {out:List q0z} (hol:out.length≤1000000) {rc:Int→List q0z→Option (List q0z)} {q:Nat} (hq:q≤out.length) :
  q3n l i out rc (q:Int)=rc (IntKind.i64.wrap ((i:Int)+1)) (out.take q++x::out.drop q):=by
 have e1:(out.drop 0).take ((q:Int)).toNat=out.take q:=by rw [List.drop_zero,Int.toNat_natCast]
 have e2:(out.drop (0+((q:Int)).toNat)).take (out.length - ((q:Int)).toNat)=out.drop q:=by
  rw [Int.toNat_natCast,Nat.zero_add,List.take_of_length_le (by simp)]
 have l1:(out.take q).length=q:=by simp; omega
 have n1:(0:Int)≤(q:Int)∧(q:Int)≤((out.length:Nat):Int):=by omega
 have n2:0+((q:Int)).toNat≤out.length:=by rw [Int.toNat_natCast]; omega
 have n3:(out.take q).length*16≤140737488355328∧(out.take q).length≤140737488355328:=by omega
 have n4:((out.take q).length+1)*16≤140737488355328∧(out.take q).length+1≤140737488355328:=by omega
 have n5:(0+((q:Int)).toNat)+(out.length - ((q:Int)).toNat)≤out.length:=by rw [Int.toNat_natCast]; omega
 have n6:((out.take q++[x]).length+(out.drop q).length)*16≤140737488355328∧(out.take q++[x]).length+(out.drop q).length≤140737488355328:=by simp; omega
 unfold q3n
 simp only [q1e,e1,e2,q30,hx,q15]
 rw [if_pos n1,if_pos n2,if_pos n3,if_pos n4,if_pos n1,if_pos n5,if_pos n6]
 simp
theorem qz9 {l:List q0z} (hl:l.length≤1000000) (hd:Dis l) {n:Nat} (hn:l.length<n):∀ (m i:Nat),l.length - i<m→i≤l.length→q25 l n m i (qol (l.take i))=some (qol l)
 | 0,i,hm,_=>by omega
 | m+1,i,hm,hi=>by
  have hdi:Dis (l.take i):=hd.sublist (List.take_sublist i l)
  have hol:(qol (l.take i)).length=i:=by rw [(q6t _).length_eq]; simp; omega
  unfold q25
  by_cases hlt:i<l.length
  ·obtain ⟨x,hx,_⟩:=q5s hlt
   obtain ⟨q,q1,q2,q3,q4⟩:=qza hx (out:=qol (l.take i)) (by omega) (qod hdi) (rc:=q25 l n m) n (qol (l.take i)).length (by omega) (Nat.le_refl _) (by simp)
   simp only [dlt hlt,cond_true,q2,ins_K2 hx (show (qol (l.take i)).length≤1000000 by omega) q1,wr1 hlt (show l.length≤9223372036854775807 by omega)]
   have hdi1:Dis (l.take (i+1)):=hd.sublist (List.take_sublist _ l)
   have hperm:((qol (l.take i)).take q++x::(qol (l.take i)).drop q).Perm (l.take (i+1)):=by
    rw [qa5 hx]
    refine List.perm_middle.trans ?_
    rw [List.take_append_drop]
    exact ((q6t (l.take i)).cons x).trans (List.perm_append_comm (l₁:=[x]) (l₂:=l.take i))
   have hne:∀ a∈qol (l.take i),a.Feat≠x.Feat:=fun a ha e=>by
    rw [qa5 hx] at hdi1
    have:=(List.pairwise_append.1 hdi1).2.2 a ((q6t _).mem_iff.1 ha) x (by simp)
    exact this e
   have hup:UpA ((qol (l.take i)).take q++x::(qol (l.take i)).drop q):=by
    have h0:=qod hdi
    unfold UpA at *
    rw [List.pairwise_append]
    refine ⟨h0.sublist (List.take_sublist _ _),List.pairwise_cons.2 ⟨q3,h0.sublist (List.drop_sublist _ _)⟩,fun a ha b hb=>?_⟩
    have h1:=q4 a ha
    have h2:=hne a (List.mem_of_mem_take ha)
    rcases List.mem_cons.1 hb with rfl | hb
    ·omega
    ·have:=q3 b hb; omega
   rw [← qwo hdi1 hperm hup]
   exact qz9 hl hd hn m (i+1) (by omega) (by omega)
  ·simp only [qoi hlt,cond_false,q6p]
   rw [List.take_of_length_le (by omega)]
theorem qj6 {l:List q0z} (hl:l.length≤1000000) (hd:Dis l) {n:Nat} (hn:l.length<n):q8a n l=some (qol l):=by
 have h:=qz9 hl hd hn n 0 (by omega) (by omega)
 rw [Int.ofNat_zero,List.take_zero] at h
 exact h
structure qwz (f:GFS) (w:List Int) (o:List Int):Prop where
 len:w.length=f.Nodes.length
 get:∀ x,InG f x→q12 w x=some (if x∈o then (o.idxOf x:Int) else -1)
theorem qwz.snoc {f:GFS} {w o:List Int} (h:qwz f w o) {v:Int} (hv:InG f v) (hn:v ∉ o):qwz f (w.set (0+v.toNat) (o.length:Int)) (o++[v]):=by
 refine ⟨by simp [h.len],fun x hx=>?_⟩
 have hvl:v.toNat<w.length:=by rw [h.len]; have:=hv.1; have:=hv.2; omega
 have hc:0≤x∧x<((w.set (0+v.toNat) (o.length:Int)).length:Int):=by rw [List.length_set,h.len]; exact hx
 have h2:=h.get x hx
 have hc2:0≤x∧x<(w.length:Int):=by rw [h.len]; exact hx
 rw [q12,if_pos hc2] at h2
 rw [q12,if_pos hc,Nat.zero_add]
 by_cases e:x=v
 ·subst e
  simp [List.idxOf_append,hn,hvl]
 ·rw [List.getElem?_set_ne (by have:=hx.1; have:=hv.1; omega),h2]
  by_cases hxo:x∈o
  ·simp [hxo,List.idxOf_append]
  ·simp [hxo,e]
theorem qq7 {f:GFS} {k:Nat} (hg:GOK f) (hf:Small f k) (hk:k≤1000000):∀ (n:Nat) (o:List Int) (v:Int) (w:List Int),Seen f o→InG f v→v ∉ o→qwz f w o→f.Nodes.length - o.length+k+2≤n →
  ∃ w',q1h n v f.Nodes w o=some (w',dfs f n o v)∧qwz f w' (dfs f n o v)
 | 0,o,v,w,hs,hv,hn,hw,hfu=>by omega
 | n+1,o,v,w,hs,hv,hn,hw,hfu=>by
  have hs1:=hs.snoc hv hn
  have hl1:=hs1.len
  simp only [List.length_append,List.length_cons,List.length_nil] at hl1
  obtain ⟨hx,hxm⟩:=qtn hv
  have hno:=hg _ hxm
  have hal:=hf.arcs _ hxm
  have hnl:=hf.nodes
  have hsl:(sar f v).length=(nd f v).Arcs.length:=(q6t _).length_eq
  have key:∀ (m i:Nat) (p:List Int) (w:List Int),(sar f v).length - i<m→i≤(sar f v).length→Seen f p→o.length+1≤p.length→qwz f w p →
    ∃ w',q1b f.Nodes (sar f v) (q1h n) m i w p=some (w',((sar f v).drop i).foldl (qqd (dfs f n)) p)∧qwz f w' (((sar f v).drop i).foldl (qqd (dfs f n)) p):=by
   intro m
   induction m with
   | zero=>intro i p w hm; omega
   | succ m ih =>
    intro i p w hm hi hp hpl hw
    unfold q1b
    by_cases hlt:i<(sar f v).length
    ·obtain ⟨a,ha,ham⟩:=q5s hlt
     have h1:=hno.arc a (qir.1 ham)
     have hia:InG f a.To:=⟨h1.2.1,h1.2.2⟩
     have hw1:IntKind.i64.wrap ((i:Int)+1)=((i+1:Nat):Int):=wr1 hlt (by omega)
     simp only [dlt hlt,cond_true,q30,ha,q15,hw.get _ hia,drop_cons' ha,List.foldl_cons]
     by_cases hm2:a.To∈p
     ·have hneg:¬ ((p.idxOf a.To:Nat):Int)<0:=by omega
      simp only [hm2,if_true,hneg,decide_false,cond_false,q1r,hw1,qqd]
      exact ih (i+1) p w (by omega) (by omega) hp hpl hw
     ·have hneg:(-1:Int)<0:=by decide
      simp only [hm2,if_false,hneg,decide_true,cond_true,q1r,hw1,qqd]
      obtain ⟨w1,g1,g2⟩:=qq7 hg hf hk n p a.To w hp hia hm2 hw (by omega)
      obtain ⟨d1,⟨t,d2⟩,_,_⟩:=qus hg n p a.To hp hia hm2 (by omega)
      simp only [g1,q15]
      exact ih (i+1) _ w1 (by omega) (by omega) d1 (by rw [d2]; simp; omega) g2
    ·rw [drop_nil' hlt]
     simp only [qoi hlt,cond_false,q31,List.foldl_nil]
     exact ⟨w,rfl,hw⟩
  have hneed:(o.length+1)*8≤140737488355328∧o.length+1≤140737488355328:=by omega
  obtain ⟨w',g1,g2⟩:=key n 0 (o++[v]) _ (by omega) (by omega) hs1 (by simp) (hw.snoc hv hn)
  rw [Int.ofNat_zero,List.drop_zero] at g1
  rw [List.drop_zero] at g2
  refine ⟨w',?_,g2⟩
  show q3c n (q1h n) v f.Nodes w o=_
  simp only [q3c,hw.get _ hv,q1e,hneed,and_self,if_true,hx,q15,qj6 (show (nd f v).Arcs.length≤1000000 by omega) hno.dis (show (nd f v).Arcs.length<n by omega)]
  exact g1
theorem qvb {f:GFS} {o w:List Int} {z:Int} {l27:List q0i} {rc:Int→List q0i→Option GFS} {x:q0i} {l:List q0z} (hl:l.length≤1000000) (hw:qwz f w o) (hin:∀ a∈l,a.To∈o) (hing:∀ v∈o,InG f v):∀ (m i:Nat),l.length - i<m→i≤l.length →
  q3r (w,o) z l27 rc x m i ((l.take i).map (qqp o)++l.drop i)=q6o z l27 rc x (l.map (qqp o))
 | 0,i,hm,_=>by omega
 | m+1,i,hm,hi=>by
  unfold q3r
  have hlen:((l.take i).map (qqp o)++l.drop i).length=l.length:=by simp; omega
  rw [hlen]
  by_cases hlt:i<l.length
  ·obtain ⟨a,ha,ham⟩:=q5s hlt
   have e1:(((l.take i).map (qqp o)++l.drop i))[i]? = some a:=by
    rw [List.getElem?_append_right (by simp; omega)]
    simp [show min i l.length=i by omega,ha]
   have e2:(((l.take i).map (qqp o)++l.drop i)).set (0+(i:Int).toNat) (qqp o a)=(l.take (i+1)).map (qqp o)++l.drop (i+1):=by
    rw [drop_cons' ha,qa5 ha]
    have h3:((l.take i).map (qqp o)).length=i:=by simp; omega
    have:=set_at ((l.take i).map (qqp o)) (l.drop (i+1)) a (qqp o a)
    rw [h3] at this
    rw [Nat.zero_add,Int.toNat_natCast,this,List.map_append,List.map_cons,List.map_nil,List.append_assoc]
    rfl
   have hto:=hin a ham
   have e3:(⟨a.Feat,(o.idxOf a.To:Int)⟩:q0z)=qqp o a:=rfl
   simp only [dlt hlt,cond_true,q30,e1,q15,hw.get _ (hing _ hto),hto,if_true,e3,e2,wr1 hlt (show l.length≤9223372036854775807 by omega)]
   exact qvb hl hw hin hing m (i+1) (by omega) (by omega)
  ·simp only [qoi hlt,cond_false]
   rw [List.take_of_length_le (by omega),List.drop_eq_nil_of_le (by omega),List.append_nil]
theorem qva {f:GFS} {k:Nat} (hg:GOK f) (hf:Small f k) (hk:k≤1000000) {n:Nat} (hn:k+2≤n) {r:Int} {o w:List Int} (ho:OrdOk f r o) (hw:qwz f w o):∀ (m i:Nat),o.length - i<m→i≤o.length →
  q2o f n (w,o) m i ((o.take i).map (qi9 f o))=some ⟨o.map (qi9 f o)⟩
 | 0,i,hm,_=>by omega
 | m+1,i,hm,hi=>by
  have hol:=ho.seen.len
  have hnl:=hf.nodes
  unfold q2o
  by_cases hlt:i<o.length
  ·obtain ⟨v,hv,hvm⟩:=q5s hlt
   obtain ⟨hx,hxm⟩:=qtn (ho.seen.ing v hvm)
   have hno:=hg _ hxm
   have hal:=hf.arcs _ hxm
   have hsl:(sar f v).length=(nd f v).Arcs.length:=(q6t _).length_eq
   have h2:=qvb (z:=(i:Int)) (l27:=(o.take i).map (qi9 f o)) (rc:=q2o f n (w,o) m) (x:=nd f v) (l:=sar f v) (by omega) hw (fun a ha=>ho.clo v hvm a (qir.1 ha)) ho.seen.ing n 0 (by omega) (by omega)
   rw [Int.ofNat_zero,List.take_zero,List.map_nil,List.nil_append,List.drop_zero] at h2
   have hneed:(((o.take i).map (qi9 f o)).length+1)*32≤140737488355328∧((o.take i).map (qi9 f o)).length+1≤140737488355328:=by simp; omega
   have hso:=qj6 (show (nd f v).Arcs.length≤1000000 by omega) hno.dis (show (nd f v).Arcs.length<n by omega)
   simp only [dlt hlt,cond_true,q30,hv,hx,q15,hso]
   show q3r (w,o) i _ _ (nd f v) n 0 (sar f v)=_
   rw [h2]
   simp only [q6o,q1e]
   rw [if_pos hneed,wr1 hlt (show o.length≤9223372036854775807 by omega)]
   have:=qva hg hf hk hn ho hw m (i+1) (by omega) (by omega)
   rw [qa5 hv] at this
   simpa [qi9,sar] using this
  ·simp only [qoi hlt,cond_false,q9b]
   rw [List.take_of_length_le (by omega)]
theorem qv9 {f:GFS} (hN:f.Nodes.length≤1000000) {r:Int} {n:Nat}:∀ (m i:Nat),f.Nodes.length - i<m→i≤f.Nodes.length→q50 f r n m i (List.replicate i (-1))=q6n f r n (List.replicate f.Nodes.length (-1))
 | 0,i,hm,_=>by omega
 | m+1,i,hm,hi=>by
  unfold q50
  by_cases hlt:i<f.Nodes.length
  ·have hneed:((List.replicate i (-1:Int)).length+1)*8≤140737488355328∧(List.replicate i (-1:Int)).length+1≤140737488355328:=by simp; omega
   have e:List.replicate i (-1:Int)++[-1]=List.replicate (i+1) (-1):=by rw [List.replicate_succ']
   simp only [dlt hlt,cond_true,q1e]
   rw [if_pos hneed,wr1 hlt (show f.Nodes.length≤9223372036854775807 by omega),e]
   exact qv9 hN m (i+1) (by omega) (by omega)
  ·simp only [qoi hlt,cond_false]
   rw [show i=f.Nodes.length by omega]
theorem z0c {f:GFS} {k:Nat} (hg:GOK f) (hf:Small f k) (hk:k≤1000000) {r:Int} (hr:InG f r) {n:Nat} (hn:2*k+4≤n):qby n f r=some (q85 f r):=by
 obtain ⟨ho,hst⟩:=qr6 hg hr
 have hnl:=hf.nodes
 have h0:qwz f (List.replicate f.Nodes.length (-1)) []:=⟨by simp,fun x hx=>by
  have hc:0≤x∧x<((List.replicate f.Nodes.length (-1:Int)).length:Int):=by rw [List.length_replicate]; exact hx
  rw [q12,if_pos hc]
  have:x.toNat<f.Nodes.length:=by have:=hx.1; have:=hx.2; omega
  simp [this]⟩
 obtain ⟨w,g1,g2⟩:=qq7 hg hf hk n [] r _ (Seen.nil f) hr (by simp) h0 (by simp; omega)
 rw [hst n (by omega)] at g1 g2
 have hol:=ho.seen.len
 have h1:=qva hg hf hk (show k+2≤n by omega) ho g2 n 0 (by omega) (by omega)
 rw [Int.ofNat_zero,List.take_zero,List.map_nil] at h1
 have h2:=qv9 (f:=f) (by omega) (r:=r) (n:=n) n 0 (by omega) (by omega)
 rw [Int.ofNat_zero,List.replicate_zero] at h2
 simp only [qby,h2,q6n,g1,q15,h1,q85]
theorem qre {f:GFS} {k:Nat} (hf:Small f k) (hk:k≤1000000) {n:Nat} (hn:2*k+4≤n):qa3 n f=some (if quy f=0 then (q85 f 0,0) else (⟨[]⟩,quy f)):=by
 simp only [qa3,z0b hf hk (show k<n by omega),q15]
 by_cases he:quy f=0
 ·obtain ⟨e1,e2,e3⟩:=qp0.1 he
  simp [he,z0c e3 hf hk (r:=0) ⟨by omega,by omega⟩ hn,q15]
 ·have hb:(quy f != 0)=true:=by simpa using he
  simp [he,hb]
end Go.Proofs
end
section
namespace Go.Proofs
open Go Go.Rx Go.Vx Go.Shelf Go.Sort
set_option maxRecDepth 10000
theorem ex_ok (m:Nat):q2f (m+200)=some true:=by kernel_rfl
theorem ex_n {n:Nat} (h:200≤n):q2f n=some true:=by
 have:=ex_ok (n - 200)
 rwa [Nat.sub_add_cancel h] at this
structure VOK (f:GFS):Prop where
 g:GOK f
 s:Small f 12
 e:quy f=0
 c:q85 f 0=f
theorem qt1 {f:GFS} (hf:Small f 12):∀ (m i:Nat),f.Nodes.length - i<m→i≤f.Nodes.length→∃ b,q41 f m i=some b
 | 0,i,hm,_=>by omega
 | m+1,i,hm,hi=>by
  unfold q41
  have hl:=hf.nodes
  by_cases hlt:i<f.Nodes.length
  ·obtain ⟨x,hx,hxm⟩:=q5s hlt
   have ha:=hf.arcs x hxm
   simp only [dlt hlt,cond_true,q30,hx,q15,wr1 hlt (show f.Nodes.length≤9223372036854775807 by omega)]
   have hin:∃ b,(cond (decide (x.Typex ≥ 256)) (some true) (cond (decide ((x.Arcs.length:Int) > 0)) (q04 (q12 x.Arcs (IntKind.i64.wrap ((x.Arcs.length:Int) - 1))) fun x24=>some (decide (x24.Feat ≥ 64))) (some false)))=some b:=by
    by_cases h1:x.Typex ≥ 256
    ·simp [h1]
    ·by_cases h2:(x.Arcs.length:Int) > 0
     ·obtain ⟨y,hy,_⟩:=q5s (l:=x.Arcs) (i:=x.Arcs.length - 1) (by omega)
      rw [wrn (z:=(x.Arcs.length:Int) - 1) (k:=x.Arcs.length - 1) (by omega) (by omega),q30,hy]
      simp only [h1,h2,decide_false,decide_true,cond_false,cond_true,q15]; exact ⟨_,rfl⟩
     ·simp only [h1,h2,decide_false,cond_false]; exact ⟨_,rfl⟩
   obtain ⟨b,hb⟩:=hin
   rw [hb,q15]
   cases b with
   | true=>exact ⟨false,rfl⟩
   | false=>simp only [cond_false]; exact qt1 hf m (i+1) (by omega) (by omega)
  ·simp only [qoi hlt,cond_false,q79]; exact ⟨true,rfl⟩
theorem qys {f:GFS} {n:Nat} (hn:3000000≤n):∃ b,q9n n f=some b∧(b=true→VOK f):=by
 obtain ⟨b,h1,h2⟩:=qy3 f (show 20≤n by omega)
 simp only [q9n,h1,q15]
 cases b with
 | false=>exact ⟨false,rfl,fun h=>by cases h⟩
 | true =>
  have hf:=h2 rfl
  have hR:=qre hf (by omega) (show 2*12+4≤n by omega)
  have hnl:=hf.nodes
  obtain ⟨b2,hb2⟩:=qt1 hf n 0 (by omega) (by omega)
  rw [Int.ofNat_zero] at hb2
  simp only [Bool.not_true,cond_false,hR,q15]
  by_cases he:quy f=0
  ·obtain ⟨e1,e2,e3⟩:=qp0.1 he
   have hs:=(hf.canon e3 (r:=0) ⟨by omega,by omega⟩).up (show 12≤1000 by omega)
   have hq:=qsl (hf.up (show 12≤1000 by omega)) hs hn
   simp only [he,if_true,bne_self_eq_false,cond_false,hq,q15]
   by_cases hc:ccG f (q85 f 0)=0
   ·refine ⟨b2,by simp [hc,hb2],fun _=>⟨e3,hf,he,(qxg.1 hc).symm⟩⟩
   ·have:(ccG f (q85 f 0) == 0)=false:=by simpa using hc
    exact ⟨false,by simp [this],fun h=>by cases h⟩
  ·have hb:(quy f != 0)=true:=by simpa using he
   exact ⟨false,by simp [he,hb,q15],fun h=>by cases h⟩
theorem qsu {p:List Int} (hp:p.length≤9223372036854775807):∀ (m i:Nat),p.length - i<m→i≤p.length→∃ b,q40 p m i=some b∧(b=true→p.length≤30∧∀ x∈p.drop i,0≤x∧x<64)
 | 0,i,hm,_=>by omega
 | m+1,i,hm,hi=>by
  unfold q40
  by_cases hlt:i<p.length
  ·obtain ⟨x,hx,_⟩:=q5s hlt
   simp only [dlt hlt,cond_true,q30,hx,q15,wr1 hlt hp,drop_cons' hx]
   by_cases h1:x<0
   ·simp only [h1,decide_true,cond_true,q15]; exact ⟨false,rfl,fun h=>by cases h⟩
   ·by_cases h2:x ≥ 64
    ·simp only [h1,h2,decide_true,decide_false,cond_true,cond_false,q15]; exact ⟨false,rfl,fun h=>by cases h⟩
    ·simp only [h1,h2,decide_false,cond_false,q15]
     obtain ⟨b,g1,g2⟩:=qsu hp m (i+1) (by omega) (by omega)
     refine ⟨b,g1,fun hb=>⟨(g2 hb).1,fun y hy=>?_⟩⟩
     rcases List.mem_cons.1 hy with rfl | hy
     ·omega
     ·exact (g2 hb).2 y hy
  ·simp only [qoi hlt,cond_false,q78,drop_nil' hlt]
   exact ⟨_,rfl,fun h=>⟨by have:=of_decide_eq_true h; omega,fun x hx=>by cases hx⟩⟩
theorem qyi {p:List Int} (hp:p.length≤9223372036854775807) {n:Nat} (hn:p.length<n):∃ b,qc7 n p=some b∧(b=true→p.length≤30∧∀ x∈p,0≤x∧x<64):=by
 obtain ⟨b,h1,h2⟩:=qsu hp n 0 (by omega) (by omega)
 rw [List.drop_zero] at h2
 exact ⟨b,h1,h2⟩
def pr (o:Option Int):Int×Bool:=match o with | some v=>(v,true) | none=>(0,false)
end Go.Proofs
end
section
namespace Go.Proofs
open Go Go.Rx Go.Vx Go.Shelf Go.Sort
set_option maxRecDepth 10000
theorem needT' {β:Type} {p:Prop} [Decidable p] {k:Option β} (h:p):q1e p k=k:=if_pos h
def chn:Nat→List Int→List q0i
 | _,[]=>[]
 | i,x::p=>⟨0,[⟨x,((i+1:Nat):Int)⟩]⟩::chn (i+1) p
def shfA (k:Nat) (a:q0z):q0z:=⟨a.Feat,a.To+k⟩
def shf (k:Nat) (x:q0i):q0i:=⟨x.Typex,x.Arcs.map (shfA k)⟩
def qyp (p:List Int) (f:GFS):GFS:=⟨chn 0 p++f.Nodes.map (shf p.length)⟩
theorem qhu:∀ (p:List Int) (i:Nat),(chn i p).length=p.length
 | [],_=>rfl
 | x::p,i=>by simp [chn,qhu p]
theorem qum:∀ (p:List Int) (i j:Nat) {x:Int},p[j]? = some x→(chn i p)[j]? = some ⟨0,[⟨x,((i+j+1:Nat):Int)⟩]⟩
 | [],_,j,x,h=>by simp at h
 | y::p,i,0,x,h=>by simp at h; subst h; rfl
 | y::p,i,j+1,x,h=>by
  simp only [List.getElem?_cons_succ] at h
  simp only [chn,List.getElem?_cons_succ]
  rw [qum p (i+1) j h,show i+1+j+1=i+(j+1)+1 by omega]
theorem qyq (p:List Int) (f:GFS):(qyp p f).Nodes.length=p.length+f.Nodes.length:=by simp [qyp,qhu]
theorem qzt {p:List Int} (hp:p.length≤30) {l:List q0z} (hl:l.length≤12) (hto:∀ a∈l,0≤a.To∧a.To≤1000) {z:Int} {acc:List q0i} {rc rc':Int→List q0i→Option GFS} {x:q0i} (hx:x.Arcs=l):∀ (m k:Nat),l.length - k<m→k≤l.length →
  q4s p z acc rc x m k ((l.take k).map (shfA p.length))=q68 z acc rc x (l.map (shfA p.length)) ∧
  q4d p z acc rc' x x m k ((l.take k).map (shfA p.length))=q5b z acc rc' x (l.map (shfA p.length))
 | 0,k,hm,_=>by omega
 | m+1,k,hm,hk=>by
  unfold q4s q4d
  rw [hx]
  by_cases hkl:k<l.length
  ·obtain ⟨a,ha,ham⟩:=q5s hkl
   have h1:=hto a ham
   have ih:=qzt hp hl hto (z:=z) (acc:=acc) (rc:=rc) (rc':=rc') hx m (k+1) (by omega) (by omega)
   have hw:IntKind.i64.wrap (a.To+(p.length:Int))=a.To+(p.length:Int):=wr (by omega) (by omega)
   have hlen:((l.take k).map (shfA p.length)).length=k:=by simp; omega
   have hb:(k+1)*16≤140737488355328∧k+1≤140737488355328:=by omega
   simp only [dlt hkl,cond_true,q30,ha,q15,wr1 hkl (show l.length≤9223372036854775807 by omega),hw,hlen,needT' hb]
   rw [qa5 ha,List.map_append] at ih
   exact ih
  ·simp only [qoi hkl,cond_false]
   rw [List.take_of_length_le (by omega)]
   exact ⟨rfl,rfl⟩
theorem qzs {p:List Int} (hp:p.length≤30) {f:GFS} (hg:GOK f) (hs:Small f 12) {n:Nat} (hn:100≤n):∀ (m i:Nat),f.Nodes.length - i<m→i≤f.Nodes.length →
  q2l p f n m i (chn 0 p++(f.Nodes.take i).map (shf p.length))=some (qyp p f) ∧
  q2b p f n m i (chn 0 p++(f.Nodes.take i).map (shf p.length))=some (qyp p f)
 | 0,i,hm,_=>by omega
 | m+1,i,hm,hi=>by
  have hN:=hs.nodes
  unfold q2l q2b
  by_cases hlt:i<f.Nodes.length
  ·obtain ⟨x,hx,hxm⟩:=q5s hlt
   have hal:=hs.arcs x hxm
   have h3:=qzt hp (l:=x.Arcs) (by omega) (fun a ha=>by have:=(hg x hxm).arc a ha; omega) (z:=(i:Int)) (acc:=chn 0 p++(f.Nodes.take i).map (shf p.length)) (rc:=q2l p f n m) (rc':=q2b p f n m) (x:=x) rfl n 0 (by omega) (by omega)
   rw [Int.ofNat_zero,List.take_zero,List.map_nil] at h3
   have ih:=qzs hp hg hs hn m (i+1) (by omega) (by omega)
   have hlen:(chn 0 p++(f.Nodes.take i).map (shf p.length)).length=p.length+i:=by simp [qhu]; omega
   have hb:(p.length+i+1)*32≤140737488355328∧p.length+i+1≤140737488355328:=by omega
   simp only [dlt hlt,cond_true,q30,hx,q15,h3.1,h3.2,q68,q5b,hlen,needT' hb,wr1 hlt (show f.Nodes.length≤9223372036854775807 by omega)]
   rw [qa5 hx,List.map_append,← List.append_assoc] at ih
   exact ih
  ·simp only [qoi hlt,cond_false,q8z,q80]
   rw [List.take_of_length_le (by omega)]
   exact ⟨rfl,rfl⟩
theorem qxj {p:List Int} {x:Int}:∀ {i j:Nat},p[i]? = some x→chn j (p.take (i+1))=chn j (p.take i)++[⟨0,[⟨x,((j+i+1:Nat):Int)⟩]⟩]:=by
 induction p with
 | nil=>intro i j h; simp at h
 | cons y p ih =>
  intro i j h
  cases i with
  | zero=>simp at h; subst h; simp [chn]
  | succ i =>
   simp only [List.getElem?_cons_succ] at h
   simp only [List.take_succ_cons,chn,List.cons_append]
   rw [ih h,show j+1+i+1=j+(i+1)+1 by omega]
theorem qzr {p:List Int} (hp:p.length≤30) {f:GFS} (hg:GOK f) (hs:Small f 12) {n:Nat} (hn:100≤n):∀ (m i:Nat),p.length - i<m→i≤p.length →
  q4r p f n m i (chn 0 (p.take i))=some (qyp p f)∧q4c p f n m i (chn 0 (p.take i))=some (qyp p f)
 | 0,i,hm,_=>by omega
 | m+1,i,hm,hi=>by
  have hN:=hs.nodes
  unfold q4r q4c
  by_cases hlt:i<p.length
  ·obtain ⟨x,hx,_⟩:=q5s hlt
   have ih:=qzr hp hg hs hn m (i+1) (by omega) (by omega)
   have hlen:(chn 0 (p.take i)).length=i:=by rw [qhu,List.length_take]; omega
   have hb:(i+1)*32≤140737488355328∧i+1≤140737488355328:=by omega
   simp only [dlt hlt,cond_true,q30,hx,q15,hlen,needT' hb,wr1 hlt (show p.length≤9223372036854775807 by omega)]
   rw [qxj hx,Nat.zero_add] at ih
   exact ih
  ·simp only [qoi hlt,cond_false,q8y,q7z]
   rw [List.take_of_length_le (by omega)]
   have:=qzs hp hg hs hn n 0 (by omega) (by omega)
   rw [Int.ofNat_zero,List.take_zero,List.map_nil,List.append_nil] at this
   exact this
theorem qyr {p:List Int} (hp:p.length≤30) {f:GFS} (hg:GOK f) (hs:Small f 12) {n:Nat} (hn:100≤n):qbv n p f=some (qyp p f)∧qdd n p f=some (qyp p f):=by
 have:=qzr hp hg hs hn n 0 (by omega) (by omega)
 rw [Int.ofNat_zero,List.take_zero] at this
 exact this
theorem z03 {p:List Int} {x:q0i}:∀ {i:Nat},x∈chn i p→∃ j y,j<p.length∧p[j]? = some y∧x=⟨0,[⟨y,((i+j+1:Nat):Int)⟩]⟩:=by
 intro i h
 obtain ⟨j,hj,e⟩:=List.mem_iff_getElem.1 h
 rw [qhu] at hj
 obtain ⟨y,hy,_⟩:=q5s hj
 refine ⟨j,y,hj,hy,?_⟩
 have:=qum p i j hy
 rw [List.getElem?_eq_getElem (by rw [qhu]; exact hj),e] at this
 exact Option.some.inj this
theorem qty {p:List Int} (hp:p.length≤30) {f:GFS} (hs:Small f 12):Small (qyp p f) 42:=by
 refine ⟨by rw [qyq]; have:=hs.nodes; omega,fun x hx=>?_⟩
 rcases List.mem_append.1 hx with hx | hx
 ·obtain ⟨j,y,_,_,rfl⟩:=z03 hx
  simp
 ·obtain ⟨y,hy,rfl⟩:=List.mem_map.1 hx
  have:=hs.arcs y hy
  simp [shf]
  omega
theorem qtz {p:List Int} (hp:p.length≤9223372036854775807) (f:GFS) {n:Nat} (hn:3000000+p.length≤n):q5d n p f=some true:=by
 obtain ⟨b,h1,h2⟩:=qys (f:=f) (show 3000000≤n by omega)
 obtain ⟨c,h3,h4⟩:=qyi hp (show p.length<n by omega)
 have hex:=ex_n (show 200≤n by omega)
 simp only [q5d,h1,h3,hex,q15]
 cases b with
 | false=>simp [q15]
 | true =>
  cases c with
  | false=>simp [q15]
  | true =>
   have hv:=h2 rfl
   have hq:=h4 rfl
   have a1:=qyr hq.1 hv.g hv.s (show 100≤n by omega)
   have hs:=(qty hq.1 hv.s).up (show 42≤1000 by omega)
   have a2:=qsl hs hs (show 3000000≤n by omega)
   simp [a1.1,a1.2,a2,q15,qyz.self]
section
variable {p:List Int} {f:GFS}
end
end Go.Proofs
end
