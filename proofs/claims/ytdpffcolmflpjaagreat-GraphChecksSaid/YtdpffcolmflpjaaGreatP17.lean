/-
  Texts of the walk: H4z.
-/
import Derived.Test.YtdpffcolmflpjaaGreatP16
set_option linter.unusedSimpArgs false
set_option linter.unusedVariables false
section
namespace Go.Proofs
open Go Go.Rx Go.Vx Tryz
set_option maxRecDepth 20000
set_option maxHeartbeats 4000000
set_option synthInstance.maxSize 4000
set_option synthInstance.maxHeartbeats 200000
theorem qm0 (n:Nat) (p1:List q02) (r:(List (List UInt8))) (hF:qcm n p1=some r):EvU Tryz.prog 65 [.isl false (List.map q03 p1)] ⟨[],0⟩ (fun u _=>u = .isl false (List.map cS r)∧Bel 0 u):=by
 unfold qcm at hF
 refine bg1 52 fn65 ?_
 refine gr ?_
 refine gr ?_
 refine gr ?_
 refine WPU.ghost (tm':=fr 52 [(0,.iM q03 p1),(3,.vl 0 0 0 (([]:List (List UInt8)).length)),(4,.bool true)]) (σ':=⟨[(0,.vec (List.map cS ([]:List (List UInt8))).flatten 9 1 0)],1⟩) (Gh.trans (z4g 3 9 1 (by decide) NZ rfl rfl) (z4e ⟨rfl,rfl,rfl,trivial⟩ rfl)) NZ ?_
 refine gS (l':=[(0,_),(3,_),(4,_)]) ?_
 refine z44 (fun m tm σ=>∃ b6:Bool,∃ l7:List (List UInt8),∃ t8:Nat,q1r p1 n m b6 l7=some r∧tm=fr 52 [(0,.iM q03 p1),(3,.vl 0 t8 0 l7.length),(4,.bool b6)]∧σ=⟨[(0,.vec (List.map cS l7).flatten 9 1 t8)],1⟩) (fun tm σ=>∃ l9:List (List UInt8),∃ t10:Nat,q8i l9=some r∧tm=fr 52 [(3,.vl 0 t10 0 l9.length)]∧σ=⟨[(0,.vec (List.map cS l9).flatten 9 1 t10)],1⟩) n ⟨true,([]:List (List UInt8)),0,hF,rfl,rfl⟩ ?_ ?_
 rintro _ _ ⟨l9,t10,hF,rfl,rfl⟩
 unfold q8i at hF
 refine go ?_
 obtain rfl:=sI hF
 exact rT (us:=[.vl 0 t10 0 l9.length]) (u:=.iM cS l9) (q4e rfl (q3x)) (fR 0 1)
 rintro (_|m1) _ _ ⟨b6,l7,t8,hF,rfl,rfl⟩
 cases hF
 unfold q1r at hF
 refine go ?_
 refine cF hF (fun h11 hF=>?_) (fun h11 hF=>?_)
 refine go ?_
 refine WPU.block ?_
 refine go ?_
 refine gS (l':=[(0,_),(3,_),(4,_),(5,_),(6,_)]) ?_
 refine z44 (fun m tm σ=>∃ b18:Bool,∃ s19:List UInt8,∃ z20:Int,q26 p1 n l7 (q1r p1 n m1) m b18 s19 z20=some r∧tm=fr 52 [(0,.iM q03 p1),(3,.vl 0 t8 0 l7.length),(4,.bool b18),(5,.str s19),(6,.i6 z20)]∧σ=⟨[(0,.vec (List.map cS l7).flatten 9 1 t8)],1⟩) (fun tm σ=>∃ b21:Bool,∃ s22:List UInt8,q8j l7 (q1r p1 n m1) b21 s22=some r∧tm=fr 52 [(0,.iM q03 p1),(3,.vl 0 t8 0 l7.length),(4,.bool b21),(5,.str s22)]∧σ=⟨[(0,.vec (List.map cS l7).flatten 9 1 t8)],1⟩) n ⟨false,[],0,hF,rfl,rfl⟩ ?_ ?_
 rintro _ _ ⟨b21,s22,hF,rfl,rfl⟩
 unfold q8j at hF
 refine gr ?_
 refine z47 (fun tm σ=>∃ l24:List (List UInt8),∃ t25:Nat,q6e (q1r p1 n m1) b21 l24=some r∧tm=fr 52 [(0,.iM q03 p1),(3,.vl 0 t25 0 l24.length),(4,.bool b21)]∧σ=⟨[(0,.vec (List.map cS l24).flatten 9 1 t25)],1⟩) ?_ ?_
 rintro _ _ ⟨l24,t25,hF,rfl,rfl⟩
 unfold q6e at hF
 refine go ?_
 exact lC ⟨b21,l24,t25,hF,rfl,rfl⟩
 refine cF hF (fun h23 hF=>?_) (fun h23 hF=>?_)
 obtain ⟨h26,hF⟩:=q09 hF
 refine go ?_
 refine RS.g ?_
 refine RS.g ?_
 refine go ?_
 exact xC ⟨(l7++[s22]),(t8+1),hF,rfl,rfl⟩
 refine go ?_
 exact xC ⟨l7,t8,hF,rfl,rfl⟩
 rintro (_|m2) _ _ ⟨b18,s19,z20,hF,rfl,rfl⟩
 cases hF
 unfold q26 at hF
 refine go ?_
 refine cF hF (fun h27 hF=>?_) (fun h27 hF=>?_)
 refine go ?_
 refine WPU.block ?_
 obtain ⟨b37,h38,hF⟩:=q00 hF
 refine gn ?_
 refine z47 (fun tm σ=>tm=fr 52 [(0,.iM q03 p1),(3,.vl 0 t8 0 l7.length),(4,.bool b18),(5,.str s19),(6,.i6 z20),(29,.bool b37)]∧σ=⟨[(0,.vec (List.map cS l7).flatten 9 1 t8)],1⟩) ?_ ?_
 rintro _ _ ⟨rfl,rfl⟩
 refine go ?_
 refine cF hF (fun h39 hF=>?_) (fun h39 hF=>?_)
 refine go ?_
 exact lC ⟨b18,s19,(IntKind.i64.wrap (z20+1)),hF,rfl,rfl⟩
 obtain ⟨b43,h44,hF⟩:=q00 hF
 refine gn ?_
 refine z47 (fun tm σ=>tm=fr 52 [(0,.iM q03 p1),(3,.vl 0 t8 0 l7.length),(5,.str s19),(6,.i6 z20),(40,.bool b43)]∧σ=⟨[(0,.vec (List.map cS l7).flatten 9 1 t8)],1⟩) ?_ ?_
 rintro _ _ ⟨rfl,rfl⟩
 refine gn ?_
 refine z47 (fun tm σ=>∃ s46:List UInt8,q6f z20 (q26 p1 n l7 (q1r p1 n m1) m2) s46=some r∧tm=fr 52 [(0,.iM q03 p1),(3,.vl 0 t8 0 l7.length),(5,.str s46),(6,.i6 z20)]∧σ=⟨[(0,.vec (List.map cS l7).flatten 9 1 t8)],1⟩) ?_ ?_
 rintro _ _ ⟨s46,hF,rfl,rfl⟩
 unfold q6f at hF
 refine go ?_
 exact lC ⟨true,s46,(IntKind.i64.wrap (z20+1)),hF,rfl,rfl⟩
 refine cF hF (fun h45 hF=>?_) (fun h45 hF=>?_)
 obtain ⟨x47,h48,hF⟩:=q00 hF
 refine go ?_
 refine RS.ix h48 ?_
 refine go ?_
 exact xC ⟨x47.Name,hF,rfl,rfl⟩
 refine go ?_
 exact xC ⟨s19,hF,rfl,rfl⟩
 rcases gB h44 with ⟨h40,h44⟩ | ⟨h40,h44⟩
 exact gy h44
 obtain ⟨x41,h42,h44⟩:=q00 h44
 obtain rfl:=sI h44
 refine go ?_
 refine RS.ix h42 ?_
 refine go ?_
 refine RS.w (u:=.bool (q1e x41.Name s19)) rfl (qea rfl rfl rfl rfl) ?_
 refine go ?_
 exact xC ⟨rfl,rfl⟩
 obtain ⟨x28,h29,h38⟩:=q00 h38
 obtain ⟨r30,h31,h38⟩:=q00 h38
 rcases gB h38 with ⟨h32,h38⟩ | ⟨h32,h38⟩
 obtain rfl:=sI h38
 refine go ?_
 refine RS.ix h29 ?_
 refine go ?_
 refine RS.cl rfl (vw (q2p n l7 x28.Name r30 h31) (z4b 0 1)) fn67 ?_
 refine go ?_
 exact xC ⟨rfl,rfl⟩
 obtain ⟨x33,h34,h38⟩:=q00 h38
 obtain ⟨r35,h36,h38⟩:=q00 h38
 obtain rfl:=sI h38
 refine go ?_
 refine RS.ix h29 ?_
 refine go ?_
 refine RS.cl rfl (vw (q2p n l7 x28.Name r30 h31) (z4b 0 1)) fn67 ?_
 refine go ?_
 refine RS.ix h34 ?_
 refine go ?_
 refine RS.cl rfl (vw (qo4 n x33 l7 r35 h36) (z4b 0 1)) fn85 ?_
 refine go ?_
 exact xC ⟨rfl,rfl⟩
 refine go ?_
 exact xC ⟨b18,s19,hF,rfl,rfl⟩
 refine go ?_
 exact xC ⟨l7,t8,hF,rfl,rfl⟩
def q7g (z15:Int) (rc1:Int→Int→Option (Int)) (z25:Int):Option (Int) :=
 rc1 z25 (IntKind.i64.wrap (z15+1))
def q9y (p1:List q02) (n:Nat) (z16:Int):Option (Int) :=
 cond (z16 != 1)
  (some 1)
  (q05 (qcm n p1) fun r18 =>
  cond (decide ((r18.length:Int)<(p1.length:Int)))
   (some 6)
   (some 0))
def q38 (p1:List q02) (n:Nat):Nat→Int→Int→Option (Int)
 | 0,_,_=>none
 | m1+1,z14,z15 =>
  cond (decide (z15<(p1.length:Int)))
   (q05 (q11 p1 z15) fun x22 =>
   cond ((x22.Supers.length:Int) == 0)
    (q7g z15 (q38 p1 n m1) (IntKind.i64.wrap (z14+1)))
    (q7g z15 (q38 p1 n m1) z14))
   (q9y p1 n z14)
def qc4 (n:Nat) (p1:List q02):Option (Int) :=
 q05 (qc6 n p1) fun r2 =>
 cond (r2 != 0)
  (some r2)
  (q05 (qdx n p1) fun r5 =>
  cond (r5 != 0)
   (some r5)
   (q05 (qcn n p1) fun r8 =>
   cond (r8 != 0)
    (some r8)
    (q38 p1 n n 0 0)))
theorem qo2 (n:Nat) (p1:List q02) (r:Int) (hF:qc4 n p1=some r):EvU Tryz.prog 36 [.isl false (List.map q03 p1)] ⟨[],0⟩ (fun u _=>u = .int .i64 r∧Bel 0 u):=by
 unfold qc4 at hF
 refine bg1 46 fn36 ?_
 obtain ⟨r2,h3,hF⟩:=q00 hF
 refine go ?_
 refine RS.cl rfl (pC (qo5 n p1 r2 h3) _) fn62 ?_
 refine go ?_
 refine cF hF (fun h4 hF=>?_) (fun h4 hF=>?_)
 exact gx hF
 obtain ⟨r5,h6,hF⟩:=q00 hF
 refine go ?_
 refine RS.cl rfl (pC (qo3 n p1 r5 h6) _) fn63 ?_
 refine go ?_
 refine cF hF (fun h7 hF=>?_) (fun h7 hF=>?_)
 exact gx hF
 obtain ⟨r8,h9,hF⟩:=q00 hF
 refine go ?_
 refine RS.cl rfl (pC (qm1 n p1 r8 h9) _) fn64 ?_
 refine go ?_
 refine cF hF (fun h10 hF=>?_) (fun h10 hF=>?_)
 exact gx hF
 refine go ?_
 refine gS (l':=[(0,_),(6,_),(7,_)]) ?_
 refine z44 (fun m tm σ=>∃ z14:Int,∃ z15:Int,q38 p1 n m z14 z15=some r∧tm=fr 46 [(0,.iM q03 p1),(6,.i6 z14),(7,.i6 z15)]∧σ=⟨[],0⟩) (fun tm σ=>∃ z16:Int,q9y p1 n z16=some r∧tm=fr 46 [(0,.iM q03 p1),(6,.i6 z16)]∧σ=⟨[],0⟩) n ⟨0,0,hF,rfl,rfl⟩ ?_ ?_
 rintro _ _ ⟨z16,hF,rfl,rfl⟩
 unfold q9y at hF
 refine go ?_
 refine cF hF (fun h17 hF=>?_) (fun h17 hF=>?_)
 exact gx hF
 obtain ⟨r18,h19,hF⟩:=q00 hF
 refine go ?_
 refine RS.cl rfl (pC (qm0 n p1 r18 h19) _) fn65 ?_
 refine go ?_
 refine cF hF (fun h20 hF=>?_) (fun h20 hF=>?_)
 exact gx hF
 exact gx hF
 rintro (_|m1) _ _ ⟨z14,z15,hF,rfl,rfl⟩
 cases hF
 unfold q38 at hF
 refine go ?_
 refine cF hF (fun h21 hF=>?_) (fun h21 hF=>?_)
 refine go ?_
 refine WPU.block ?_
 obtain ⟨x22,h23,hF⟩:=q00 hF
 refine go ?_
 refine RS.ix h23 ?_
 refine gn ?_
 refine z47 (fun tm σ=>∃ z25:Int,q7g z15 (q38 p1 n m1) z25=some r∧tm=fr 46 [(0,.iM q03 p1),(6,.i6 z25),(7,.i6 z15)]∧σ=⟨[],0⟩) ?_ ?_
 rintro _ _ ⟨z25,hF,rfl,rfl⟩
 unfold q7g at hF
 refine go ?_
 exact lC ⟨z25,(IntKind.i64.wrap (z15+1)),hF,rfl,rfl⟩
 refine cF hF (fun h24 hF=>?_) (fun h24 hF=>?_)
 refine go ?_
 exact xC ⟨(IntKind.i64.wrap (z14+1)),hF,rfl,rfl⟩
 refine go ?_
 exact xC ⟨z14,hF,rfl,rfl⟩
 refine go ?_
 exact xC ⟨z14,hF,rfl,rfl⟩
def qaq (p1:List (List UInt8)) (p2:List UInt8) (z7:Int):Option ((List (List UInt8))) :=
 q05 (cond (decide (z7<(p1.length:Int)))
  (q05 (q11 p1 z7) fun x9 =>
  some (q1l x9 p2))
  (some false)) fun b11 =>
 cond b11
  (some p1)
  (q05 (qs6 p1 0 z7) fun l14 =>
  q1m (l14.length*16≤140737488355328∧l14.length≤140737488355328) (
  q1m ((l14.length+1)*16≤140737488355328∧l14.length+1≤140737488355328) (
  q05 (qs6 p1 z7 (p1.length:Int)) fun l20 =>
  q1m (((l14++[p2]).length+l20.length)*16≤140737488355328∧(l14++[p2]).length+l20.length≤140737488355328) (
  some ((l14++[p2])++l20)))))
def q82 (p1:List (List UInt8)) (p2:List UInt8):Nat→Int→Option ((List (List UInt8)))
 | 0,_=>none
 | m1+1,z6 =>
  q05 (cond (decide (z6<(p1.length:Int)))
   (q05 (q11 p1 z6) fun x26 =>
   some (q1e x26 p2))
   (some false)) fun b28 =>
  cond b28
   ((q82 p1 p2 m1) (IntKind.i64.wrap (z6+1)))
   (qaq p1 p2 z6)
def q8h (n:Nat) (p1:List (List UInt8)) (p2:List UInt8):Option ((List (List UInt8))) :=
 q82 p1 p2 n 0
theorem q9f (n:Nat) (p1:List (List UInt8)) (p2:List UInt8) (r:(List (List UInt8))) (hF:q8h n p1 p2=some r):EvU Tryz.prog 57 [.isl false (List.map cS p1),.str p2] ⟨[],0⟩ (fun u _=>u = .isl false (List.map cS r)∧Bel 0 u):=by
 unfold q8h at hF
 refine bg2 48 fn57 ?_
 refine go ?_
 refine gS (l':=[(0,_),(1,_),(5,_),(6,_)]) ?_
 refine z44 (fun m tm σ=>∃ z6:Int,q82 p1 p2 m z6=some r∧tm=fr 48 [(0,.iM cS p1),(1,.str p2),(5,.nils),(6,.i6 z6)]∧σ=⟨[],0⟩) (fun tm σ=>∃ z7:Int,qaq p1 p2 z7=some r∧tm=fr 48 [(0,.iM cS p1),(1,.str p2),(5,.nils),(6,.i6 z7)]∧σ=⟨[],0⟩) n ⟨0,hF,rfl,rfl⟩ ?_ ?_
 rintro _ _ ⟨z7,hF,rfl,rfl⟩
 unfold qaq at hF
 obtain ⟨b11,h12,hF⟩:=q00 hF
 refine gn ?_
 refine z47 (fun tm σ=>tm=fr 48 [(0,.iM cS p1),(1,.str p2),(5,.nils),(6,.i6 z7),(32,.bool b11)]∧σ=⟨[],0⟩) ?_ ?_
 rintro _ _ ⟨rfl,rfl⟩
 refine go ?_
 refine cF hF (fun h13 hF=>?_) (fun h13 hF=>?_)
 exact gx hF
 obtain ⟨l14,h15,hF⟩:=q00 hF
 obtain ⟨h16,h17⟩:=qvu cS .i64 h15
 obtain ⟨h18,hF⟩:=q09 hF
 refine go ?_
 refine RS.q (u:=.iM cS l14) rfl (qck rfl qqo (z0w rfl) qqo (qtk cS un66.h (q0q if9.h) qfv h16 h17)) (RS.q (u:=.vl 0 0 0 l14.length) (σ':=⟨[(0,.vec (List.map cS l14).flatten 9 1 0)],1⟩) rfl (qet rfl rfl rfl rfl (qqt cS l14 un66.h un66.h if9.h rfl (qoe cS qfv) h18)) ?_)
 obtain ⟨h19,hF⟩:=q09 hF
 refine go ?_
 refine RS.g ?_
 refine RS.g ?_
 obtain ⟨l20,h21,hF⟩:=q00 hF
 obtain ⟨h22,h23⟩:=cut_lo cS .i64 h21
 obtain ⟨h24,hF⟩:=q09 hF
 refine go ?_
 refine RS.q (u:=.iM cS l20) rfl (qck rfl (z0w rfl) qqo qqo (qtk cS un66.h (q0q if9.h) qfv h22 h23)) ?_
 refine RS.g ?_
 refine go ?_
 obtain rfl:=sI hF
 exact rT (us:=[.vl 0 2 0 (((l14++[p2])++l20).length)]) (u:=.iM cS ((l14++[p2])++l20)) (q4e rfl (q3x)) (fR 0 1)
 rcases gB h12 with ⟨h8,h12⟩ | ⟨h8,h12⟩
 obtain ⟨x9,h10,h12⟩:=q00 h12
 obtain rfl:=sI h12
 refine go ?_
 refine RS.ix h10 ?_
 refine go ?_
 refine RS.w (u:=.bool (q1l x9 p2)) rfl (qea rfl rfl rfl rfl) ?_
 refine go ?_
 exact xC ⟨rfl,rfl⟩
 exact gy h12
 rintro (_|m1) _ _ ⟨z6,hF,rfl,rfl⟩
 cases hF
 unfold q82 at hF
 obtain ⟨b28,h29,hF⟩:=q00 hF
 refine gn ?_
 refine z47 (fun tm σ=>tm=fr 48 [(0,.iM cS p1),(1,.str p2),(5,.nils),(6,.i6 z6),(18,.bool b28)]∧σ=⟨[],0⟩) ?_ ?_
 rintro _ _ ⟨rfl,rfl⟩
 refine go ?_
 refine cF hF (fun h30 hF=>?_) (fun h30 hF=>?_)
 refine go ?_
 refine WPU.block ?_
 refine go ?_
 exact lC ⟨_,hF,rfl,rfl⟩
 refine go ?_
 exact xC ⟨z6,hF,rfl,rfl⟩
 rcases gB h29 with ⟨h25,h29⟩ | ⟨h25,h29⟩
 obtain ⟨x26,h27,h29⟩:=q00 h29
 obtain rfl:=sI h29
 refine go ?_
 refine RS.ix h27 ?_
 refine go ?_
 refine RS.w (u:=.bool (q1e x26 p2)) rfl (qea rfl rfl rfl rfl) ?_
 refine go ?_
 exact xC ⟨rfl,rfl⟩
 exact gy h29
def q9z  (l7:List (List UInt8)):Option ((List (List UInt8))) :=
 some l7
def q4q (p1:List q02) (n:Nat):Nat→(List (List UInt8))→Int→Option ((List (List UInt8)))
 | 0,_,_=>none
 | m1+1,l5,z6 =>
  cond (decide (z6<(p1.length:Int)))
   (q05 (q11 p1 z6) fun x9 =>
   q05 (q8h n l5 x9.Name) fun r11 =>
   (q4q p1 n m1) r11 (IntKind.i64.wrap (z6+1)))
   (q9z l5)
def qc5 (n:Nat) (p1:List q02):Option ((List (List UInt8))) :=
 q4q p1 n n [] 0
theorem qhg (n:Nat) (p1:List q02) (r:(List (List UInt8))) (hF:qc5 n p1=some r):EvU Tryz.prog 37 [.isl false (List.map q03 p1)] ⟨[],0⟩ (fun u _=>u = .isl false (List.map cS r)∧Bel 0 u):=by
 unfold qc5 at hF
 refine bg1 19 fn37 ?_
 refine gr ?_
 refine gr ?_
 refine gr ?_
 refine WPU.ghost (tm':=fr 19 [(0,.iM q03 p1),(3,.iM cS []),(4,.i6 0)]) (Gh.trans (Gh.sub (l':=[(0,.iM q03 p1),(3,.nils),(4,.i6 0)]) ⟨rfl,rfl,rfl,trivial⟩) (Gh.wkS (l':=[(0,.iM q03 p1),(3,.iM cS []),(4,.i6 0)]) (.cons (.refl _) (.cons (.nil false) (.cons (.refl _) .nil))))) NZ ?_
 refine gS (l':=[(0,_),(3,_),(4,_)]) ?_
 refine z44 (fun m tm σ=>∃ l5:List (List UInt8),∃ z6:Int,q4q p1 n m l5 z6=some r∧tm=fr 19 [(0,.iM q03 p1),(3,.iM cS l5),(4,.i6 z6)]∧σ=⟨[],0⟩) (fun tm σ=>∃ l7:List (List UInt8),q9z l7=some r∧tm=fr 19 [(3,.iM cS l7)]∧σ=⟨[],0⟩) n ⟨[],0,hF,rfl,rfl⟩ ?_ ?_
 rintro _ _ ⟨l7,hF,rfl,rfl⟩
 unfold q9z at hF
 exact gx hF
 rintro (_|m1) _ _ ⟨l5,z6,hF,rfl,rfl⟩
 cases hF
 unfold q4q at hF
 refine go ?_
 refine cF hF (fun h8 hF=>?_) (fun h8 hF=>?_)
 refine go ?_
 refine WPU.block ?_
 obtain ⟨x9,h10,hF⟩:=q00 hF
 obtain ⟨r11,h12,hF⟩:=q00 hF
 refine go ?_
 refine RS.ix h10 ?_
 refine go ?_
 refine RS.cl rfl (pC (q9f n l5 x9.Name r11 h12) _) fn57 ?_
 refine go ?_
 exact lC ⟨r11,(IntKind.i64.wrap (z6+1)),hF,rfl,rfl⟩
 refine go ?_
 exact xC ⟨l5,hF,rfl,rfl⟩
def q9w  (l21:List (List UInt8)):Option ((List (List UInt8))) :=
 some l21
def q43 (n:Nat) (l13:List (List UInt8)):Nat→(List (List UInt8))→Int→Option ((List (List UInt8)))
 | 0,_,_=>none
 | m2+1,l19,z20 =>
  cond (decide (z20<(l13.length:Int)))
   (q05 (q11 l13 z20) fun x23 =>
   q05 (q8h n l19 x23) fun r25 =>
   (q43 n l13 m2) r25 (IntKind.i64.wrap (z20+1)))
   (q9w l19)
def q7f (z33:Int) (rc3:Int→(List (List UInt8))→Option ((List (List UInt8)))) (l53:List (List UInt8)):Option ((List (List UInt8))) :=
 rc3 (IntKind.i64.wrap (z33+1)) l53
def q9x (z10:Int) (rc1:Int→(List (List UInt8))→Option ((List (List UInt8)))) (l36:List (List UInt8)):Option ((List (List UInt8))) :=
 rc1 (IntKind.i64.wrap (z10+1)) l36
def q37 (p1:List q02) (n:Nat) (z10:Int) (rc1:Int→(List (List UInt8))→Option ((List (List UInt8)))):Nat→Int→(List (List UInt8))→Option ((List (List UInt8)))
 | 0,_,_=>none
 | m3+1,z33,l34 =>
  cond (decide (z33<(p1.length:Int)))
   (q05 (q05 (q11 p1 z33) fun x39 =>
   q05 (q11 l34 z10) fun x41 =>
   q05 (q3j n x39.Supers x41) fun r43 =>
   cond r43
    (q05 (q11 p1 z33) fun x46 =>
    q05 (q3j n l34 x46.Name) fun r48 =>
    some (!r48))
    (some false)) fun b50 =>
   cond b50
    (q05 (q11 p1 z33) fun x55 =>
    q1m ((l34.length+1)*16≤140737488355328∧l34.length+1≤140737488355328) (
    q7f z33 (q37 p1 n z10 rc1 m3) (l34++[x55.Name])))
    (q7f z33 (q37 p1 n z10 rc1 m3) l34))
   (q9x z10 rc1 l34)
def q9v (n:Nat) (l13:List (List UInt8)):Option ((List (List UInt8))) :=
 q43 n l13 n [] 0
def q2i (p1:List q02) (n:Nat):Nat→Int→(List (List UInt8))→Option ((List (List UInt8)))
 | 0,_,_=>none
 | m1+1,z10,l11 =>
  cond (decide (z10<(l11.length:Int)))
   (q37 p1 n z10 (q2i p1 n m1) n 0 l11)
   (q9v n l11)
def qc3 (n:Nat) (p1:List q02) (p2:List UInt8):Option ((List (List UInt8))) :=
 q05 (q58 n p1 p2) fun r3 =>
 cond (decide (r3<0))
  (some [])
  (q2i p1 n n 0 ([p2]))
theorem qo1 (n:Nat) (p1:List q02) (p2:List UInt8) (r:(List (List UInt8))) (hF:qc3 n p1 p2=some r):EvU Tryz.prog 66 [.isl false (List.map q03 p1),.str p2] ⟨[],0⟩ (fun u _=>u = .isl false (List.map cS r)∧Bel 0 u):=by
 unfold qc3 at hF
 refine bg2 69 fn66 ?_
 obtain ⟨r3,h4,hF⟩:=q00 hF
 refine go ?_
 refine RS.cl rfl (pC (q83 n p1 p2 r3 h4) _) fn84 ?_
 refine go ?_
 refine cF hF (fun h5 hF=>?_) (fun h5 hF=>?_)
 refine go ?_
 obtain rfl:=sI hF
 exact rT (us:=[.nils]) (u:=.isl false []) (q4e rfl (q3x)) wR
 refine go ?_
 refine RS.step (u:=.vl 0 0 0 ([p2].length)) (σ':=⟨[(0,.vec (List.map cS ([p2])).flatten 9 1 0)],1⟩) rfl (qhv.bslv (cs:=(List.map cS [p2]).flatten) Tryz.tb_ok rfl un66.h if9.h rfl rfl rfl rfl rfl rfl rfl rfl) rfl rfl ?_
 refine go ?_
 refine gS (l':=[(0,_),(5,_),(6,_)]) ?_
 refine z44 (fun m tm σ=>∃ z10:Int,∃ l11:List (List UInt8),∃ t12:Nat,q2i p1 n m z10 l11=some r∧tm=fr 69 [(0,.iM q03 p1),(5,.vl 0 t12 0 l11.length),(6,.i6 z10)]∧σ=⟨[(0,.vec (List.map cS l11).flatten 9 1 t12)],1⟩) (fun tm σ=>∃ l13:List (List UInt8),∃ t14:Nat,q9v n l13=some r∧tm=fr 69 [(5,.vl 0 t14 0 l13.length)]∧σ=⟨[(0,.vec (List.map cS l13).flatten 9 1 t14)],1⟩) n ⟨0,[p2],0,hF,rfl,rfl⟩ ?_ ?_
 rintro _ _ ⟨l13,t14,hF,rfl,rfl⟩
 unfold q9v at hF
 refine gr ?_
 refine gr ?_
 refine WPU.ghost (tm':=fr 69 [(5,.vl 0 t14 0 l13.length),(8,.iM cS []),(9,.i6 0)]) (Gh.trans (Gh.sub (l':=[(5,.vl 0 t14 0 l13.length),(8,.nils),(9,.i6 0)]) ⟨rfl,rfl,rfl,trivial⟩) (Gh.wkS (l':=[(5,.vl 0 t14 0 l13.length),(8,.iM cS []),(9,.i6 0)]) (.cons (.refl _) (.cons (.nil false) (.cons (.refl _) .nil))))) NZ ?_
 refine gS (l':=[(5,_),(8,_),(9,_)]) ?_
 refine z44 (fun m tm σ=>∃ l19:List (List UInt8),∃ z20:Int,q43 n l13 m l19 z20=some r∧tm=fr 69 [(5,.vl 0 t14 0 l13.length),(8,.iM cS l19),(9,.i6 z20)]∧σ=⟨[(0,.vec (List.map cS l13).flatten 9 1 t14)],1⟩) (fun tm σ=>∃ l21:List (List UInt8),q9w l21=some r∧tm=fr 69 [(8,.iM cS l21)]∧σ=⟨[(0,.vec (List.map cS l13).flatten 9 1 t14)],1⟩) n ⟨[],0,hF,rfl,rfl⟩ ?_ ?_
 rintro _ _ ⟨l21,hF,rfl,rfl⟩
 unfold q9w at hF
 exact gx hF
 rintro (_|m2) _ _ ⟨l19,z20,hF,rfl,rfl⟩
 cases hF
 unfold q43 at hF
 refine go ?_
 refine cF hF (fun h22 hF=>?_) (fun h22 hF=>?_)
 refine go ?_
 refine WPU.block ?_
 obtain ⟨x23,h24,hF⟩:=q00 hF
 obtain ⟨r25,h26,hF⟩:=q00 hF
 refine go ?_
 refine RS.q rfl (q4o rfl rfl (qal cS un66.h (q0q if9.h) (by decide) qfv (vo rfl) h24)) ?_
 refine RS.q rfl (q77 cS (fun x=>.str x) un9.h rfl (fun _=>rfl) rfl rfl h24) (RS.cl rfl (pC (q9f n l19 x23 r25 h26) _) fn57 ?_)
 refine go ?_
 exact lC ⟨r25,(IntKind.i64.wrap (z20+1)),hF,rfl,rfl⟩
 refine go ?_
 exact xC ⟨l19,hF,rfl,rfl⟩
 rintro (_|m1) _ _ ⟨z10,l11,t12,hF,rfl,rfl⟩
 cases hF
 unfold q2i at hF
 refine go ?_
 refine cF hF (fun h27 hF=>?_) (fun h27 hF=>?_)
 refine go ?_
 refine WPU.block ?_
 refine go ?_
 refine gS (l':=[(0,_),(5,_),(6,_),(7,_)]) ?_
 refine z44 (fun m tm σ=>∃ z33:Int,∃ l34:List (List UInt8),∃ t35:Nat,q37 p1 n z10 (q2i p1 n m1) m z33 l34=some r∧tm=fr 69 [(0,.iM q03 p1),(5,.vl 0 t35 0 l34.length),(6,.i6 z10),(7,.i6 z33)]∧σ=⟨[(0,.vec (List.map cS l34).flatten 9 1 t35)],1⟩) (fun tm σ=>∃ l36:List (List UInt8),∃ t37:Nat,q9x z10 (q2i p1 n m1) l36=some r∧tm=fr 69 [(0,.iM q03 p1),(5,.vl 0 t37 0 l36.length),(6,.i6 z10)]∧σ=⟨[(0,.vec (List.map cS l36).flatten 9 1 t37)],1⟩) n ⟨0,l11,t12,hF,rfl,rfl⟩ ?_ ?_
 rintro _ _ ⟨l36,t37,hF,rfl,rfl⟩
 unfold q9x at hF
 refine go ?_
 exact lC ⟨_,l36,t37,hF,rfl,rfl⟩
 rintro (_|m3) _ _ ⟨z33,l34,t35,hF,rfl,rfl⟩
 cases hF
 unfold q37 at hF
 refine go ?_
 refine cF hF (fun h38 hF=>?_) (fun h38 hF=>?_)
 refine go ?_
 refine WPU.block ?_
 obtain ⟨b50,h51,hF⟩:=q00 hF
 refine gn ?_
 refine z47 (fun tm σ=>tm=fr 69 [(0,.iM q03 p1),(5,.vl 0 t35 0 l34.length),(6,.i6 z10),(7,.i6 z33),(47,.bool b50)]∧σ=⟨[(0,.vec (List.map cS l34).flatten 9 1 t35)],1⟩) ?_ ?_
 rintro _ _ ⟨rfl,rfl⟩
 refine gn ?_
 refine z47 (fun tm σ=>∃ l53:List (List UInt8),∃ t54:Nat,q7f z33 (q37 p1 n z10 (q2i p1 n m1) m3) l53=some r∧tm=fr 69 [(0,.iM q03 p1),(5,.vl 0 t54 0 l53.length),(6,.i6 z10),(7,.i6 z33)]∧σ=⟨[(0,.vec (List.map cS l53).flatten 9 1 t54)],1⟩) ?_ ?_
 rintro _ _ ⟨l53,t54,hF,rfl,rfl⟩
 unfold q7f at hF
 refine go ?_
 exact lC ⟨_,l53,t54,hF,rfl,rfl⟩
 refine cF hF (fun h52 hF=>?_) (fun h52 hF=>?_)
 obtain ⟨x55,h56,hF⟩:=q00 hF
 obtain ⟨h57,hF⟩:=q09 hF
 refine go ?_
 refine RS.ix h56 ?_
 refine go ?_
 refine RS.g ?_
 refine RS.g ?_
 refine go ?_
 exact xC ⟨(l34++[x55.Name]),(t35+1),hF,rfl,rfl⟩
 refine go ?_
 exact xC ⟨l34,t35,hF,rfl,rfl⟩
 obtain ⟨x39,h40,h51⟩:=q00 h51
 obtain ⟨x41,h42,h51⟩:=q00 h51
 obtain ⟨r43,h44,h51⟩:=q00 h51
 rcases gB h51 with ⟨h45,h51⟩ | ⟨h45,h51⟩
 obtain ⟨x46,h47,h51⟩:=q00 h51
 obtain ⟨r48,h49,h51⟩:=q00 h51
 obtain rfl:=sI h51
 refine z48 Tryz.tb_ok [] (by kernel_rfl) ?_
 refine gd ?_
 refine RD.ix h40 ?_
 refine gd ?_
 refine RD.q rfl (q4o rfl rfl (qal cS un66.h (q0q if9.h) (by decide) qfv (vo rfl) h42)) ?_
 refine RD.q rfl (q77 cS (fun x=>.str x) un9.h rfl (fun _=>rfl) rfl rfl h42) (z4a rfl (pC (q2p n x39.Supers x41 r43 h44)) fn67 ?_)
 refine gd ?_
 refine RD.ix h47 ?_
 refine gd ?_
 refine RD.call (u:=.bool r48) (args:=[.vl 0 t35 0 l34.length,.str x46.Name]) (q2y rfl rfl rfl h45) (q12 rfl rfl fn67 hb67 rfl rfl) (vw (q2p n l34 x46.Name r48 h49) (z4b 0 1)) rfl rfl ?_
 refine gd ?_
 refine RD.done ⟨by kernel_rfl,trivial,?_⟩
 refine go ?_
 exact xC ⟨rfl,rfl⟩
 obtain rfl:=sI h51
 refine z48 Tryz.tb_ok [] (by kernel_rfl) ?_
 refine gd ?_
 refine RD.ix h40 ?_
 refine gd ?_
 refine RD.q rfl (q4o rfl rfl (qal cS un66.h (q0q if9.h) (by decide) qfv (vo rfl) h42)) ?_
 refine RD.q rfl (q77 cS (fun x=>.str x) un9.h rfl (fun _=>rfl) rfl rfl h42) (z4a rfl (pC (q2p n x39.Supers x41 r43 h44)) fn67 ?_)
 refine gd ?_
 refine RD.done ⟨by kernel_rfl,trivial,?_⟩
 refine go ?_
 exact xC ⟨rfl,rfl⟩
 refine go ?_
 exact xC ⟨l34,t35,hF,rfl,rfl⟩
 refine go ?_
 exact xC ⟨l11,t12,hF,rfl,rfl⟩
def q6c (p1:List Int) (z5:Int):Option ((List Int)) :=
 q05 (qs6 p1 0 z5) fun l6 =>
 q1m (l6.length*8≤140737488355328∧l6.length≤140737488355328) (
 some l6)
def q3e (p1:List Int):Nat→Int→Option ((List Int))
 | 0,_=>none
 | m1+1,z4 =>
  q05 (cond (decide (z4 > 0))
   (q05 (q11 p1 (IntKind.i64.wrap (z4 - 1))) fun x12 =>
   some (x12 == 0))
   (some false)) fun b14 =>
  cond b14
   ((q3e p1 m1) (IntKind.i64.wrap (z4 - 1)))
   (q6c p1 z4)
def q41 (n:Nat) (p1:List Int):Option ((List Int)) :=
 q3e p1 n (p1.length:Int)
theorem q9p (n:Nat) (p1:List Int) (r:(List Int)) (hF:q41 n p1=some r):EvU Tryz.prog 60 [.isl false (List.map (cI .u64) p1)] ⟨[],0⟩ (fun u _=>u = .isl false (List.map (cI .u64) r)∧Bel 0 u):=by
 unfold q41 at hF
 refine bg1 23 fn60 ?_
 refine go ?_
 refine gS (l':=[(0,_),(3,_)]) ?_
 refine z44 (fun m tm σ=>∃ z4:Int,q3e p1 m z4=some r∧tm=fr 23 [(0,.iM (cI .u64) p1),(3,.i6 z4)]∧σ=⟨[],0⟩) (fun tm σ=>∃ z5:Int,q6c p1 z5=some r∧tm=fr 23 [(0,.iM (cI .u64) p1),(3,.i6 z5)]∧σ=⟨[],0⟩) n ⟨(p1.length:Int),hF,rfl,rfl⟩ ?_ ?_
 rintro _ _ ⟨z5,hF,rfl,rfl⟩
 unfold q6c at hF
 obtain ⟨l6,h7,hF⟩:=q00 hF
 obtain ⟨h8,h9⟩:=qvu (cI .u64) .i64 h7
 obtain ⟨h10,hF⟩:=q09 hF
 refine go ?_
 refine RS.q (u:=.sl 0 0 0 0) (σ':=⟨[(0,.row [] 134)],1⟩) rfl (q56 un56.h if134.h rfl rfl rfl rfl rfl rfl rfl) ?_
 refine go ?_
 refine RS.q (u:=.iM (cI .u64) l6) rfl (qck rfl qqo (z0w rfl) qqo (qtk (cI .u64) un56.h (q0q if134.h) (q8f .u64) h8 h9)) (RS.q (u:=.vl 1 0 0 l6.length) (σ':=⟨[(1,.vec (List.map (cI .u64) l6).flatten 134 1 0),(0,.row [] 134)],2⟩) rfl (qet rfl rfl rfl rfl (qv8 (cI .u64) l6 un56.h un56.h if134.h rfl rfl rfl (qoe (cI .u64) (q8f .u64)) h10)) ?_)
 refine go ?_
 obtain rfl:=sI hF
 exact rT (us:=[.vl 1 0 0 l6.length]) (u:=.iM (cI .u64) l6) (q4e rfl (q3x)) (fR 1 1)
 rintro (_|m1) _ _ ⟨z4,hF,rfl,rfl⟩
 cases hF
 unfold q3e at hF
 obtain ⟨b14,h15,hF⟩:=q00 hF
 refine gn ?_
 refine z47 (fun tm σ=>tm=fr 23 [(0,.iM (cI .u64) p1),(3,.i6 z4),(15,.bool b14)]∧σ=⟨[],0⟩) ?_ ?_
 rintro _ _ ⟨rfl,rfl⟩
 refine go ?_
 refine cF hF (fun h16 hF=>?_) (fun h16 hF=>?_)
 refine go ?_
 refine WPU.block ?_
 refine go ?_
 exact lC ⟨_,hF,rfl,rfl⟩
 refine go ?_
 exact xC ⟨z4,hF,rfl,rfl⟩
 rcases gB h15 with ⟨h11,h15⟩ | ⟨h11,h15⟩
 obtain ⟨x12,h13,h15⟩:=q00 h15
 obtain rfl:=sI h15
 refine go ?_
 refine RS.ix h13 ?_
 refine go ?_
 exact xC ⟨rfl,rfl⟩
 exact gy h15
def qdv (n:Nat) (l8:List Int):Option ((List Int)×Int) :=
 q1m ((64:Int).toNat=l8.length) (
 q05 (q41 n l8) fun r10 =>
 some (r10,0))
def q7u (p1:List Int) (n:Nat):Nat→Int→(List Int)→Option ((List Int)×Int)
 | 0,_,_=>none
 | m1+1,z6,l7 =>
  cond (decide (z6<(p1.length:Int)))
   (q05 (q05 (q11 p1 z6) fun x13 =>
   cond (decide (x13<0))
    (some true)
    (q05 (q11 p1 z6) fun x16 =>
    some (decide (x16 > 4095)))) fun b18 =>
   cond b18
    (some ([],2))
    (q05 (q11 p1 z6) fun x21 =>
    q05 (q11 p1 z6) fun x24 =>
    q05 (qls l7 0 ((64:Int).toNat) (IntKind.i64.wrap (x24.tdiv 64))) fun x27 =>
    q05 (q11 p1 z6) fun x29 =>
    q1m (¬ (IntKind.u64.wrap (x29.tmod 64))<0) (
    q05 (qls l7 0 ((64:Int).toNat) (IntKind.i64.wrap (x21.tdiv 64))) fun x33 =>
    (q7u p1 n m1) (IntKind.i64.wrap (z6+1)) (l7.set (IntKind.i64.wrap (x21.tdiv 64)).toNat (orI .u64 x27 (IntKind.u64.wrap (1*(2 ^ (min (IntKind.u64.wrap (x29.tmod 64)).toNat IntKind.u64.bits)))))))))
   (qdv n l7)
def qhf (n:Nat) (p1:List Int):Option ((List Int)×Int) :=
 q1m (0≤(64:Int)∧8*(64:Int).toNat≤281474976710656∧(64:Int)≤281474976710656) (
 q7u p1 n n 0 (List.replicate (64:Int).toNat 0))
theorem qun (n:Nat) (p1:List Int) (r:(List Int)×Int) (hF:qhf n p1=some r):EvU Tryz.prog 68 [.isl false (List.map (cI .i64) p1)] ⟨[],0⟩ (fun u _=>u = .tup [.isl false (List.map (cI .u64) r.1),.int .i64 r.2]∧Bel 0 u):=by
 unfold qhf at hF
 refine bg1 50 fn68 ?_
 obtain ⟨h2,hF⟩:=q09 hF
 refine go ?_
 refine RS.q (u:=.sl 0 0 ((64:Int).toNat) ((64:Int).toNat)) (σ':=⟨[(0,.row (List.map (cI .u64) (List.replicate (64:Int).toNat 0)).flatten 134)],1⟩) rfl (qt0 (cI .u64) 0 rfl rfl un56.h if134.h rfl rfl rfl rfl h2) ?_
 refine go ?_
 refine gS (l':=[(0,_),(4,_),(5,_)]) ?_
 refine z44 (fun m tm σ=>∃ z6:Int,∃ l7:List Int,q7u p1 n m z6 l7=some r∧tm=fr 50 [(0,.iM (cI .i64) p1),(4,.sl 0 0 ((64:Int).toNat) ((64:Int).toNat)),(5,.i6 z6)]∧σ=⟨[(0,.row (List.map (cI .u64) l7).flatten 134)],1⟩) (fun tm σ=>∃ l8:List Int,qdv n l8=some r∧tm=fr 50 [(4,.sl 0 0 ((64:Int).toNat) ((64:Int).toNat))]∧σ=⟨[(0,.row (List.map (cI .u64) l8).flatten 134)],1⟩) n ⟨0,(List.replicate (64:Int).toNat 0),hF,rfl,rfl⟩ ?_ ?_
 rintro _ _ ⟨l8,hF,rfl,rfl⟩
 unfold qdv at hF
 obtain ⟨h9,hF⟩:=q09 hF
 refine gn ?_
 refine WPU.ghost (tm':=fr 50 [(4,.iM (cI .u64) l8)]) (σ':=⟨[],1⟩) (Gh.trans (Gh.sub (l':=[(4,.sl 0 0 ((64:Int).toNat) ((64:Int).toNat))]) ⟨rfl,trivial⟩) (Gh.fzS (l':=[(4,.iM (cI .u64) l8)]) (h':=[]) 0 (.row (List.map (cI .u64) l8).flatten 134) 1 rfl (by simp) (by simp only [fzS,qjn,qem,q9k,qkl,qi4,qkn,qg9,qi7,qi6,qi5,qg8,qkm,qmm,qkk,qko,qpf,qlv,z37 (q8f .u64) h9]) (by simp only [fzH,fzB,ug,Nat.beq,cond_true,cond_false,qjn,qem,q9k,qkl,qi4,qkn,qg9,qi7,qi6,qi5,qg8,qkm,qmm,qkk,qko,qpf,qlv,z37 (q8f .u64) h9]))) NZ ?_
 obtain ⟨r10,h11,hF⟩:=q00 hF
 refine go ?_
 refine RS.cl rfl (pC (q9p n l8 r10 h11) _) fn60 ?_
 refine go ?_
 obtain rfl:=sI hF
 exact rt2 rfl rfl rfl rfl rfl
 rintro (_|m1) _ _ ⟨z6,l7,hF,rfl,rfl⟩
 cases hF
 unfold q7u at hF
 refine go ?_
 refine cF hF (fun h12 hF=>?_) (fun h12 hF=>?_)
 refine go ?_
 refine WPU.block ?_
 obtain ⟨b18,h19,hF⟩:=q00 hF
 refine gn ?_
 refine z47 (fun tm σ=>tm=fr 50 [(0,.iM (cI .i64) p1),(4,.sl 0 0 ((64:Int).toNat) ((64:Int).toNat)),(5,.i6 z6),(24,.bool b18)]∧σ=⟨[(0,.row (List.map (cI .u64) l7).flatten 134)],1⟩) ?_ ?_
 rintro _ _ ⟨rfl,rfl⟩
 refine go ?_
 refine cF hF (fun h20 hF=>?_) (fun h20 hF=>?_)
 refine go ?_
 obtain rfl:=sI hF
 exact rT (us:=[.nils,.i6 2]) (u:=.tup [.isl false [],.i6 2]) (q4e rfl (q4e rfl (q3x))) wR
 obtain ⟨x21,h22,hF⟩:=q00 hF
 obtain ⟨x24,h25,hF⟩:=q00 hF
 obtain ⟨x27,h28,hF⟩:=q00 hF
 obtain ⟨x29,h30,hF⟩:=q00 hF
 obtain ⟨h32,hF⟩:=q09 hF
 obtain ⟨x33,h34,hF⟩:=q00 hF
 refine go ?_
 refine z48 Tryz.tb_ok [] (by kernel_rfl) ?_
 refine gd ?_
 refine RD.ix h22 ?_
 refine gd ?_
 refine RD.q rfl (qcj rfl rfl (qsl _ (by decide)) rfl) ?_
 refine gd ?_
 refine RD.ix h25 ?_
 refine gd ?_
 refine RD.q rfl (qcj rfl rfl (qsl _ (by decide)) rfl) ?_
 refine RD.q rfl (q4o rfl rfl (qia un56.h (q0q if134.h) rfl h28)) (RD.q (u:=.int .u64 x27) rfl (qix (cI .u64) (fun x=>.int .u64 x) un134.h rfl (fun _=>rfl) rfl rfl h28) ?_)
 refine gd ?_
 refine RD.ix h30 ?_
 refine gd ?_
 refine RD.q rfl (qcj rfl rfl (z1h _ (by decide)) rfl) ?_
 refine RD.q (u:=.int .u64 (IntKind.u64.wrap (x29.tmod 64))) rfl (qrf rfl rfl (by simp only [qp2,un3.h,un138.h]<;>rfl) rfl) ?_
 refine RD.q rfl (qcj rfl rfl (ix_shl _ h32) rfl) (RD.q rfl (qcj rfl rfl (ix_or _ _ _) rfl) (RD.q rfl (q4o rfl rfl (qia un56.h (q0q if134.h) rfl h34)) (RD.actn (u:=.junk) (σ':=⟨[(0,.row (List.map (cI .u64) (l7.set (IntKind.i64.wrap (x21.tdiv 64)).toNat (orI .u64 x27 (IntKind.u64.wrap (1*(2 ^ (min (IntKind.u64.wrap (x29.tmod 64)).toNat IntKind.u64.bits))))))).flatten 134)],1⟩) rfl (qyb (cI .u64) (q0q if134.h) (q8f .u64) rfl rfl rfl rfl rfl rfl h34 rfl) rfl ?_)))
 refine RD.done ⟨by kernel_rfl,trivial,?_⟩
 refine go ?_
 exact lC ⟨_,(l7.set (IntKind.i64.wrap (x21.tdiv 64)).toNat (orI .u64 x27 (IntKind.u64.wrap (1*(2 ^ (min (IntKind.u64.wrap (x29.tmod 64)).toNat IntKind.u64.bits)))))),hF,rfl,rfl⟩
 obtain ⟨x13,h14,h19⟩:=q00 h19
 rcases gB h19 with ⟨h15,h19⟩ | ⟨h15,h19⟩
 obtain rfl:=sI h19
 refine go ?_
 refine RS.ix h14 ?_
 refine go ?_
 exact xC ⟨rfl,rfl⟩
 obtain ⟨x16,h17,h19⟩:=q00 h19
 obtain rfl:=sI h19
 refine go ?_
 refine RS.ix h14 ?_
 refine go ?_
 refine RS.ix h17 ?_
 refine go ?_
 exact xC ⟨rfl,rfl⟩
 refine go ?_
 exact xC ⟨l7,hF,rfl,rfl⟩
def q8o (z11:Int) (rc1:Int→(List Int)→Option ((List Int))) (l24:List Int):Option ((List Int)) :=
 rc1 (IntKind.i64.wrap (z11+1)) l24
def qbg (n:Nat) (l14:List Int):Option ((List Int)) :=
 q05 (qhf n l14) fun r16 =>
 some r16.1
def q3s (p2:List (List UInt8)) (n:Nat) (r4:(List (List UInt8))):Nat→Int→(List Int)→Option ((List Int))
 | 0,_,_=>none
 | m1+1,z11,l12 =>
  cond (decide (z11<(p2.length:Int)))
   (q05 (q11 p2 z11) fun x19 =>
   q05 (q3j n r4 x19) fun r21 =>
   cond r21
    (q1m ((l12.length+1)*8≤140737488355328∧l12.length+1≤140737488355328) (
    q8o z11 (q3s p2 n r4 m1) (l12++[z11])))
    (q8o z11 (q3s p2 n r4 m1) l12))
   (qbg n l12)
def qd8 (n:Nat) (p1:List q02) (p2:List (List UInt8)) (p3:List UInt8):Option ((List Int)) :=
 q05 (qc3 n p1 p3) fun r4 =>
 q3s p2 n r4 n 0 ([]:List Int)
theorem qq4 (n:Nat) (p1:List q02) (p2:List (List UInt8)) (p3:List UInt8) (r:(List Int)) (hF:qd8 n p1 p2 p3=some r):EvU Tryz.prog 38 [.isl false (List.map q03 p1),.isl false (List.map cS p2),.str p3] ⟨[],0⟩ (fun u _=>u = .isl false (List.map (cI .u64) r)∧Bel 0 u):=by
 unfold qd8 at hF
 refine bg3 37 fn38 ?_
 obtain ⟨r4,h5,hF⟩:=q00 hF
 refine go ?_
 refine RS.cl rfl (pC (qo1 n p1 p3 r4 h5) _) fn66 ?_
 refine gr ?_
 refine gr ?_
 refine WPU.ghost (tm':=fr 37 [(1,.iM cS p2),(7,.iM cS r4),(8,.vl 0 0 0 (([]:List Int).length)),(9,.i6 0)]) (σ':=⟨[(0,.vec (List.map (cI .i64) ([]:List Int)).flatten 3 1 0)],1⟩) (Gh.trans (z4g 8 3 1 (by decide) NZ rfl rfl) (z4e ⟨rfl,rfl,rfl,rfl,trivial⟩ rfl)) NZ ?_
 refine gS (l':=[(1,_),(7,_),(8,_),(9,_)]) ?_
 refine z44 (fun m tm σ=>∃ z11:Int,∃ l12:List Int,∃ t13:Nat,q3s p2 n r4 m z11 l12=some r∧tm=fr 37 [(1,.iM cS p2),(7,.iM cS r4),(8,.vl 0 t13 0 l12.length),(9,.i6 z11)]∧σ=⟨[(0,.vec (List.map (cI .i64) l12).flatten 3 1 t13)],1⟩) (fun tm σ=>∃ l14:List Int,∃ t15:Nat,qbg n l14=some r∧tm=fr 37 [(8,.vl 0 t15 0 l14.length)]∧σ=⟨[(0,.vec (List.map (cI .i64) l14).flatten 3 1 t15)],1⟩) n ⟨0,([]:List Int),0,hF,rfl,rfl⟩ ?_ ?_
 rintro _ _ ⟨l14,t15,hF,rfl,rfl⟩
 unfold qbg at hF
 refine gn ?_
 refine WPU.ghost (tm':=fr 37 [(8,.iM (cI .i64) l14)]) (σ':=⟨[],1⟩) (Gh.trans (Gh.sub (l':=[(8,.vl 0 t15 0 l14.length)]) ⟨rfl,trivial⟩) (z4r 0 1)) NZ ?_
 obtain ⟨r16,h17,hF⟩:=q00 hF
 refine go ?_
 refine RS.cl rfl (pC (qun n l14 r16 h17) _) fn68 ?_
 exact gx hF
 rintro (_|m1) _ _ ⟨z11,l12,t13,hF,rfl,rfl⟩
 cases hF
 unfold q3s at hF
 refine go ?_
 refine cF hF (fun h18 hF=>?_) (fun h18 hF=>?_)
 refine go ?_
 refine WPU.block ?_
 obtain ⟨x19,h20,hF⟩:=q00 hF
 obtain ⟨r21,h22,hF⟩:=q00 hF
 refine go ?_
 refine RS.ix h20 ?_
 refine go ?_
 refine RS.cl rfl (pC (q2p n r4 x19 r21 h22) _) fn67 ?_
 refine gn ?_
 refine z47 (fun tm σ=>∃ l24:List Int,∃ t25:Nat,q8o z11 (q3s p2 n r4 m1) l24=some r∧tm=fr 37 [(1,.iM cS p2),(7,.iM cS r4),(8,.vl 0 t25 0 l24.length),(9,.i6 z11)]∧σ=⟨[(0,.vec (List.map (cI .i64) l24).flatten 3 1 t25)],1⟩) ?_ ?_
 rintro _ _ ⟨l24,t25,hF,rfl,rfl⟩
 unfold q8o at hF
 refine go ?_
 exact lC ⟨_,l24,t25,hF,rfl,rfl⟩
 refine cF hF (fun h23 hF=>?_) (fun h23 hF=>?_)
 obtain ⟨h26,hF⟩:=q09 hF
 refine go ?_
 refine RS.g ?_
 refine RS.g ?_
 refine go ?_
 exact xC ⟨(l12++[z11]),(t13+1),hF,rfl,rfl⟩
 refine go ?_
 exact xC ⟨l12,t13,hF,rfl,rfl⟩
 refine go ?_
 exact xC ⟨l12,t13,hF,rfl,rfl⟩
def q9e (n:Nat) (p1:List Int) (p2:Int):Option (Int) :=
 cond (decide (p2<(p1.length:Int)))
  (q05 (q11 p1 p2) fun x4 =>
  some x4)
  (some 0)
theorem qj2 (n:Nat) (p1:List Int) (p2:Int) (r:Int) (hF:q9e n p1 p2=some r):EvU Tryz.prog 82 [.isl false (List.map (cI .u64) p1),.int .i64 p2] ⟨[],0⟩ (fun u _=>u = .int .u64 r∧Bel 0 u):=by
 unfold q9e at hF
 refine bg2 13 fn82 ?_
 refine go ?_
 refine cF hF (fun h3 hF=>?_) (fun h3 hF=>?_)
 obtain ⟨x4,h5,hF⟩:=q00 hF
 refine go ?_
 refine RS.ix h5 ?_
 exact gx hF
 exact gx hF
def q80 (n:Nat) (l11:List Int):Option ((List Int)) :=
 q05 (q41 n l11) fun r13 =>
 some r13
def qap (p1:List Int) (p2:List Int) (n:Nat):Nat→Int→(List Int)→Option ((List Int))
 | 0,_,_=>none
 | m1+1,z8,l9 =>
  cond (decide (z8<(p1.length:Int)))
   (q05 (q11 p1 z8) fun x16 =>
   q05 (q9e n p2 z8) fun r18 =>
   q1m ((l9.length+1)*8≤140737488355328∧l9.length+1≤140737488355328) (
   (qap p1 p2 n m1) (IntKind.i64.wrap (z8+1)) (l9++[(z2f .u64 x16 r18)])))
   (q80 n l9)
def qc0 (n:Nat) (p1:List Int) (p2:List Int):Option ((List Int)) :=
 qap p1 p2 n n 0 ([]:List Int)
theorem ql8 (n:Nat) (p1:List Int) (p2:List Int) (r:(List Int)) (hF:qc0 n p1 p2=some r):EvU Tryz.prog 59 [.isl false (List.map (cI .u64) p1),.isl false (List.map (cI .u64) p2)] ⟨[],0⟩ (fun u _=>u = .isl false (List.map (cI .u64) r)∧Bel 0 u):=by
 unfold qc0 at hF
 refine bg2 26 fn59 ?_
 refine gr ?_
 refine gr ?_
 refine gr ?_
 refine WPU.ghost (tm':=fr 26 [(0,.iM (cI .u64) p1),(1,.iM (cI .u64) p2),(5,.vl 0 0 0 (([]:List Int).length)),(6,.i6 0)]) (σ':=⟨[(0,.vec (List.map (cI .u64) ([]:List Int)).flatten 134 1 0)],1⟩) (Gh.trans (z4g 5 134 1 (by decide) NZ rfl rfl) (z4e ⟨rfl,rfl,rfl,rfl,trivial⟩ rfl)) NZ ?_
 refine gS (l':=[(0,_),(1,_),(5,_),(6,_)]) ?_
 refine z44 (fun m tm σ=>∃ z8:Int,∃ l9:List Int,∃ t10:Nat,qap p1 p2 n m z8 l9=some r∧tm=fr 26 [(0,.iM (cI .u64) p1),(1,.iM (cI .u64) p2),(5,.vl 0 t10 0 l9.length),(6,.i6 z8)]∧σ=⟨[(0,.vec (List.map (cI .u64) l9).flatten 134 1 t10)],1⟩) (fun tm σ=>∃ l11:List Int,∃ t12:Nat,q80 n l11=some r∧tm=fr 26 [(5,.vl 0 t12 0 l11.length)]∧σ=⟨[(0,.vec (List.map (cI .u64) l11).flatten 134 1 t12)],1⟩) n ⟨0,([]:List Int),0,hF,rfl,rfl⟩ ?_ ?_
 rintro _ _ ⟨l11,t12,hF,rfl,rfl⟩
 unfold q80 at hF
 refine gn ?_
 refine WPU.ghost (tm':=fr 26 [(5,.iM (cI .u64) l11)]) (σ':=⟨[],1⟩) (Gh.trans (Gh.sub (l':=[(5,.vl 0 t12 0 l11.length)]) ⟨rfl,trivial⟩) (z4r 0 1)) NZ ?_
 obtain ⟨r13,h14,hF⟩:=q00 hF
 refine go ?_
 refine RS.cl rfl (pC (q9p n l11 r13 h14) _) fn60 ?_
 exact gx hF
 rintro (_|m1) _ _ ⟨z8,l9,t10,hF,rfl,rfl⟩
 cases hF
 unfold qap at hF
 refine go ?_
 refine cF hF (fun h15 hF=>?_) (fun h15 hF=>?_)
 refine go ?_
 refine WPU.block ?_
 obtain ⟨x16,h17,hF⟩:=q00 hF
 obtain ⟨r18,h19,hF⟩:=q00 hF
 obtain ⟨h20,hF⟩:=q09 hF
 refine go ?_
 refine z48 Tryz.tb_ok [(0,9)] (by kernel_rfl) ?_
 refine gd ?_
 refine RD.ix h17 ?_
 refine gd ?_
 refine z4a rfl (pC (qj2 n p2 z8 r18 h19)) fn82 (RD.q rfl (qcj rfl rfl (z1g _ _ _) rfl) ?_)
 refine RD.g ?_
 refine RD.g ?_
 refine gd ?_
 refine RD.done ⟨by kernel_rfl,⟨q60 rfl,trivial⟩,?_⟩
 refine go ?_
 exact lC ⟨_,(l9++[(z2f .u64 x16 r18)]),(t10+1),hF,rfl,rfl⟩
 refine go ?_
 exact xC ⟨l9,t10,hF,rfl,rfl⟩
def qdw   : Option (Bool) :=
 some true
def qbc (p1:List Int) (p2:List Int):Nat→Int→Option (Bool)
 | 0,_=>none
 | m1+1,z7 =>
  cond (decide (z7<(p1.length:Int)))
   (q05 (q11 p1 z7) fun x9 =>
   q05 (q11 p2 z7) fun x11 =>
   cond (x9 != x11)
    (some false)
    ((qbc p1 p2 m1) (IntKind.i64.wrap (z7+1))))
   (qdw)
def q81 (n:Nat) (p1:List Int) (p2:List Int):Option (Bool) :=
 cond ((p1.length:Int) != (p2.length:Int))
  (some false)
  (qbc p1 p2 n 0)
theorem qj1 (n:Nat) (p1:List Int) (p2:List Int) (r:Bool) (hF:q81 n p1 p2=some r):EvU Tryz.prog 61 [.isl false (List.map (cI .u64) p1),.isl false (List.map (cI .u64) p2)] ⟨[],0⟩ (fun u _=>u = .bool r∧Bel 0 u):=by
 unfold q81 at hF
 refine bg2 26 fn61 ?_
 refine go ?_
 refine cF hF (fun h3 hF=>?_) (fun h3 hF=>?_)
 exact gx hF
 refine go ?_
 refine gS (l':=[(0,_),(1,_),(5,_)]) ?_
 refine z44 (fun m tm σ=>∃ z7:Int,qbc p1 p2 m z7=some r∧tm=fr 26 [(0,.iM (cI .u64) p1),(1,.iM (cI .u64) p2),(5,.i6 z7)]∧σ=⟨[],0⟩) (fun tm σ=>qdw=some r∧tm=fr 26 []∧σ=⟨[],0⟩) n ⟨0,hF,rfl,rfl⟩ ?_ ?_
 rintro _ _ ⟨hF,rfl,rfl⟩
 unfold qdw at hF
 exact gx hF
 rintro (_|m1) _ _ ⟨z7,hF,rfl,rfl⟩
 cases hF
 unfold qbc at hF
 refine go ?_
 refine cF hF (fun h8 hF=>?_) (fun h8 hF=>?_)
 refine go ?_
 refine WPU.block ?_
 obtain ⟨x9,h10,hF⟩:=q00 hF
 obtain ⟨x11,h12,hF⟩:=q00 hF
 refine go ?_
 refine z48 Tryz.tb_ok [] (by kernel_rfl) ?_
 refine gd ?_
 refine RD.ix h10 ?_
 refine gd ?_
 refine RD.ix h12 ?_
 refine gd ?_
 refine RD.done ⟨by kernel_rfl,trivial,?_⟩
 refine go ?_
 refine cF hF (fun h13 hF=>?_) (fun h13 hF=>?_)
 exact gx hF
 refine go ?_
 exact lC ⟨_,hF,rfl,rfl⟩
 refine go ?_
 exact xC ⟨hF,rfl,rfl⟩
def qdz   : Option (Bool) :=
 some false
def q7v (p1:List (List Int)) (p2:List Int) (n:Nat):Nat→Int→Option (Bool)
 | 0,_=>none
 | m1+1,z6 =>
  cond (decide (z6<(p1.length:Int)))
   (q05 (q11 p1 z6) fun x8 =>
   q05 (q81 n x8 p2) fun r10 =>
   cond r10
    (some true)
    ((q7v p1 p2 n m1) (IntKind.i64.wrap (z6+1))))
   (qdz)
def qjo (n:Nat) (p1:List (List Int)) (p2:List Int):Option (Bool) :=
 q7v p1 p2 n n 0
theorem qup (n:Nat) (p1:List (List Int)) (p2:List Int) (r:Bool) (hF:qjo n p1 p2=some r):EvU Tryz.prog 69 [.isl false (List.map (cL (cI .u64)) p1),.isl false (List.map (cI .u64) p2)] ⟨[],0⟩ (fun u _=>u = .bool r∧Bel 0 u):=by
 unfold qjo at hF
 refine bg2 18 fn69 ?_
 refine go ?_
 refine gS (l':=[(0,_),(1,_),(5,_)]) ?_
 refine z44 (fun m tm σ=>∃ z6:Int,q7v p1 p2 n m z6=some r∧tm=fr 18 [(0,.iM (cL (cI .u64)) p1),(1,.iM (cI .u64) p2),(5,.i6 z6)]∧σ=⟨[],0⟩) (fun tm σ=>qdz=some r∧tm=fr 18 []∧σ=⟨[],0⟩) n ⟨0,hF,rfl,rfl⟩ ?_ ?_
 rintro _ _ ⟨hF,rfl,rfl⟩
 unfold qdz at hF
 exact gx hF
 rintro (_|m1) _ _ ⟨z6,hF,rfl,rfl⟩
 cases hF
 unfold q7v at hF
 refine go ?_
 refine cF hF (fun h7 hF=>?_) (fun h7 hF=>?_)
 refine go ?_
 refine WPU.block ?_
 obtain ⟨x8,h9,hF⟩:=q00 hF
 obtain ⟨r10,h11,hF⟩:=q00 hF
 refine go ?_
 refine RS.ix h9 ?_
 refine go ?_
 refine RS.cl rfl (pC (qj1 n x8 p2 r10 h11) _) fn61 ?_
 refine go ?_
 refine cF hF (fun h12 hF=>?_) (fun h12 hF=>?_)
 exact gx hF
 refine go ?_
 exact lC ⟨_,hF,rfl,rfl⟩
 refine go ?_
 exact xC ⟨hF,rfl,rfl⟩
def q6h (z19:Int) (rc2:Int→(List (List Int))→Option ((List (List Int)))) (l40:List (List Int)):Option ((List (List Int))) :=
 rc2 (IntKind.i64.wrap (z19+1)) l40
def q6j (z6:Int) (rc1:Int→(List (List Int))→Option ((List (List Int)))) (l22:List (List Int)):Option ((List (List Int))) :=
 rc1 (IntKind.i64.wrap (z6+1)) l22
def q3g (n:Nat) (z6:Int) (rc1:Int→(List (List Int))→Option ((List (List Int)))):Nat→Int→(List (List Int))→Option ((List (List Int)))
 | 0,_,_=>none
 | m2+1,z19,l20 =>
  q05 (cond (decide (z19<z6))
   (some (decide ((l20.length:Int)≤256)))
   (some false)) fun b25 =>
  cond b25
   (q05 (q11 l20 z6) fun x28 =>
   q05 (q11 l20 z19) fun x30 =>
   q05 (qc0 n x28 x30) fun r32 =>
   q05 (cond (decide ((r32.length:Int) > 0))
    (q05 (qjo n l20 r32) fun r35 =>
    some (!r35))
    (some false)) fun b37 =>
   cond b37
    (q1m ((l20.length+1)*24≤140737488355328∧l20.length+1≤140737488355328) (
    q6h z19 (q3g n z6 rc1 m2) (l20++[r32])))
    (q6h z19 (q3g n z6 rc1 m2) l20))
   (q6j z6 rc1 l20)
def q6i  (l9:List (List Int)):Option ((List (List Int))) :=
 some l9
def q28 (n:Nat):Nat→Int→(List (List Int))→Option ((List (List Int)))
 | 0,_,_=>none
 | m1+1,z6,l7 =>
  q05 (cond (decide (z6<(l7.length:Int)))
   (some (decide ((l7.length:Int)≤256)))
   (some false)) fun b12 =>
  cond b12
   (q3g n z6 (q28 n m1) n 0 l7)
   (q6i l7)
def qas (n:Nat) (p1:List (List Int)):Option ((List (List Int))) :=
 q1m (p1.length*24≤140737488355328∧p1.length≤140737488355328) (
 q28 n n 0 p1)
theorem qm4 (n:Nat) (p1:List (List Int)) (r:(List (List Int))) (hF:qas n p1=some r):EvU Tryz.prog 39 [.isl false (List.map (cL (cI .u64)) p1)] ⟨[],0⟩ (fun u _=>u = .isl false (List.map (cL (cI .u64)) r)∧Bel 0 u):=by
 unfold qas at hF
 refine bg1 54 fn39 ?_
 obtain ⟨h2,hF⟩:=q09 hF
 refine go ?_
 refine RS.q (u:=.sl 0 0 0 0) (σ':=⟨[(0,.row [] 56)],1⟩) rfl (q56 un86.h if56.h rfl rfl rfl rfl rfl rfl rfl) ?_
 refine go ?_
 refine RS.q (u:=.vl 1 0 0 p1.length) (σ':=⟨[(1,.vec (List.map (cL (cI .u64)) p1).flatten 56 1 0),(0,.row [] 56)],2⟩) rfl (qet rfl rfl rfl rfl (qv8 (cL (cI .u64)) p1 un86.h un86.h if56.h rfl rfl rfl (qoe (cL (cI .u64)) (qmo (cI .u64))) h2)) ?_
 refine go ?_
 refine gS (l':=[(3,_),(4,_)]) ?_
 refine z44 (fun m tm σ=>∃ z6:Int,∃ l7:List (List Int),∃ t8:Nat,q28 n m z6 l7=some r∧tm=fr 54 [(3,.vl 1 t8 0 l7.length),(4,.i6 z6)]∧σ=⟨[(1,.vec (List.map (cL (cI .u64)) l7).flatten 56 1 t8),(0,.row [] 56)],2⟩) (fun tm σ=>∃ l9:List (List Int),∃ t10:Nat,q6i l9=some r∧tm=fr 54 [(3,.vl 1 t10 0 l9.length)]∧σ=⟨[(1,.vec (List.map (cL (cI .u64)) l9).flatten 56 1 t10),(0,.row [] 56)],2⟩) n ⟨0,p1,0,hF,rfl,rfl⟩ ?_ ?_
 rintro _ _ ⟨l9,t10,hF,rfl,rfl⟩
 unfold q6i at hF
 refine go ?_
 obtain rfl:=sI hF
 exact rT (us:=[.vl 1 t10 0 l9.length]) (u:=.iM (cL (cI .u64)) l9) (q4e rfl (q3x)) (fR 1 1)
 rintro (_|m1) _ _ ⟨z6,l7,t8,hF,rfl,rfl⟩
 cases hF
 unfold q28 at hF
 obtain ⟨b12,h13,hF⟩:=q00 hF
 refine gn ?_
 refine z47 (fun tm σ=>tm=fr 54 [(3,.vl 1 t8 0 l7.length),(4,.i6 z6),(18,.bool b12)]∧σ=⟨[(1,.vec (List.map (cL (cI .u64)) l7).flatten 56 1 t8),(0,.row [] 56)],2⟩) ?_ ?_
 rintro _ _ ⟨rfl,rfl⟩
 refine go ?_
 refine cF hF (fun h14 hF=>?_) (fun h14 hF=>?_)
 refine go ?_
 refine WPU.block ?_
 refine go ?_
 refine gS (l':=[(3,_),(4,_),(5,_)]) ?_
 refine z44 (fun m tm σ=>∃ z19:Int,∃ l20:List (List Int),∃ t21:Nat,q3g n z6 (q28 n m1) m z19 l20=some r∧tm=fr 54 [(3,.vl 1 t21 0 l20.length),(4,.i6 z6),(5,.i6 z19)]∧σ=⟨[(1,.vec (List.map (cL (cI .u64)) l20).flatten 56 1 t21),(0,.row [] 56)],2⟩) (fun tm σ=>∃ l22:List (List Int),∃ t23:Nat,q6j z6 (q28 n m1) l22=some r∧tm=fr 54 [(3,.vl 1 t23 0 l22.length),(4,.i6 z6)]∧σ=⟨[(1,.vec (List.map (cL (cI .u64)) l22).flatten 56 1 t23),(0,.row [] 56)],2⟩) n ⟨0,l7,t8,hF,rfl,rfl⟩ ?_ ?_
 rintro _ _ ⟨l22,t23,hF,rfl,rfl⟩
 unfold q6j at hF
 refine go ?_
 exact lC ⟨_,l22,t23,hF,rfl,rfl⟩
 rintro (_|m2) _ _ ⟨z19,l20,t21,hF,rfl,rfl⟩
 cases hF
 unfold q3g at hF
 obtain ⟨b25,h26,hF⟩:=q00 hF
 refine gn ?_
 refine z47 (fun tm σ=>tm=fr 54 [(3,.vl 1 t21 0 l20.length),(4,.i6 z6),(5,.i6 z19),(28,.bool b25)]∧σ=⟨[(1,.vec (List.map (cL (cI .u64)) l20).flatten 56 1 t21),(0,.row [] 56)],2⟩) ?_ ?_
 rintro _ _ ⟨rfl,rfl⟩
 refine go ?_
 refine cF hF (fun h27 hF=>?_) (fun h27 hF=>?_)
 refine go ?_
 refine WPU.block ?_
 obtain ⟨x28,h29,hF⟩:=q00 hF
 obtain ⟨x30,h31,hF⟩:=q00 hF
 obtain ⟨r32,h33,hF⟩:=q00 hF
 refine go ?_
 refine z48 Tryz.tb_ok [] (by kernel_rfl) ?_
 refine gd ?_
 refine RD.q rfl (q4o rfl rfl (qal (cL (cI .u64)) un86.h (q0q if56.h) (by decide) (qmo (cI .u64)) (vo rfl) h29)) ?_
 refine RD.q rfl (q77 (cL (cI .u64)) (fun x=>.iM (cI .u64) x) un56.h rfl (fun _=>rfl) rfl rfl h29) ?_
 refine gd ?_
 refine RD.q rfl (q4o rfl rfl (qal (cL (cI .u64)) un86.h (q0q if56.h) (by decide) (qmo (cI .u64)) (vo rfl) h31)) ?_
 refine RD.q rfl (q77 (cL (cI .u64)) (fun x=>.iM (cI .u64) x) un56.h rfl (fun _=>rfl) rfl rfl h31) (z4a rfl (pC (ql8 n x28 x30 r32 h33)) fn59 ?_)
 refine gd ?_
 refine RD.done ⟨by kernel_rfl,trivial,?_⟩
 obtain ⟨b37,h38,hF⟩:=q00 hF
 refine gn ?_
 refine z47 (fun tm σ=>tm=fr 54 [(3,.vl 1 t21 0 l20.length),(4,.i6 z6),(5,.i6 z19),(6,.iM (cI .u64) r32),(48,.bool b37)]∧σ=⟨[(1,.vec (List.map (cL (cI .u64)) l20).flatten 56 1 t21),(0,.row [] 56)],2⟩) ?_ ?_
 rintro _ _ ⟨rfl,rfl⟩
 refine gn ?_
 refine z47 (fun tm σ=>∃ l40:List (List Int),∃ t41:Nat,q6h z19 (q3g n z6 (q28 n m1) m2) l40=some r∧tm=fr 54 [(3,.vl 1 t41 0 l40.length),(4,.i6 z6),(5,.i6 z19)]∧σ=⟨[(1,.vec (List.map (cL (cI .u64)) l40).flatten 56 1 t41),(0,.row [] 56)],2⟩) ?_ ?_
 rintro _ _ ⟨l40,t41,hF,rfl,rfl⟩
 unfold q6h at hF
 refine go ?_
 exact lC ⟨_,l40,t41,hF,rfl,rfl⟩
 refine cF hF (fun h39 hF=>?_) (fun h39 hF=>?_)
 obtain ⟨h42,hF⟩:=q09 hF
 refine go ?_
 refine RS.g ?_
 refine RS.g ?_
 refine go ?_
 exact xC ⟨(l20++[r32]),(t21+1),hF,rfl,rfl⟩
 refine go ?_
 exact xC ⟨l20,t21,hF,rfl,rfl⟩
 rcases gB h38 with ⟨h34,h38⟩ | ⟨h34,h38⟩
 obtain ⟨r35,h36,h38⟩:=q00 h38
 obtain rfl:=sI h38
 refine go ?_
 refine RS.cl rfl (vw (qup n l20 r32 r35 h36) (z4b 1 1)) fn69 ?_
 refine go ?_
 exact xC ⟨rfl,rfl⟩
 exact gy h38
 refine go ?_
 exact xC ⟨l20,t21,hF,rfl,rfl⟩
 rcases gB h26 with ⟨h24,h26⟩ | ⟨h24,h26⟩
 exact gy h26
 exact gy h26
 refine go ?_
 exact xC ⟨l7,t8,hF,rfl,rfl⟩
 rcases gB h13 with ⟨h11,h13⟩ | ⟨h11,h13⟩
 exact gy h13
 exact gy h13
def q5s (n:Nat) (l11:List Int):Option ((List Int)) :=
 q05 (q41 n l11) fun r13 =>
 some r13
def q7d (p1:List Int) (p2:List Int) (n:Nat):Nat→Int→(List Int)→Option ((List Int))
 | 0,_,_=>none
 | m1+1,z8,l9 =>
  cond (decide (z8<(p1.length:Int)))
   (q05 (q11 p1 z8) fun x16 =>
   q05 (q9e n p2 z8) fun r18 =>
   q1m ((l9.length+1)*8≤140737488355328∧l9.length+1≤140737488355328) (
   (q7d p1 p2 n m1) (IntKind.i64.wrap (z8+1)) (l9++[(qhx .u64 x16 r18)])))
   (q5s n l9)
def q9d (n:Nat) (p1:List Int) (p2:List Int):Option ((List Int)) :=
 q7d p1 p2 n n 0 ([]:List Int)
theorem qnz (n:Nat) (p1:List Int) (p2:List Int) (r:(List Int)) (hF:q9d n p1 p2=some r):EvU Tryz.prog 89 [.isl false (List.map (cI .u64) p1),.isl false (List.map (cI .u64) p2)] ⟨[],0⟩ (fun u _=>u = .isl false (List.map (cI .u64) r)∧Bel 0 u):=by
 unfold q9d at hF
 refine bg2 26 fn89 ?_
 refine gr ?_
 refine gr ?_
 refine gr ?_
 refine WPU.ghost (tm':=fr 26 [(0,.iM (cI .u64) p1),(1,.iM (cI .u64) p2),(5,.vl 0 0 0 (([]:List Int).length)),(6,.i6 0)]) (σ':=⟨[(0,.vec (List.map (cI .u64) ([]:List Int)).flatten 134 1 0)],1⟩) (Gh.trans (z4g 5 134 1 (by decide) NZ rfl rfl) (z4e ⟨rfl,rfl,rfl,rfl,trivial⟩ rfl)) NZ ?_
 refine gS (l':=[(0,_),(1,_),(5,_),(6,_)]) ?_
 refine z44 (fun m tm σ=>∃ z8:Int,∃ l9:List Int,∃ t10:Nat,q7d p1 p2 n m z8 l9=some r∧tm=fr 26 [(0,.iM (cI .u64) p1),(1,.iM (cI .u64) p2),(5,.vl 0 t10 0 l9.length),(6,.i6 z8)]∧σ=⟨[(0,.vec (List.map (cI .u64) l9).flatten 134 1 t10)],1⟩) (fun tm σ=>∃ l11:List Int,∃ t12:Nat,q5s n l11=some r∧tm=fr 26 [(5,.vl 0 t12 0 l11.length)]∧σ=⟨[(0,.vec (List.map (cI .u64) l11).flatten 134 1 t12)],1⟩) n ⟨0,([]:List Int),0,hF,rfl,rfl⟩ ?_ ?_
 rintro _ _ ⟨l11,t12,hF,rfl,rfl⟩
 unfold q5s at hF
 refine gn ?_
 refine WPU.ghost (tm':=fr 26 [(5,.iM (cI .u64) l11)]) (σ':=⟨[],1⟩) (Gh.trans (Gh.sub (l':=[(5,.vl 0 t12 0 l11.length)]) ⟨rfl,trivial⟩) (z4r 0 1)) NZ ?_
 obtain ⟨r13,h14,hF⟩:=q00 hF
 refine go ?_
 refine RS.cl rfl (pC (q9p n l11 r13 h14) _) fn60 ?_
 exact gx hF
 rintro (_|m1) _ _ ⟨z8,l9,t10,hF,rfl,rfl⟩
 cases hF
 unfold q7d at hF
 refine go ?_
 refine cF hF (fun h15 hF=>?_) (fun h15 hF=>?_)
 refine go ?_
 refine WPU.block ?_
 obtain ⟨x16,h17,hF⟩:=q00 hF
 obtain ⟨r18,h19,hF⟩:=q00 hF
 obtain ⟨h20,hF⟩:=q09 hF
 refine go ?_
 refine z48 Tryz.tb_ok [(0,9)] (by kernel_rfl) ?_
 refine gd ?_
 refine RD.ix h17 ?_
 refine gd ?_
 refine z4a rfl (pC (qj2 n p2 z8 r18 h19)) fn82 (RD.q rfl (qcj rfl rfl (qwn _ _ _) rfl) ?_)
 refine RD.g ?_
 refine RD.g ?_
 refine gd ?_
 refine RD.done ⟨by kernel_rfl,⟨q60 rfl,trivial⟩,?_⟩
 refine go ?_
 exact lC ⟨_,(l9++[(qhx .u64 x16 r18)]),(t10+1),hF,rfl,rfl⟩
 refine go ?_
 exact xC ⟨l9,t10,hF,rfl,rfl⟩
def q6d (n:Nat) (p1:List Int) (p2:List Int):Option (Bool) :=
 q05 (q9d n p1 p2) fun r3 =>
 some ((r3.length:Int) == 0)
theorem q9q (n:Nat) (p1:List Int) (p2:List Int) (r:Bool) (hF:q6d n p1 p2=some r):EvU Tryz.prog 74 [.isl false (List.map (cI .u64) p1),.isl false (List.map (cI .u64) p2)] ⟨[],0⟩ (fun u _=>u = .bool r∧Bel 0 u):=by
 unfold q6d at hF
 refine bg2 10 fn74 ?_
 obtain ⟨r3,h4,hF⟩:=q00 hF
 refine go ?_
 refine RS.cl rfl (pC (qnz n p1 p2 r3 h4) _) fn89 ?_
 exact gx hF
def qc1 (n:Nat) (p1:List Int) (p2:List Int):Option (Bool) :=
 q05 (q05 (q6d n p1 p2) fun r3 =>
 cond r3
  (q05 (q6d n p2 p1) fun r6 =>
  some r6)
  (some false)) fun b8 =>
 some b8
theorem qny (n:Nat) (p1:List Int) (p2:List Int) (r:Bool) (hF:qc1 n p1 p2=some r):EvU Tryz.prog 70 [.isl false (List.map (cI .u64) p1),.isl false (List.map (cI .u64) p2)] ⟨[],0⟩ (fun u _=>u = .bool r∧Bel 0 u):=by
 unfold qc1 at hF
 refine bg2 13 fn70 ?_
 obtain ⟨b8,h9,hF⟩:=q00 hF
 refine gr ?_
 refine z47 (fun tm σ=>tm=fr 13 [(4,.bool b8)]∧σ=⟨[],0⟩) ?_ ?_
 rintro _ _ ⟨rfl,rfl⟩
 exact gx hF
 obtain ⟨r3,h4,h9⟩:=q00 h9
 rcases gB h9 with ⟨h5,h9⟩ | ⟨h5,h9⟩
 obtain ⟨r6,h7,h9⟩:=q00 h9
 obtain rfl:=sI h9
 refine go ?_
 refine RS.cl rfl (pC (q9q n p1 p2 r3 h4) _) fn74 ?_
 refine go ?_
 refine RS.cl rfl (pC (q9q n p2 p1 r6 h7) _) fn74 ?_
 refine go ?_
 exact xC ⟨rfl,rfl⟩
 obtain rfl:=sI h9
 refine go ?_
 refine RS.cl rfl (pC (q9q n p1 p2 r3 h4) _) fn74 ?_
 refine go ?_
 exact xC ⟨rfl,rfl⟩
def qd6 (n:Nat) (p1:List Int) (p2:Int):Option (Bool) :=
 q05 (cond (decide (p2<0))
  (some true)
  (some (decide ((IntKind.i64.wrap (p2.tdiv 64)) ≥ (p1.length:Int))))) fun b5 =>
 cond b5
  (some false)
  (q05 (q11 p1 (IntKind.i64.wrap (p2.tdiv 64))) fun x9 =>
  q1m (¬ (IntKind.u64.wrap (p2.tmod 64))<0) (
  some ((z2f .u64 (x9.fdiv (2 ^ (min (IntKind.u64.wrap (p2.tmod 64)).toNat IntKind.u64.bits))) 1) == 1)))
theorem ql9 (n:Nat) (p1:List Int) (p2:Int) (r:Bool) (hF:qd6 n p1 p2=some r):EvU Tryz.prog 71 [.isl false (List.map (cI .u64) p1),.int .i64 p2] ⟨[],0⟩ (fun u _=>u = .bool r∧Bel 0 u):=by
 unfold qd6 at hF
 refine bg2 25 fn71 ?_
 obtain ⟨b5,h6,hF⟩:=q00 hF
 refine gr ?_
 refine z47 (fun tm σ=>tm=fr 25 [(0,.iM (cI .u64) p1),(1,.i6 p2),(13,.bool b5)]∧σ=⟨[],0⟩) ?_ ?_
 rintro _ _ ⟨rfl,rfl⟩
 refine go ?_
 refine cF hF (fun h7 hF=>?_) (fun h7 hF=>?_)
 exact gx hF
 obtain ⟨x9,h10,hF⟩:=q00 hF
 obtain ⟨h12,hF⟩:=q09 hF
 refine go ?_
 refine RS.q rfl (qcj rfl rfl (qsl _ (by decide)) rfl) ?_
 refine RS.ix h10 ?_
 refine go ?_
 refine RS.q rfl (qcj rfl rfl (z1h _ (by decide)) rfl) ?_
 refine RS.q (u:=.int .u64 (IntKind.u64.wrap (p2.tmod 64))) rfl (qrf rfl rfl (by simp only [qp2,un3.h,un138.h]<;>rfl) rfl) ?_
 refine RS.q rfl (qcj rfl rfl (ix_shr _ h12) rfl) (RS.q rfl (qcj rfl rfl (z1g _ _ _) rfl) ?_)
 exact gx hF
 rcases gB h6 with ⟨h3,h6⟩ | ⟨h3,h6⟩
 exact gy h6
 obtain rfl:=sI h6
 refine go ?_
 refine RS.w rfl (qcj rfl rfl (qsl _ (by decide)) rfl) ?_
 refine go ?_
 exact xC ⟨rfl,rfl⟩
def q57 (z8:Int) (rc1:(List (List UInt8))→Int→Option ((List (List UInt8)))) (l16:List (List UInt8)):Option ((List (List UInt8))) :=
 rc1 l16 (IntKind.i64.wrap (z8+1))
def q6w  (l9:List (List UInt8)):Option ((List (List UInt8))) :=
 some l9
def q1w (p1:List q02) (p2:List (List UInt8)) (n:Nat):Nat→(List (List UInt8))→Int→Option ((List (List UInt8)))
 | 0,_,_=>none
 | m1+1,l7,z8 =>
  cond (decide (z8<(p2.length:Int)))
   (q05 (q11 p2 z8) fun x11 =>
   q05 (q58 n p1 x11) fun r13 =>
   cond (decide (r13 ≥ 0))
    (q05 (q11 p2 z8) fun x17 =>
    q05 (q8h n l7 x17) fun r19 =>
    q57 z8 (q1w p1 p2 n m1) r19)
    (q57 z8 (q1w p1 p2 n m1) l7))
   (q6w l7)
def qa0 (n:Nat) (p1:List q02) (p2:List (List UInt8)):Option ((List (List UInt8))) :=
 q1w p1 p2 n n [] 0
theorem qja (n:Nat) (p1:List q02) (p2:List (List UInt8)) (r:(List (List UInt8))) (hF:qa0 n p1 p2=some r):EvU Tryz.prog 86 [.isl false (List.map q03 p1),.isl false (List.map cS p2)] ⟨[],0⟩ (fun u _=>u = .isl false (List.map cS r)∧Bel 0 u):=by
 unfold qa0 at hF
 refine bg2 27 fn86 ?_
 refine gr ?_
 refine gr ?_
 refine gr ?_
 refine WPU.ghost (tm':=fr 27 [(0,.iM q03 p1),(1,.iM cS p2),(5,.iM cS []),(6,.i6 0)]) (Gh.trans (Gh.sub (l':=[(0,.iM q03 p1),(1,.iM cS p2),(5,.nils),(6,.i6 0)]) ⟨rfl,rfl,rfl,rfl,trivial⟩) (Gh.wkS (l':=[(0,.iM q03 p1),(1,.iM cS p2),(5,.iM cS []),(6,.i6 0)]) (.cons (.refl _) (.cons (.refl _) (.cons (.nil false) (.cons (.refl _) .nil)))))) NZ ?_
 refine gS (l':=[(0,_),(1,_),(5,_),(6,_)]) ?_
 refine z44 (fun m tm σ=>∃ l7:List (List UInt8),∃ z8:Int,q1w p1 p2 n m l7 z8=some r∧tm=fr 27 [(0,.iM q03 p1),(1,.iM cS p2),(5,.iM cS l7),(6,.i6 z8)]∧σ=⟨[],0⟩) (fun tm σ=>∃ l9:List (List UInt8),q6w l9=some r∧tm=fr 27 [(5,.iM cS l9)]∧σ=⟨[],0⟩) n ⟨[],0,hF,rfl,rfl⟩ ?_ ?_
 rintro _ _ ⟨l9,hF,rfl,rfl⟩
 unfold q6w at hF
 exact gx hF
 rintro (_|m1) _ _ ⟨l7,z8,hF,rfl,rfl⟩
 cases hF
 unfold q1w at hF
 refine go ?_
 refine cF hF (fun h10 hF=>?_) (fun h10 hF=>?_)
 refine go ?_
 refine WPU.block ?_
 obtain ⟨x11,h12,hF⟩:=q00 hF
 obtain ⟨r13,h14,hF⟩:=q00 hF
 refine go ?_
 refine RS.ix h12 ?_
 refine go ?_
 refine RS.cl rfl (pC (q83 n p1 x11 r13 h14) _) fn84 ?_
 refine gn ?_
 refine z47 (fun tm σ=>∃ l16:List (List UInt8),q57 z8 (q1w p1 p2 n m1) l16=some r∧tm=fr 27 [(0,.iM q03 p1),(1,.iM cS p2),(5,.iM cS l16),(6,.i6 z8)]∧σ=⟨[],0⟩) ?_ ?_
 rintro _ _ ⟨l16,hF,rfl,rfl⟩
 unfold q57 at hF
 refine go ?_
 exact lC ⟨l16,(IntKind.i64.wrap (z8+1)),hF,rfl,rfl⟩
 refine cF hF (fun h15 hF=>?_) (fun h15 hF=>?_)
 obtain ⟨x17,h18,hF⟩:=q00 hF
 obtain ⟨r19,h20,hF⟩:=q00 hF
 refine go ?_
 refine RS.ix h18 ?_
 refine go ?_
 refine RS.cl rfl (pC (q9f n l7 x17 r19 h20) _) fn57 ?_
 refine go ?_
 exact xC ⟨r19,hF,rfl,rfl⟩
 refine go ?_
 exact xC ⟨l7,hF,rfl,rfl⟩
 refine go ?_
 exact xC ⟨l7,hF,rfl,rfl⟩
def q9s  (l21:List (List UInt8)):Option ((List (List UInt8))) :=
 some l21
def q42 (n:Nat) (l13:List (List UInt8)):Nat→(List (List UInt8))→Int→Option ((List (List UInt8)))
 | 0,_,_=>none
 | m2+1,l19,z20 =>
  cond (decide (z20<(l13.length:Int)))
   (q05 (q11 l13 z20) fun x23 =>
   q05 (q8h n l19 x23) fun r25 =>
   (q42 n l13 m2) r25 (IntKind.i64.wrap (z20+1)))
   (q9s l19)
def q7e (z40:Int) (rc3:Int→(List (List UInt8))→Option ((List (List UInt8)))) (l51:List (List UInt8)):Option ((List (List UInt8))) :=
 rc3 (IntKind.i64.wrap (z40+1)) l51
def q9t (z10:Int) (rc1:Int→(List (List UInt8))→Option ((List (List UInt8)))) (l43:List (List UInt8)):Option ((List (List UInt8))) :=
 rc1 (IntKind.i64.wrap (z10+1)) l43
def q36 (n:Nat) (z10:Int) (rc1:Int→(List (List UInt8))→Option ((List (List UInt8)))) (x32:q02):Nat→Int→(List (List UInt8))→Option ((List (List UInt8)))
 | 0,_,_=>none
 | m3+1,z40,l41 =>
  cond (decide (z40<(x32.Supers.length:Int)))
   (q05 (q11 x32.Supers z40) fun x46 =>
   q05 (q3j n l41 x46) fun r48 =>
   cond (!r48)
    (q05 (q11 x32.Supers z40) fun x53 =>
    q1m ((l41.length+1)*16≤140737488355328∧l41.length+1≤140737488355328) (
    q7e z40 (q36 n z10 rc1 x32 m3) (l41++[x53])))
    (q7e z40 (q36 n z10 rc1 x32 m3) l41))
   (q9t z10 rc1 l41)
def q9r (n:Nat) (l13:List (List UInt8)):Option ((List (List UInt8))) :=
 q42 n l13 n [] 0
def q2h (p1:List q02) (n:Nat):Nat→Int→(List (List UInt8))→Option ((List (List UInt8)))
 | 0,_,_=>none
 | m1+1,z10,l11 =>
  cond (decide (z10<(l11.length:Int)))
   (q05 (q11 l11 z10) fun x28 =>
   q05 (q58 n p1 x28) fun r30 =>
   q05 (q11 p1 r30) fun x32 =>
   q36 n z10 (q2h p1 n m1) x32 n 0 l11)
   (q9r n l11)
def qc2 (n:Nat) (p1:List q02) (p2:List UInt8):Option ((List (List UInt8))) :=
 q05 (q58 n p1 p2) fun r3 =>
 cond (decide (r3<0))
  (some [])
  (q2h p1 n n 0 ([p2]))
theorem qo0 (n:Nat) (p1:List q02) (p2:List UInt8) (r:(List (List UInt8))) (hF:qc2 n p1 p2=some r):EvU Tryz.prog 87 [.isl false (List.map q03 p1),.str p2] ⟨[],0⟩ (fun u _=>u = .isl false (List.map cS r)∧Bel 0 u):=by
 unfold qc2 at hF
 refine bg2 66 fn87 ?_
 obtain ⟨r3,h4,hF⟩:=q00 hF
 refine go ?_
 refine RS.cl rfl (pC (q83 n p1 p2 r3 h4) _) fn84 ?_
 refine go ?_
 refine cF hF (fun h5 hF=>?_) (fun h5 hF=>?_)
 refine go ?_
 obtain rfl:=sI hF
 exact rT (us:=[.nils]) (u:=.isl false []) (q4e rfl (q3x)) wR
 refine go ?_
 refine RS.step (u:=.vl 0 0 0 ([p2].length)) (σ':=⟨[(0,.vec (List.map cS ([p2])).flatten 9 1 0)],1⟩) rfl (qhv.bslv (cs:=(List.map cS [p2]).flatten) Tryz.tb_ok rfl un66.h if9.h rfl rfl rfl rfl rfl rfl rfl rfl) rfl rfl ?_
 refine go ?_
 refine gS (l':=[(0,_),(5,_),(6,_)]) ?_
 refine z44 (fun m tm σ=>∃ z10:Int,∃ l11:List (List UInt8),∃ t12:Nat,q2h p1 n m z10 l11=some r∧tm=fr 66 [(0,.iM q03 p1),(5,.vl 0 t12 0 l11.length),(6,.i6 z10)]∧σ=⟨[(0,.vec (List.map cS l11).flatten 9 1 t12)],1⟩) (fun tm σ=>∃ l13:List (List UInt8),∃ t14:Nat,q9r n l13=some r∧tm=fr 66 [(5,.vl 0 t14 0 l13.length)]∧σ=⟨[(0,.vec (List.map cS l13).flatten 9 1 t14)],1⟩) n ⟨0,[p2],0,hF,rfl,rfl⟩ ?_ ?_
 rintro _ _ ⟨l13,t14,hF,rfl,rfl⟩
 unfold q9r at hF
 refine gr ?_
 refine gr ?_
 refine WPU.ghost (tm':=fr 66 [(5,.vl 0 t14 0 l13.length),(9,.iM cS []),(10,.i6 0)]) (Gh.trans (Gh.sub (l':=[(5,.vl 0 t14 0 l13.length),(9,.nils),(10,.i6 0)]) ⟨rfl,rfl,rfl,trivial⟩) (Gh.wkS (l':=[(5,.vl 0 t14 0 l13.length),(9,.iM cS []),(10,.i6 0)]) (.cons (.refl _) (.cons (.nil false) (.cons (.refl _) .nil))))) NZ ?_
 refine gS (l':=[(5,_),(9,_),(10,_)]) ?_
 refine z44 (fun m tm σ=>∃ l19:List (List UInt8),∃ z20:Int,q42 n l13 m l19 z20=some r∧tm=fr 66 [(5,.vl 0 t14 0 l13.length),(9,.iM cS l19),(10,.i6 z20)]∧σ=⟨[(0,.vec (List.map cS l13).flatten 9 1 t14)],1⟩) (fun tm σ=>∃ l21:List (List UInt8),q9s l21=some r∧tm=fr 66 [(9,.iM cS l21)]∧σ=⟨[(0,.vec (List.map cS l13).flatten 9 1 t14)],1⟩) n ⟨[],0,hF,rfl,rfl⟩ ?_ ?_
 rintro _ _ ⟨l21,hF,rfl,rfl⟩
 unfold q9s at hF
 exact gx hF
 rintro (_|m2) _ _ ⟨l19,z20,hF,rfl,rfl⟩
 cases hF
 unfold q42 at hF
 refine go ?_
 refine cF hF (fun h22 hF=>?_) (fun h22 hF=>?_)
 refine go ?_
 refine WPU.block ?_
 obtain ⟨x23,h24,hF⟩:=q00 hF
 obtain ⟨r25,h26,hF⟩:=q00 hF
 refine go ?_
 refine RS.q rfl (q4o rfl rfl (qal cS un66.h (q0q if9.h) (by decide) qfv (vo rfl) h24)) ?_
 refine RS.q rfl (q77 cS (fun x=>.str x) un9.h rfl (fun _=>rfl) rfl rfl h24) (RS.cl rfl (pC (q9f n l19 x23 r25 h26) _) fn57 ?_)
 refine go ?_
 exact lC ⟨r25,(IntKind.i64.wrap (z20+1)),hF,rfl,rfl⟩
 refine go ?_
 exact xC ⟨l19,hF,rfl,rfl⟩
 rintro (_|m1) _ _ ⟨z10,l11,t12,hF,rfl,rfl⟩
 cases hF
 unfold q2h at hF
 refine go ?_
 refine cF hF (fun h27 hF=>?_) (fun h27 hF=>?_)
 refine go ?_
 refine WPU.block ?_
 obtain ⟨x28,h29,hF⟩:=q00 hF
 obtain ⟨r30,h31,hF⟩:=q00 hF
 obtain ⟨x32,h33,hF⟩:=q00 hF
 refine go ?_
 refine RS.q rfl (q4o rfl rfl (qal cS un66.h (q0q if9.h) (by decide) qfv (vo rfl) h29)) ?_
 refine RS.q rfl (q77 cS (fun x=>.str x) un9.h rfl (fun _=>rfl) rfl rfl h29) (RS.cl rfl (pC (q83 n p1 x28 r30 h31) _) fn84 ?_)
 refine RS.ix h33 ?_
 refine go ?_
 refine gS (l':=[(0,_),(5,_),(6,_),(7,_),(8,_)]) ?_
 refine z44 (fun m tm σ=>∃ z40:Int,∃ l41:List (List UInt8),∃ t42:Nat,q36 n z10 (q2h p1 n m1) x32 m z40 l41=some r∧tm=fr 66 [(0,.iM q03 p1),(5,.vl 0 t42 0 l41.length),(6,.i6 z10),(7,.iM cS x32.Supers),(8,.i6 z40)]∧σ=⟨[(0,.vec (List.map cS l41).flatten 9 1 t42)],1⟩) (fun tm σ=>∃ l43:List (List UInt8),∃ t44:Nat,q9t z10 (q2h p1 n m1) l43=some r∧tm=fr 66 [(0,.iM q03 p1),(5,.vl 0 t44 0 l43.length),(6,.i6 z10)]∧σ=⟨[(0,.vec (List.map cS l43).flatten 9 1 t44)],1⟩) n ⟨0,l11,t12,hF,rfl,rfl⟩ ?_ ?_
 rintro _ _ ⟨l43,t44,hF,rfl,rfl⟩
 unfold q9t at hF
 refine go ?_
 exact lC ⟨_,l43,t44,hF,rfl,rfl⟩
 rintro (_|m3) _ _ ⟨z40,l41,t42,hF,rfl,rfl⟩
 cases hF
 unfold q36 at hF
 refine go ?_
 refine cF hF (fun h45 hF=>?_) (fun h45 hF=>?_)
 refine go ?_
 refine WPU.block ?_
 obtain ⟨x46,h47,hF⟩:=q00 hF
 obtain ⟨r48,h49,hF⟩:=q00 hF
 refine go ?_
 refine RS.ix h47 ?_
 refine go ?_
 refine RS.cl rfl (vw (q2p n l41 x46 r48 h49) (z4b 0 1)) fn67 ?_
 refine gn ?_
 refine z47 (fun tm σ=>∃ l51:List (List UInt8),∃ t52:Nat,q7e z40 (q36 n z10 (q2h p1 n m1) x32 m3) l51=some r∧tm=fr 66 [(0,.iM q03 p1),(5,.vl 0 t52 0 l51.length),(6,.i6 z10),(7,.iM cS x32.Supers),(8,.i6 z40)]∧σ=⟨[(0,.vec (List.map cS l51).flatten 9 1 t52)],1⟩) ?_ ?_
 rintro _ _ ⟨l51,t52,hF,rfl,rfl⟩
 unfold q7e at hF
 refine go ?_
 exact lC ⟨_,l51,t52,hF,rfl,rfl⟩
 refine cF hF (fun h50 hF=>?_) (fun h50 hF=>?_)
 obtain ⟨x53,h54,hF⟩:=q00 hF
 obtain ⟨h55,hF⟩:=q09 hF
 refine go ?_
 refine RS.ix h54 ?_
 refine go ?_
 refine RS.g ?_
 refine RS.g ?_
 refine go ?_
 exact xC ⟨(l41++[x53]),(t42+1),hF,rfl,rfl⟩
 refine go ?_
 exact xC ⟨l41,t42,hF,rfl,rfl⟩
 refine go ?_
 exact xC ⟨l41,t42,hF,rfl,rfl⟩
 refine go ?_
 exact xC ⟨l11,t12,hF,rfl,rfl⟩
def q5m (z10:Int) (rc1:Int→(List (List UInt8))→Option ((List (List UInt8)))) (l32:List (List UInt8)):Option ((List (List UInt8))) :=
 rc1 (IntKind.i64.wrap (z10+1)) l32
def q7p (r3:(List (List UInt8))) (z10:Int) (l11:List (List UInt8)) (rc1:Int→(List (List UInt8))→Option ((List (List UInt8)))) (b30:Bool):Option ((List (List UInt8))) :=
 cond b30
  (q05 (q11 r3 z10) fun x34 =>
  q1m ((l11.length+1)*16≤140737488355328∧l11.length+1≤140737488355328) (
  q5m z10 rc1 (l11++[x34])))
  (q5m z10 rc1 l11)
def q3k (n:Nat) (r3:(List (List UInt8))) (z10:Int) (l11:List (List UInt8)) (rc1:Int→(List (List UInt8))→Option ((List (List UInt8)))) (r18:(List (List UInt8))):Nat→Bool→Int→Option ((List (List UInt8)))
 | 0,_,_=>none
 | m2+1,b28,z29 =>
  cond (decide (z29<(r3.length:Int)))
   (q05 (cond b28
    (cond (z29 == z10)
     (some true)
     (q05 (q11 r3 z29) fun x40 =>
     q05 (q3j n r18 x40) fun r42 =>
     some (!r42)))
    (some false)) fun b44 =>
   (q3k n r3 z10 l11 rc1 r18 m2) b44 (IntKind.i64.wrap (z29+1)))
   (q7p r3 z10 l11 rc1 b28)
def q7o  (l13:List (List UInt8)):Option ((List (List UInt8))) :=
 some l13
def q1g (p1:List q02) (n:Nat) (r3:(List (List UInt8))):Nat→Int→(List (List UInt8))→Option ((List (List UInt8)))
 | 0,_,_=>none
 | m1+1,z10,l11 =>
  cond (decide (z10<(r3.length:Int)))
   (q05 (q11 r3 z10) fun x16 =>
   q05 (qc2 n p1 x16) fun r18 =>
   q3k n r3 z10 l11 (q1g p1 n r3 m1) r18 n true 0)
   (q7o l11)
def q6v (n:Nat) (p1:List q02) (p2:List (List UInt8)):Option ((List (List UInt8))) :=
 q05 (qa0 n p1 p2) fun r3 =>
 q1g p1 n r3 n 0 ([]:List (List UInt8))
theorem qev (n:Nat) (p1:List q02) (p2:List (List UInt8)) (r:(List (List UInt8))) (hF:q6v n p1 p2=some r):EvU Tryz.prog 72 [.isl false (List.map q03 p1),.isl false (List.map cS p2)] ⟨[],0⟩ (fun u _=>u = .isl false (List.map cS r)∧Bel 0 u):=by
 unfold q6v at hF
 refine bg2 56 fn72 ?_
 obtain ⟨r3,h4,hF⟩:=q00 hF
 refine go ?_
 refine RS.cl rfl (pC (qja n p1 p2 r3 h4) _) fn86 ?_
 refine gr ?_
 refine WPU.ghost (tm':=fr 56 [(0,.iM q03 p1),(5,.vl 0 0 0 (([]:List (List UInt8)).length)),(6,.iM cS r3),(7,.i6 0)]) (σ':=⟨[(0,.vec (List.map cS ([]:List (List UInt8))).flatten 9 1 0)],1⟩) (Gh.trans (z4g 5 9 1 (by decide) NZ rfl rfl) (z4e ⟨rfl,rfl,rfl,rfl,trivial⟩ rfl)) NZ ?_
 refine gS (l':=[(0,_),(5,_),(6,_),(7,_)]) ?_
 refine z44 (fun m tm σ=>∃ z10:Int,∃ l11:List (List UInt8),∃ t12:Nat,q1g p1 n r3 m z10 l11=some r∧tm=fr 56 [(0,.iM q03 p1),(5,.vl 0 t12 0 l11.length),(6,.iM cS r3),(7,.i6 z10)]∧σ=⟨[(0,.vec (List.map cS l11).flatten 9 1 t12)],1⟩) (fun tm σ=>∃ l13:List (List UInt8),∃ t14:Nat,q7o l13=some r∧tm=fr 56 [(5,.vl 0 t14 0 l13.length)]∧σ=⟨[(0,.vec (List.map cS l13).flatten 9 1 t14)],1⟩) n ⟨0,([]:List (List UInt8)),0,hF,rfl,rfl⟩ ?_ ?_
 rintro _ _ ⟨l13,t14,hF,rfl,rfl⟩
 unfold q7o at hF
 refine go ?_
 obtain rfl:=sI hF
 exact rT (us:=[.vl 0 t14 0 l13.length]) (u:=.iM cS l13) (q4e rfl (q3x)) (fR 0 1)
 rintro (_|m1) _ _ ⟨z10,l11,t12,hF,rfl,rfl⟩
 cases hF
 unfold q1g at hF
 refine go ?_
 refine cF hF (fun h15 hF=>?_) (fun h15 hF=>?_)
 refine go ?_
 refine WPU.block ?_
 obtain ⟨x16,h17,hF⟩:=q00 hF
 obtain ⟨r18,h19,hF⟩:=q00 hF
 refine go ?_
 refine RS.ix h17 ?_
 refine go ?_
 refine RS.cl rfl (pC (qo0 n p1 x16 r18 h19) _) fn87 ?_
 refine go ?_
 refine gS (l':=[(0,_),(5,_),(6,_),(7,_),(8,_),(9,_),(10,_)]) ?_
 refine z44 (fun m tm σ=>∃ b28:Bool,∃ z29:Int,q3k n r3 z10 l11 (q1g p1 n r3 m1) r18 m b28 z29=some r∧tm=fr 56 [(0,.iM q03 p1),(5,.vl 0 t12 0 l11.length),(6,.iM cS r3),(7,.i6 z10),(8,.iM cS r18),(9,.bool b28),(10,.i6 z29)]∧σ=⟨[(0,.vec (List.map cS l11).flatten 9 1 t12)],1⟩) (fun tm σ=>∃ b30:Bool,q7p r3 z10 l11 (q1g p1 n r3 m1) b30=some r∧tm=fr 56 [(0,.iM q03 p1),(5,.vl 0 t12 0 l11.length),(6,.iM cS r3),(7,.i6 z10),(9,.bool b30)]∧σ=⟨[(0,.vec (List.map cS l11).flatten 9 1 t12)],1⟩) n ⟨true,0,hF,rfl,rfl⟩ ?_ ?_
 rintro _ _ ⟨b30,hF,rfl,rfl⟩
 unfold q7p at hF
 refine gr ?_
 refine z47 (fun tm σ=>∃ l32:List (List UInt8),∃ t33:Nat,q5m z10 (q1g p1 n r3 m1) l32=some r∧tm=fr 56 [(0,.iM q03 p1),(5,.vl 0 t33 0 l32.length),(6,.iM cS r3),(7,.i6 z10)]∧σ=⟨[(0,.vec (List.map cS l32).flatten 9 1 t33)],1⟩) ?_ ?_
 rintro _ _ ⟨l32,t33,hF,rfl,rfl⟩
 unfold q5m at hF
 refine go ?_
 exact lC ⟨_,l32,t33,hF,rfl,rfl⟩
 refine cF hF (fun h31 hF=>?_) (fun h31 hF=>?_)
 obtain ⟨x34,h35,hF⟩:=q00 hF
 obtain ⟨h36,hF⟩:=q09 hF
 refine go ?_
 refine RS.ix h35 ?_
 refine go ?_
 refine RS.g ?_
 refine RS.g ?_
 refine go ?_
 exact xC ⟨(l11++[x34]),(t12+1),hF,rfl,rfl⟩
 refine go ?_
 exact xC ⟨l11,t12,hF,rfl,rfl⟩
 rintro (_|m2) _ _ ⟨b28,z29,hF,rfl,rfl⟩
 cases hF
 unfold q3k at hF
 refine go ?_
 refine cF hF (fun h37 hF=>?_) (fun h37 hF=>?_)
 refine go ?_
 refine WPU.block ?_
 obtain ⟨b44,h45,hF⟩:=q00 hF
 refine gn ?_
 refine z47 (fun tm σ=>tm=fr 56 [(0,.iM q03 p1),(5,.vl 0 t12 0 l11.length),(6,.iM cS r3),(7,.i6 z10),(8,.iM cS r18),(9,.bool b44),(10,.i6 z29)]∧σ=⟨[(0,.vec (List.map cS l11).flatten 9 1 t12)],1⟩) ?_ ?_
 rintro _ _ ⟨rfl,rfl⟩
 refine go ?_
 exact lC ⟨b44,(IntKind.i64.wrap (z29+1)),hF,rfl,rfl⟩
 rcases gB h45 with ⟨h38,h45⟩ | ⟨h38,h45⟩
 rcases gB h45 with ⟨h39,h45⟩ | ⟨h39,h45⟩
 exact gy h45
 obtain ⟨x40,h41,h45⟩:=q00 h45
 obtain ⟨r42,h43,h45⟩:=q00 h45
 obtain rfl:=sI h45
 refine go ?_
 refine RS.ix h41 ?_
 refine go ?_
 refine RS.cl rfl (pC (q2p n r18 x40 r42 h43) _) fn67 ?_
 refine go ?_
 exact xC ⟨rfl,rfl⟩
 obtain rfl:=sI h45
 refine go ?_
 repeat refine RS.no (qll rfl rfl rfl) rfl rfl ?_
 refine go ?_
 exact xC ⟨rfl,rfl⟩
 refine go ?_
 exact xC ⟨b28,hF,rfl,rfl⟩
 refine go ?_
 exact xC ⟨l11,t12,hF,rfl,rfl⟩
def q8p (r17:(List (List UInt8))) (z23:Int) (rc2:(List UInt8)→Int→Option ((List UInt8))) (s27:List UInt8):Option ((List UInt8)) :=
 q05 (q11 r17 z23) fun x28 =>
 q1m (s27.length+x28.length≤9223372036854775807) (
 rc2 (s27++x28) (IntKind.i64.wrap (z23+1)))
def qbi  (s24:List UInt8):Option ((List UInt8)) :=
 some s24
def q3a (r17:(List (List UInt8))):Nat→(List UInt8)→Int→Option ((List UInt8))
 | 0,_,_=>none
 | m2+1,s22,z23 =>
  cond (decide (z23<(r17.length:Int)))
   (cond (decide (z23 > 0))
    (q1m (s22.length+([38]).length≤9223372036854775807) (
    q8p r17 z23 (q3a r17 m2) (s22++[38])))
    (q8p r17 z23 (q3a r17 m2) s22))
   (qbi s22)
def q8q (z12:Int) (rc1:Int→(List (List UInt8))→Option ((List UInt8))) (l43:List (List UInt8)):Option ((List UInt8)) :=
 rc1 (IntKind.i64.wrap (z12+1)) l43
def qbh (p1:List q02) (n:Nat) (l15:List (List UInt8)):Option ((List UInt8)) :=
 q05 (q6v n p1 l15) fun r17 =>
 q3a r17 n [] 0
def q3t (p1:List q02) (p2:List (List UInt8)) (p3:List (List Int)) (p4:List Int) (n:Nat):Nat→Int→(List (List UInt8))→Option ((List UInt8))
 | 0,_,_=>none
 | m1+1,z12,l13 =>
  cond (decide (z12<(p2.length:Int)))
   (q05 (q11 p3 z12) fun x33 =>
   q05 (qc1 n x33 p4) fun r35 =>
   cond r35
    (q05 (q11 p2 z12) fun x38 =>
    some x38)
    (q05 (qd6 n p4 z12) fun r40 =>
    cond r40
     (q05 (q11 p2 z12) fun x45 =>
     q1m ((l13.length+1)*16≤140737488355328∧l13.length+1≤140737488355328) (
     q8q z12 (q3t p1 p2 p3 p4 n m1) (l13++[x45])))
     (q8q z12 (q3t p1 p2 p3 p4 n m1) l13)))
   (qbh p1 n l13)
def qd9 (n:Nat) (p1:List q02) (p2:List (List UInt8)) (p3:List (List Int)) (p4:List Int):Option ((List UInt8)) :=
 q3t p1 p2 p3 p4 n n 0 ([]:List (List UInt8))
theorem qq5 (n:Nat) (p1:List q02) (p2:List (List UInt8)) (p3:List (List Int)) (p4:List Int) (r:(List UInt8)) (hF:qd9 n p1 p2 p3 p4=some r):EvU Tryz.prog 40 [.isl false (List.map q03 p1),.isl false (List.map cS p2),.isl false (List.map (cL (cI .u64)) p3),.isl false (List.map (cI .u64) p4)] ⟨[],0⟩ (fun u _=>u = .str r∧Bel 0 u):=by
 unfold qd9 at hF
 refine bg4 59 fn40 ?_
 refine gr ?_
 refine gr ?_
 refine gr ?_
 refine WPU.ghost (tm':=fr 59 [(0,.iM q03 p1),(1,.iM cS p2),(2,.iM (cL (cI .u64)) p3),(3,.iM (cI .u64) p4),(9,.vl 0 0 0 (([]:List (List UInt8)).length)),(10,.i6 0)]) (σ':=⟨[(0,.vec (List.map cS ([]:List (List UInt8))).flatten 9 1 0)],1⟩) (Gh.trans (z4g 9 9 1 (by decide) NZ rfl rfl) (z4e ⟨rfl,rfl,rfl,rfl,rfl,rfl,trivial⟩ rfl)) NZ ?_
 refine gS (l':=[(0,_),(1,_),(2,_),(3,_),(9,_),(10,_)]) ?_
 refine z44 (fun m tm σ=>∃ z12:Int,∃ l13:List (List UInt8),∃ t14:Nat,q3t p1 p2 p3 p4 n m z12 l13=some r∧tm=fr 59 [(0,.iM q03 p1),(1,.iM cS p2),(2,.iM (cL (cI .u64)) p3),(3,.iM (cI .u64) p4),(9,.vl 0 t14 0 l13.length),(10,.i6 z12)]∧σ=⟨[(0,.vec (List.map cS l13).flatten 9 1 t14)],1⟩) (fun tm σ=>∃ l15:List (List UInt8),∃ t16:Nat,qbh p1 n l15=some r∧tm=fr 59 [(0,.iM q03 p1),(9,.vl 0 t16 0 l15.length)]∧σ=⟨[(0,.vec (List.map cS l15).flatten 9 1 t16)],1⟩) n ⟨0,([]:List (List UInt8)),0,hF,rfl,rfl⟩ ?_ ?_
 rintro _ _ ⟨l15,t16,hF,rfl,rfl⟩
 unfold qbh at hF
 refine gn ?_
 refine WPU.ghost (tm':=fr 59 [(0,.iM q03 p1),(9,.iM cS l15)]) (σ':=⟨[],1⟩) (Gh.trans (Gh.sub (l':=[(0,.iM q03 p1),(9,.vl 0 t16 0 l15.length)]) ⟨rfl,rfl,trivial⟩) (z4r 0 1)) NZ ?_
 obtain ⟨r17,h18,hF⟩:=q00 hF
 refine go ?_
 refine RS.cl rfl (pC (qev n p1 l15 r17 h18) _) fn72 ?_
 refine go ?_
 refine gS (l':=[(9,_),(11,_),(12,_)]) ?_
 refine z44 (fun m tm σ=>∃ s22:List UInt8,∃ z23:Int,q3a r17 m s22 z23=some r∧tm=fr 59 [(9,.iM cS r17),(11,.str s22),(12,.i6 z23)]∧σ=⟨[],1⟩) (fun tm σ=>∃ s24:List UInt8,qbi s24=some r∧tm=fr 59 [(11,.str s24)]∧σ=⟨[],1⟩) n ⟨[],0,hF,rfl,rfl⟩ ?_ ?_
 rintro _ _ ⟨s24,hF,rfl,rfl⟩
 unfold qbi at hF
 exact gx hF
 rintro (_|m2) _ _ ⟨s22,z23,hF,rfl,rfl⟩
 cases hF
 unfold q3a at hF
 refine go ?_
 refine cF hF (fun h25 hF=>?_) (fun h25 hF=>?_)
 refine go ?_
 refine WPU.block ?_
 refine gr ?_
 refine z47 (fun tm σ=>∃ s27:List UInt8,q8p r17 z23 (q3a r17 m2) s27=some r∧tm=fr 59 [(9,.iM cS r17),(11,.str s27),(12,.i6 z23)]∧σ=⟨[],1⟩) ?_ ?_
 rintro _ _ ⟨s27,hF,rfl,rfl⟩
 unfold q8p at hF
 obtain ⟨x28,h29,hF⟩:=q00 hF
 obtain ⟨h30,hF⟩:=q09 hF
 refine go ?_
 refine RS.ix h29 ?_
 refine go ?_
 refine RS.q (u:=.str (s27++x28)) rfl (qea rfl rfl (z1z h30) rfl) ?_
 refine go ?_
 exact lC ⟨(s27++x28),(IntKind.i64.wrap (z23+1)),hF,rfl,rfl⟩
 refine cF hF (fun h26 hF=>?_) (fun h26 hF=>?_)
 obtain ⟨h31,hF⟩:=q09 hF
 refine go ?_
 refine RS.q (u:=.str (s22++[38])) rfl (qea rfl rfl (z1z h31) rfl) ?_
 refine go ?_
 exact xC ⟨(s22++[38]),hF,rfl,rfl⟩
 refine go ?_
 exact xC ⟨s22,hF,rfl,rfl⟩
 refine go ?_
 exact xC ⟨s22,hF,rfl,rfl⟩
 rintro (_|m1) _ _ ⟨z12,l13,t14,hF,rfl,rfl⟩
 cases hF
 unfold q3t at hF
 refine go ?_
 refine cF hF (fun h32 hF=>?_) (fun h32 hF=>?_)
 refine go ?_
 refine WPU.block ?_
 obtain ⟨x33,h34,hF⟩:=q00 hF
 obtain ⟨r35,h36,hF⟩:=q00 hF
 refine go ?_
 refine RS.ix h34 ?_
 refine go ?_
 refine RS.cl rfl (pC (qny n x33 p4 r35 h36) _) fn70 ?_
 refine go ?_
 refine cF hF (fun h37 hF=>?_) (fun h37 hF=>?_)
 obtain ⟨x38,h39,hF⟩:=q00 hF
 refine go ?_
 refine RS.ix h39 ?_
 exact gx hF
 obtain ⟨r40,h41,hF⟩:=q00 hF
 refine go ?_
 refine RS.cl rfl (pC (ql9 n p4 z12 r40 h41) _) fn71 ?_
 refine gn ?_
 refine z47 (fun tm σ=>∃ l43:List (List UInt8),∃ t44:Nat,q8q z12 (q3t p1 p2 p3 p4 n m1) l43=some r∧tm=fr 59 [(0,.iM q03 p1),(1,.iM cS p2),(2,.iM (cL (cI .u64)) p3),(3,.iM (cI .u64) p4),(9,.vl 0 t44 0 l43.length),(10,.i6 z12)]∧σ=⟨[(0,.vec (List.map cS l43).flatten 9 1 t44)],1⟩) ?_ ?_
 rintro _ _ ⟨l43,t44,hF,rfl,rfl⟩
 unfold q8q at hF
 refine go ?_
 exact lC ⟨_,l43,t44,hF,rfl,rfl⟩
 refine cF hF (fun h42 hF=>?_) (fun h42 hF=>?_)
 obtain ⟨x45,h46,hF⟩:=q00 hF
 obtain ⟨h47,hF⟩:=q09 hF
 refine go ?_
 refine RS.ix h46 ?_
 refine go ?_
 refine RS.g ?_
 refine RS.g ?_
 refine go ?_
 exact xC ⟨(l13++[x45]),(t14+1),hF,rfl,rfl⟩
 refine go ?_
 exact xC ⟨l13,t14,hF,rfl,rfl⟩
 refine go ?_
 exact xC ⟨l13,t14,hF,rfl,rfl⟩
def q8g (z6:Int) (rc1:Int→(List Int)→Option ((List Int))) (l15:List Int):Option ((List Int)) :=
 rc1 (IntKind.i64.wrap (z6+1)) l15
def qbb  (l9:List Int):Option ((List Int)) :=
 some l9
def q3r (p1:List Int) (n:Nat):Nat→Int→(List Int)→Option ((List Int))
 | 0,_,_=>none
 | m1+1,z6,l7 =>
  cond (decide (z6<(IntKind.i64.wrap (64*(p1.length:Int)))))
   (q05 (qd6 n p1 z6) fun r12 =>
   cond r12
    (q1m ((l7.length+1)*8≤140737488355328∧l7.length+1≤140737488355328) (
    q8g z6 (q3r p1 n m1) (l7++[z6])))
    (q8g z6 (q3r p1 n m1) l7))
   (qbb l7)
def qfe (n:Nat) (p1:List Int):Option ((List Int)) :=
 q3r p1 n n 0 ([]:List Int)
theorem qq2 (n:Nat) (p1:List Int) (r:(List Int)) (hF:qfe n p1=some r):EvU Tryz.prog 88 [.isl false (List.map (cI .u64) p1)] ⟨[],0⟩ (fun u _=>u = .isl false (List.map (cI .i64) r)∧Bel 0 u):=by
 unfold qfe at hF
 refine bg1 20 fn88 ?_
 refine gr ?_
 refine gr ?_
 refine gr ?_
 refine WPU.ghost (tm':=fr 20 [(0,.iM (cI .u64) p1),(3,.vl 0 0 0 (([]:List Int).length)),(4,.i6 0)]) (σ':=⟨[(0,.vec (List.map (cI .i64) ([]:List Int)).flatten 3 1 0)],1⟩) (Gh.trans (z4g 3 3 1 (by decide) NZ rfl rfl) (z4e ⟨rfl,rfl,rfl,trivial⟩ rfl)) NZ ?_
 refine gS (l':=[(0,_),(3,_),(4,_)]) ?_
 refine z44 (fun m tm σ=>∃ z6:Int,∃ l7:List Int,∃ t8:Nat,q3r p1 n m z6 l7=some r∧tm=fr 20 [(0,.iM (cI .u64) p1),(3,.vl 0 t8 0 l7.length),(4,.i6 z6)]∧σ=⟨[(0,.vec (List.map (cI .i64) l7).flatten 3 1 t8)],1⟩) (fun tm σ=>∃ l9:List Int,∃ t10:Nat,qbb l9=some r∧tm=fr 20 [(3,.vl 0 t10 0 l9.length)]∧σ=⟨[(0,.vec (List.map (cI .i64) l9).flatten 3 1 t10)],1⟩) n ⟨0,([]:List Int),0,hF,rfl,rfl⟩ ?_ ?_
 rintro _ _ ⟨l9,t10,hF,rfl,rfl⟩
 unfold qbb at hF
 refine go ?_
 obtain rfl:=sI hF
 exact rT (us:=[.vl 0 t10 0 l9.length]) (u:=.iM (cI .i64) l9) (q4e rfl (q3x)) (fR 0 1)
 rintro (_|m1) _ _ ⟨z6,l7,t8,hF,rfl,rfl⟩
 cases hF
 unfold q3r at hF
 refine go ?_
 refine cF hF (fun h11 hF=>?_) (fun h11 hF=>?_)
 refine go ?_
 refine WPU.block ?_
 obtain ⟨r12,h13,hF⟩:=q00 hF
 refine go ?_
 refine RS.cl rfl (pC (ql9 n p1 z6 r12 h13) _) fn71 ?_
 refine gn ?_
 refine z47 (fun tm σ=>∃ l15:List Int,∃ t16:Nat,q8g z6 (q3r p1 n m1) l15=some r∧tm=fr 20 [(0,.iM (cI .u64) p1),(3,.vl 0 t16 0 l15.length),(4,.i6 z6)]∧σ=⟨[(0,.vec (List.map (cI .i64) l15).flatten 3 1 t16)],1⟩) ?_ ?_
 rintro _ _ ⟨l15,t16,hF,rfl,rfl⟩
 unfold q8g at hF
 refine go ?_
 exact lC ⟨_,l15,t16,hF,rfl,rfl⟩
 refine cF hF (fun h14 hF=>?_) (fun h14 hF=>?_)
 obtain ⟨h17,hF⟩:=q09 hF
 refine go ?_
 refine RS.g ?_
 refine RS.g ?_
 refine go ?_
 exact xC ⟨(l7++[z6]),(t8+1),hF,rfl,rfl⟩
 refine go ?_
 exact xC ⟨l7,t8,hF,rfl,rfl⟩
 refine go ?_
 exact xC ⟨l7,t8,hF,rfl,rfl⟩
def q9c (n:Nat) (p1:List Int):Option (Int) :=
 q05 (qfe n p1) fun r2 =>
 some (r2.length:Int)
theorem qhe (n:Nat) (p1:List Int) (r:Int) (hF:q9c n p1=some r):EvU Tryz.prog 73 [.isl false (List.map (cI .u64) p1)] ⟨[],0⟩ (fun u _=>u = .int .i64 r∧Bel 0 u):=by
 unfold q9c at hF
 refine bg1 6 fn73 ?_
 obtain ⟨r2,h3,hF⟩:=q00 hF
 refine go ?_
 refine RS.cl rfl (pC (qq2 n p1 r2 h3) _) fn88 ?_
 exact gx hF
def qar (n:Nat) (p1:q0c) (p2:q0c):Option (Bool) :=
 q05 (q9c n p1.Code) fun r3 =>
 q05 (q9c n p2.Code) fun r5 =>
 q05 (cond (decide (r3 > r5))
  (some true)
  (cond (r3 == r5)
   (some (q1e p1.Name p2.Name))
   (some false))) fun b9 =>
 some b9
theorem qm3 (n:Nat) (p1:q0c) (p2:q0c) (r:Bool) (hF:qar n p1 p2=some r):EvU Tryz.prog 41 [.agg (q0e p1),.agg (q0e p2)] ⟨[],0⟩ (fun u _=>u = .bool r∧Bel 0 u):=by
 unfold qar at hF
 refine bg2 28 fn41 ?_
 obtain ⟨r3,h4,hF⟩:=q00 hF
 refine go ?_
 refine RS.cl rfl (pC (qhe n p1.Code r3 h4) _) fn73 ?_
 obtain ⟨r5,h6,hF⟩:=q00 hF
 refine go ?_
 refine RS.cl rfl (pC (qhe n p2.Code r5 h6) _) fn73 ?_
 obtain ⟨b9,h10,hF⟩:=q00 hF
 refine gn ?_
 refine z47 (fun tm σ=>tm=fr 28 [(4,.bool b9)]∧σ=⟨[(1,.row (q0e p2) 58),(0,.row (q0e p1) 58)],2⟩) ?_ ?_
 rintro _ _ ⟨rfl,rfl⟩
 exact gx hF
 rcases gB h10 with ⟨h7,h10⟩ | ⟨h7,h10⟩
 obtain rfl:=sI h10
 refine go ?_
 repeat refine RS.no (qll rfl rfl rfl) rfl rfl ?_
 refine go ?_
 exact xC ⟨rfl,rfl⟩
 rcases gB h10 with ⟨h8,h10⟩ | ⟨h8,h10⟩
 obtain rfl:=sI h10
 refine go ?_
 refine RS.w (u:=.bool (q1e p1.Name p2.Name)) rfl (qea rfl rfl rfl rfl) ?_
 refine go ?_
 exact xC ⟨rfl,rfl⟩
 exact gy h10
def q7h (z27:Int) (l28:List q0c) (rc2:Int→(List q0c)→Option ((List q0c)×Int)) (r35:(List UInt8)) (x37:List Int) (z50:Int):Option ((List q0c)×Int) :=
 q1m ((0:Int)≤z50∧z50≤((l28.length:Nat):Int)) (
 q1m (0+z50.toNat≤l28.length) (
 q1m (((l28.drop 0).take z50.toNat).length*40≤140737488355328∧((l28.drop 0).take z50.toNat).length≤140737488355328) (
 q1m ((((l28.drop 0).take z50.toNat).length+1)*40≤140737488355328∧((l28.drop 0).take z50.toNat).length+1≤140737488355328) (
 q1m ((0:Int)≤z50∧z50≤((l28.length:Nat):Int)) (
 q1m ((0+z50.toNat)+(l28.length - z50.toNat)≤l28.length) (
 q1m (((((l28.drop 0).take z50.toNat)++[(q0c.mk r35 x37)]).length+((l28.drop (0+z50.toNat)).take (l28.length - z50.toNat)).length)*40≤140737488355328∧(((l28.drop 0).take z50.toNat)++[(q0c.mk r35 x37)]).length+((l28.drop (0+z50.toNat)).take (l28.length - z50.toNat)).length≤140737488355328) (
 rc2 (IntKind.i64.wrap (z27+1)) ((((l28.drop 0).take z50.toNat)++[(q0c.mk r35 x37)])++((l28.drop (0+z50.toNat)).take (l28.length - z50.toNat))))))))))
def q5u (n:Nat) (z27:Int) (l28:List q0c) (rc2:Int→(List q0c)→Option ((List q0c)×Int)) (r35:(List UInt8)) (x37:List Int):Nat→Int→Option ((List q0c)×Int)
 | 0,_=>none
 | m3+1,z49 =>
  q05 (cond (decide (z49 > 0))
   (q05 (q11 l28 (IntKind.i64.wrap (z49 - 1))) fun x59 =>
   q05 (qar n (q0c.mk r35 x37) x59) fun r61 =>
   some r61)
   (some false)) fun b63 =>
  cond b63
   ((q5u n z27 l28 rc2 r35 x37 m3) (IntKind.i64.wrap (z49 - 1)))
   (q7h z27 l28 rc2 r35 x37 z49)
def qa5  (l30:List q0c):Option ((List q0c)×Int) :=
 some (l30,0)
def q39 (p1:List q02) (n:Nat) (r5:(List (List UInt8))) (l15:List (List Int)) (r17:(List (List Int))):Nat→Int→(List q0c)→Option ((List q0c)×Int)
 | 0,_,_=>none
 | m2+1,z27,l28 =>
  cond (decide (z27<(r17.length:Int)))
   (q05 (q11 r17 z27) fun x33 =>
   q05 (qd9 n p1 r5 l15 x33) fun r35 =>
   q05 (q11 r17 z27) fun x37 =>
   q5u n z27 l28 (q39 p1 n r5 l15 r17 m2) r35 x37 n (l28.length:Int))
   (qa5 l28)
def qa4 (p1:List q02) (n:Nat) (r5:(List (List UInt8))) (l15:List (List Int)):Option ((List q0c)×Int) :=
 q05 (qas n l15) fun r17 =>
 cond (decide ((r17.length:Int) > 256))
  (some ([],7))
  (q39 p1 n r5 l15 r17 n 0 ([]:List q0c))
def q4u (p1:List q02) (n:Nat) (r5:(List (List UInt8))):Nat→Int→(List (List Int))→Option ((List q0c)×Int)
 | 0,_,_=>none
 | m1+1,z12,l13 =>
  cond (decide (z12<(r5.length:Int)))
   (q05 (q11 r5 z12) fun x67 =>
   q05 (qd8 n p1 r5 x67) fun r69 =>
   q1m ((l13.length+1)*24≤140737488355328∧l13.length+1≤140737488355328) (
   (q4u p1 n r5 m1) (IntKind.i64.wrap (z12+1)) (l13++[r69])))
   (qa4 p1 n r5 l13)
def q5g (n:Nat) (p1:List q02):Option ((List q0c)×Int) :=
 q05 (qc4 n p1) fun r2 =>
 cond (r2 != 0)
  (some ([],r2))
  (q05 (qc5 n p1) fun r5 =>
  q4u p1 n r5 n 0 ([]:List (List Int)))
theorem qbe (n:Nat) (p1:List q02) (r:(List q0c)×Int) (hF:q5g n p1=some r):EvU Tryz.prog 20 [.isl false (List.map q03 p1)] ⟨[],0⟩ (fun u _=>u = .tup [.isl false (List.map q0e r.1),.int .i64 r.2]∧Bel 0 u):=by
 unfold q5g at hF
 refine bg1 92 fn20 ?_
 obtain ⟨r2,h3,hF⟩:=q00 hF
 refine go ?_
 refine RS.cl rfl (pC (qo2 n p1 r2 h3) _) fn36 ?_
 refine go ?_
 refine cF hF (fun h4 hF=>?_) (fun h4 hF=>?_)
 refine go ?_
 obtain rfl:=sI hF
 exact rT (us:=[.nils,.i6 r2]) (u:=.tup [.isl false [],.i6 r2]) (q4e rfl (q4e rfl (q3x))) wR
 obtain ⟨r5,h6,hF⟩:=q00 hF
 refine go ?_
 refine RS.cl rfl (pC (qhg n p1 r5 h6) _) fn37 ?_
 refine gr ?_
 refine gr ?_
 refine WPU.ghost (tm':=fr 92 [(0,.iM q03 p1),(5,.iM cS r5),(6,.vl 0 0 0 (([]:List (List Int)).length)),(7,.i6 0)]) (σ':=⟨[(0,.vec (List.map (cL (cI .u64)) ([]:List (List Int))).flatten 56 1 0)],1⟩) (Gh.trans (z4g 6 56 1 (by decide) NZ rfl rfl) (z4e ⟨rfl,rfl,rfl,rfl,trivial⟩ rfl)) NZ ?_
 refine gS (l':=[(0,_),(5,_),(6,_),(7,_)]) ?_
 refine z44 (fun m tm σ=>∃ z12:Int,∃ l13:List (List Int),∃ t14:Nat,q4u p1 n r5 m z12 l13=some r∧tm=fr 92 [(0,.iM q03 p1),(5,.iM cS r5),(6,.vl 0 t14 0 l13.length),(7,.i6 z12)]∧σ=⟨[(0,.vec (List.map (cL (cI .u64)) l13).flatten 56 1 t14)],1⟩) (fun tm σ=>∃ l15:List (List Int),∃ t16:Nat,qa4 p1 n r5 l15=some r∧tm=fr 92 [(0,.iM q03 p1),(5,.iM cS r5),(6,.vl 0 t16 0 l15.length)]∧σ=⟨[(0,.vec (List.map (cL (cI .u64)) l15).flatten 56 1 t16)],1⟩) n ⟨0,([]:List (List Int)),0,hF,rfl,rfl⟩ ?_ ?_
 rintro _ _ ⟨l15,t16,hF,rfl,rfl⟩
 unfold qa4 at hF
 refine gn ?_
 refine WPU.ghost (tm':=fr 92 [(0,.iM q03 p1),(5,.iM cS r5),(6,.iM (cL (cI .u64)) l15)]) (σ':=⟨[],1⟩) (Gh.trans (Gh.sub (l':=[(0,.iM q03 p1),(5,.iM cS r5),(6,.vl 0 t16 0 l15.length)]) ⟨rfl,rfl,rfl,trivial⟩) (z4r 0 1)) NZ ?_
 obtain ⟨r17,h18,hF⟩:=q00 hF
 refine go ?_
 refine RS.cl rfl (pC (qm4 n l15 r17 h18) _) fn39 ?_
 refine go ?_
 refine cF hF (fun h19 hF=>?_) (fun h19 hF=>?_)
 refine go ?_
 obtain rfl:=sI hF
 exact rT (us:=[.nils,.i6 7]) (u:=.tup [.isl false [],.i6 7]) (q4e rfl (q4e rfl (q3x))) wR
 refine gr ?_
 refine gr ?_
 refine WPU.ghost (tm':=fr 92 [(0,.iM q03 p1),(5,.iM cS r5),(6,.iM (cL (cI .u64)) l15),(8,.iM (cL (cI .u64)) r17),(9,.vl 1 0 0 (([]:List q0c).length)),(10,.i6 0)]) (σ':=⟨[(1,.vec (List.map q0e ([]:List q0c)).flatten 58 2 0)],2⟩) (Gh.trans (z4g 9 58 2 (by decide) NZ rfl rfl) (z4e ⟨rfl,rfl,rfl,rfl,rfl,rfl,trivial⟩ rfl)) NZ ?_
 refine gS (l':=[(0,_),(5,_),(6,_),(8,_),(9,_),(10,_)]) ?_
 refine z44 (fun m tm σ=>∃ z27:Int,∃ l28:List q0c,∃ t29:Nat,q39 p1 n r5 l15 r17 m z27 l28=some r∧tm=fr 92 [(0,.iM q03 p1),(5,.iM cS r5),(6,.iM (cL (cI .u64)) l15),(8,.iM (cL (cI .u64)) r17),(9,.vl 1 t29 0 l28.length),(10,.i6 z27)]∧σ=⟨[(1,.vec (List.map q0e l28).flatten 58 2 t29)],2⟩) (fun tm σ=>∃ l30:List q0c,∃ t31:Nat,qa5 l30=some r∧tm=fr 92 [(9,.vl 1 t31 0 l30.length)]∧σ=⟨[(1,.vec (List.map q0e l30).flatten 58 2 t31)],2⟩) n ⟨0,([]:List q0c),0,hF,rfl,rfl⟩ ?_ ?_
 rintro _ _ ⟨l30,t31,hF,rfl,rfl⟩
 unfold qa5 at hF
 refine go ?_
 obtain rfl:=sI hF
 exact rT (us:=[.vl 1 t31 0 l30.length,.i6 0]) (u:=.tup [.iM q0e l30,.i6 0]) (q4e rfl (q4e rfl (q3x))) (fR 1 2)
 rintro (_|m2) _ _ ⟨z27,l28,t29,hF,rfl,rfl⟩
 cases hF
 unfold q39 at hF
 refine go ?_
 refine cF hF (fun h32 hF=>?_) (fun h32 hF=>?_)
 refine go ?_
 refine WPU.block ?_
 obtain ⟨x33,h34,hF⟩:=q00 hF
 obtain ⟨r35,h36,hF⟩:=q00 hF
 obtain ⟨x37,h38,hF⟩:=q00 hF
 refine go ?_
 refine z48 Tryz.tb_ok [(0,13),(1,13),(2,13),(3,13),(4,13),(5,13),(6,13),(8,13),(9,13),(10,13),(11,13),(12,13)] (by kernel_rfl) ?_
 refine gd ?_
 refine RD.ix h34 ?_
 refine gd ?_
 refine z4a rfl (pC (qq5 n p1 r5 l15 x33 r35 h36)) fn40 ?_
 refine gd ?_
 refine RD.ix h38 ?_
 refine gd ?_
 refine RD.g ?_
 refine RD.gz ?_
 refine RD.done ⟨by kernel_rfl,⟨q60 rfl,⟨q60 rfl,⟨q60 rfl,⟨q60 rfl,⟨q60 rfl,⟨q4o rfl rfl (qsg (cL (cI .u64)) un86.h (q0q if56.h) (qmo (cI .u64)) h34 rfl),⟨qws un56.h rfl rfl rfl,⟨q60 rfl,⟨q60 rfl,⟨q4o rfl rfl (qsg (cL (cI .u64)) un86.h (q0q if56.h) (qmo (cI .u64)) h38 rfl),⟨qws un56.h rfl rfl rfl,⟨z1o bd58.h rfl rfl rfl,trivial⟩⟩⟩⟩⟩⟩⟩⟩⟩⟩⟩⟩,?_⟩
 refine go ?_
 refine gS (l':=[(0,_),(5,_),(6,_),(8,_),(9,_),(10,_),(11,_),(12,_)]) ?_
 refine z44 (fun m tm σ=>∃ z49:Int,q5u n z27 l28 (q39 p1 n r5 l15 r17 m2) r35 x37 m z49=some r∧tm=fr 92 [(0,.iM q03 p1),(5,.iM cS r5),(6,.iM (cL (cI .u64)) l15),(8,.iM (cL (cI .u64)) r17),(9,.vl 1 t29 0 l28.length),(10,.i6 z27),(11,.ptr 2 0 0),(12,.i6 z49)]∧σ=⟨[(2,.row [.str r35,.iM (cI .u64) x37] 58),(1,.vec (List.map q0e l28).flatten 58 2 t29)],3⟩) (fun tm σ=>∃ z50:Int,q7h z27 l28 (q39 p1 n r5 l15 r17 m2) r35 x37 z50=some r∧tm=fr 92 [(0,.iM q03 p1),(5,.iM cS r5),(6,.iM (cL (cI .u64)) l15),(8,.iM (cL (cI .u64)) r17),(9,.vl 1 t29 0 l28.length),(10,.i6 z27),(11,.ptr 2 0 0),(12,.i6 z50)]∧σ=⟨[(2,.row [.str r35,.iM (cI .u64) x37] 58),(1,.vec (List.map q0e l28).flatten 58 2 t29)],3⟩) n ⟨(l28.length:Int),hF,rfl,rfl⟩ ?_ ?_
 rintro _ _ ⟨z50,hF,rfl,rfl⟩
 unfold q7h at hF
 obtain ⟨h51,hF⟩:=q09 hF
 obtain ⟨h52,hF⟩:=q09 hF
 obtain ⟨h53,hF⟩:=q09 hF
 refine go ?_
 refine RS.q (u:=.vl 1 t29 0 z50.toNat) rfl (qck rfl qqo (z0w rfl) qqo (z0d q0e un52.h (q0q if58.h) q6b (vo rfl) (Nat.le_of_eq (Nat.zero_add _)) (qvh h51.1 h51.2))) (RS.q (u:=.vl 3 0 0 (((l28.drop 0).take z50.toNat).length)) (σ':=⟨[(3,.vec (List.map q0e ((l28.drop 0).take z50.toNat)).flatten 58 2 0),(2,.row [.str r35,.iM (cI .u64) x37] 58),(1,.vec (List.map q0e l28).flatten 58 2 t29)],4⟩) rfl (qet rfl rfl rfl rfl (qqt q0e ((l28.drop 0).take z50.toNat) un52.h un52.h if58.h rfl (qtl q0e q6b (vo rfl) h52) h53)) ?_)
 obtain ⟨h54,hF⟩:=q09 hF
 refine go ?_
 refine RS.g ?_
 refine RS.g ?_
 obtain ⟨h55,hF⟩:=q09 hF
 obtain ⟨h56,hF⟩:=q09 hF
 obtain ⟨h57,hF⟩:=q09 hF
 refine go ?_
 refine RS.q (u:=.vl 1 t29 (0+z50.toNat) (l28.length - z50.toNat)) rfl (qck rfl (z0w rfl) qqo qqo (z0d q0e un52.h (q0q if58.h) q6b (vo rfl) (Nat.le_of_eq (Nat.zero_add _)) (qvi h55.1 h55.2))) (RS.q (u:=.vl 3 2 0 (((((l28.drop 0).take z50.toNat)++[(q0c.mk r35 x37)])++((l28.drop (0+z50.toNat)).take (l28.length - z50.toNat))).length)) (σ':=⟨[(4,.row [.str r35,.iM (cI .u64) x37] 58),(3,.vec (List.map q0e ((((l28.drop 0).take z50.toNat)++[(q0c.mk r35 x37)])++((l28.drop (0+z50.toNat)).take (l28.length - z50.toNat)))).flatten 58 2 2),(2,.row [.str r35,.iM (cI .u64) x37] 58),(1,.vec (List.map q0e l28).flatten 58 2 t29)],5⟩) rfl (qet rfl rfl rfl rfl (qma q0e ((l28.drop (0+z50.toNat)).take (l28.length - z50.toNat)) un52.h un52.h if58.h rfl q6b rfl (qtl q0e q6b (vo rfl) h56) h57)) ?_)
 refine go ?_
 exact ⟨m2,_,_,Nat.lt_succ_self _,⟨(IntKind.i64.wrap (z27+1)),((((l28.drop 0).take z50.toNat)++[(q0c.mk r35 x37)])++((l28.drop (0+z50.toNat)).take (l28.length - z50.toNat))),2,hF,rfl,rfl⟩,NZ,Gh.trans (Gh.sub (l':=[(0,.iM q03 p1),(5,.iM cS r5),(6,.iM (cL (cI .u64)) l15),(8,.iM (cL (cI .u64)) r17),(9,.vl 3 2 0 (((((l28.drop 0).take z50.toNat)++[(q0c.mk r35 x37)])++((l28.drop (0+z50.toNat)).take (l28.length - z50.toNat))).length)),(10,.i6 (IntKind.i64.wrap (z27+1)))]) ⟨rfl,rfl,rfl,rfl,rfl,rfl,trivial⟩) (Gh.trans (Gh.mv (l':=[(0,.iM q03 p1),(5,.iM cS r5),(6,.iM (cL (cI .u64)) l15),(8,.iM (cL (cI .u64)) r17),(9,.vl 1 2 0 (((((l28.drop 0).take z50.toNat)++[(q0c.mk r35 x37)])++((l28.drop (0+z50.toNat)).take (l28.length - z50.toNat))).length)),(10,.i6 (IntKind.i64.wrap (z27+1)))]) (h':=[(4,.row [.str r35,.iM (cI .u64) x37] 58),(1,.vec (List.map q0e ((((l28.drop 0).take z50.toNat)++[(q0c.mk r35 x37)])++((l28.drop (0+z50.toNat)).take (l28.length - z50.toNat)))).flatten 58 2 2),(2,.row [.str r35,.iM (cI .u64) x37] 58)]) 1 3 NZ rfl rfl (by simp only [rS,rU,rUL,qeu,mvN,Nat.beq,cond_true,cond_false]) rfl (by simp only [avH,rB,qmy,rUL,rU,qeu,qt6,mvN,Nat.beq,cond_true,cond_false,and_self])) (Gh.toC (n1:=2) ⟨rfl,rfl,rfl,rfl,rfl,rfl,trivial⟩ rfl NZ (by simp)))⟩
 rintro (_|m3) _ _ ⟨z49,hF,rfl,rfl⟩
 cases hF
 unfold q5u at hF
 obtain ⟨b63,h64,hF⟩:=q00 hF
 refine gn ?_
 refine z47 (fun tm σ=>tm=fr 92 [(0,.iM q03 p1),(5,.iM cS r5),(6,.iM (cL (cI .u64)) l15),(8,.iM (cL (cI .u64)) r17),(9,.vl 1 t29 0 l28.length),(10,.i6 z27),(11,.ptr 2 0 0),(12,.i6 z49),(73,.bool b63)]∧σ=⟨[(2,.row [.str r35,.iM (cI .u64) x37] 58),(1,.vec (List.map q0e l28).flatten 58 2 t29)],3⟩) ?_ ?_
 rintro _ _ ⟨rfl,rfl⟩
 refine go ?_
 refine cF hF (fun h65 hF=>?_) (fun h65 hF=>?_)
 refine go ?_
 refine WPU.block ?_
 refine go ?_
 exact lC ⟨_,hF,rfl,rfl⟩
 refine go ?_
 exact xC ⟨z49,hF,rfl,rfl⟩
 rcases gB h64 with ⟨h58,h64⟩ | ⟨h58,h64⟩
 obtain ⟨x59,h60,h64⟩:=q00 h64
 obtain ⟨r61,h62,h64⟩:=q00 h64
 obtain rfl:=sI h64
 refine z48 Tryz.tb_ok [] (by kernel_rfl) ?_
 refine gd ?_
 refine RD.w rfl (q4o rfl rfl (qal q0e un52.h (q0q if58.h) (by decide) q6b (vo rfl) h60)) ?_
 refine RD.w (u:=.agg (q0e x59)) rfl (z1i q0e un58.h rfl (q0q if58.h) q6b rfl rfl h60 rfl) (z4a rfl (pC (qm3 n (q0c.mk r35 x37) x59 r61 h62)) fn41 ?_)
 refine gd ?_
 refine RD.done ⟨by kernel_rfl,trivial,?_⟩
 refine go ?_
 exact xC ⟨rfl,rfl⟩
 obtain rfl:=sI h64
 refine z48 Tryz.tb_ok [] (by kernel_rfl) ?_
 refine gd ?_
 refine RD.done ⟨by kernel_rfl,trivial,?_⟩
 refine go ?_
 exact xC ⟨rfl,rfl⟩
 refine go ?_
 exact xC ⟨l28,t29,hF,rfl,rfl⟩
 rintro (_|m1) _ _ ⟨z12,l13,t14,hF,rfl,rfl⟩
 cases hF
 unfold q4u at hF
 refine go ?_
 refine cF hF (fun h66 hF=>?_) (fun h66 hF=>?_)
 refine go ?_
 refine WPU.block ?_
 obtain ⟨x67,h68,hF⟩:=q00 hF
 obtain ⟨r69,h70,hF⟩:=q00 hF
 obtain ⟨h71,hF⟩:=q09 hF
 refine go ?_
 refine RS.ix h68 ?_
 refine go ?_
 refine RS.cl rfl (pC (qq4 n p1 r5 x67 r69 h70) _) fn38 ?_
 refine RS.g ?_
 refine RS.g ?_
 refine go ?_
 exact lC ⟨_,(l13++[r69]),(t14+1),hF,rfl,rfl⟩
 refine go ?_
 exact xC ⟨l13,t14,hF,rfl,rfl⟩
def qaa (z6:Int) (rc1:(List (List UInt8))→Int→Option ((List (List UInt8)))) (l15:List (List UInt8)):Option ((List (List UInt8))) :=
 rc1 l15 (IntKind.i64.wrap (z6+1))
def q4x (p1:List q02) (n:Nat) (z6:Int) (rc1:(List (List UInt8))→Int→Option ((List (List UInt8)))):Nat→(List (List UInt8))→Int→Option ((List (List UInt8)))
 | 0,_,_=>none
 | m2+1,l13,z14 =>
  q05 (q11 p1 z6) fun x16 =>
  cond (decide (z14<(x16.Feats.length:Int)))
   (q05 (q11 p1 z6) fun x19 =>
   q05 (q11 x19.Feats z14) fun x21 =>
   q05 (q8h n l13 x21.Feat) fun r23 =>
   (q4x p1 n z6 rc1 m2) r23 (IntKind.i64.wrap (z14+1)))
   (qaa z6 rc1 l13)
def qa9  (l7:List (List UInt8)):Option ((List (List UInt8))) :=
 some l7
def q2k (p1:List q02) (n:Nat):Nat→(List (List UInt8))→Int→Option ((List (List UInt8)))
 | 0,_,_=>none
 | m1+1,l5,z6 =>
  cond (decide (z6<(p1.length:Int)))
   (q4x p1 n z6 (q2k p1 n m1) n l5 0)
   (qa9 l5)
def q7w (n:Nat) (p1:List q02):Option ((List (List UInt8))) :=
 q2k p1 n n [] 0
theorem qe0 (n:Nat) (p1:List q02) (r:(List (List UInt8))) (hF:q7w n p1=some r):EvU Tryz.prog 33 [.isl false (List.map q03 p1)] ⟨[],0⟩ (fun u _=>u = .isl false (List.map cS r)∧Bel 0 u):=by
 unfold q7w at hF
 refine bg1 34 fn33 ?_
 refine gr ?_
 refine gr ?_
 refine gr ?_
 refine WPU.ghost (tm':=fr 34 [(0,.iM q03 p1),(3,.iM cS []),(4,.i6 0)]) (Gh.trans (Gh.sub (l':=[(0,.iM q03 p1),(3,.nils),(4,.i6 0)]) ⟨rfl,rfl,rfl,trivial⟩) (Gh.wkS (l':=[(0,.iM q03 p1),(3,.iM cS []),(4,.i6 0)]) (.cons (.refl _) (.cons (.nil false) (.cons (.refl _) .nil))))) NZ ?_
 refine gS (l':=[(0,_),(3,_),(4,_)]) ?_
 refine z44 (fun m tm σ=>∃ l5:List (List UInt8),∃ z6:Int,q2k p1 n m l5 z6=some r∧tm=fr 34 [(0,.iM q03 p1),(3,.iM cS l5),(4,.i6 z6)]∧σ=⟨[],0⟩) (fun tm σ=>∃ l7:List (List UInt8),qa9 l7=some r∧tm=fr 34 [(3,.iM cS l7)]∧σ=⟨[],0⟩) n ⟨[],0,hF,rfl,rfl⟩ ?_ ?_
 rintro _ _ ⟨l7,hF,rfl,rfl⟩
 unfold qa9 at hF
 exact gx hF
 rintro (_|m1) _ _ ⟨l5,z6,hF,rfl,rfl⟩
 cases hF
 unfold q2k at hF
 refine go ?_
 refine cF hF (fun h8 hF=>?_) (fun h8 hF=>?_)
 refine go ?_
 refine WPU.block ?_
 refine go ?_
 refine gS (l':=[(0,_),(3,_),(4,_),(5,_)]) ?_
 refine z44 (fun m tm σ=>∃ l13:List (List UInt8),∃ z14:Int,q4x p1 n z6 (q2k p1 n m1) m l13 z14=some r∧tm=fr 34 [(0,.iM q03 p1),(3,.iM cS l13),(4,.i6 z6),(5,.i6 z14)]∧σ=⟨[],0⟩) (fun tm σ=>∃ l15:List (List UInt8),qaa z6 (q2k p1 n m1) l15=some r∧tm=fr 34 [(0,.iM q03 p1),(3,.iM cS l15),(4,.i6 z6)]∧σ=⟨[],0⟩) n ⟨l5,0,hF,rfl,rfl⟩ ?_ ?_
 rintro _ _ ⟨l15,hF,rfl,rfl⟩
 unfold qaa at hF
 refine go ?_
 exact lC ⟨l15,(IntKind.i64.wrap (z6+1)),hF,rfl,rfl⟩
 rintro (_|m2) _ _ ⟨l13,z14,hF,rfl,rfl⟩
 cases hF
 unfold q4x at hF
 obtain ⟨x16,h17,hF⟩:=q00 hF
 refine go ?_
 refine RS.ix h17 ?_
 refine go ?_
 refine cF hF (fun h18 hF=>?_) (fun h18 hF=>?_)
 refine go ?_
 refine WPU.block ?_
 obtain ⟨x19,h20,hF⟩:=q00 hF
 obtain ⟨x21,h22,hF⟩:=q00 hF
 obtain ⟨r23,h24,hF⟩:=q00 hF
 refine go ?_
 refine RS.ix h20 ?_
 refine go ?_
 refine RS.ix h22 ?_
 refine go ?_
 refine RS.cl rfl (pC (q9f n l13 x21.Feat r23 h24) _) fn57 ?_
 refine go ?_
 exact lC ⟨r23,(IntKind.i64.wrap (z14+1)),hF,rfl,rfl⟩
 refine go ?_
 exact xC ⟨l13,hF,rfl,rfl⟩
 refine go ?_
 exact xC ⟨l5,hF,rfl,rfl⟩
def q44 (n:Nat) (p1:List q0c) (p2:Int) (p3:Int):Option (Bool) :=
 q05 (q11 p1 p3) fun x4 =>
 q05 (q11 p1 p2) fun x6 =>
 q05 (q6d n x4.Code x6.Code) fun r8 =>
 some r8
theorem q5n (n:Nat) (p1:List q0c) (p2:Int) (p3:Int) (r:Bool) (hF:q44 n p1 p2 p3=some r):EvU Tryz.prog 42 [.isl false (List.map q0e p1),.int .i64 p2,.int .i64 p3] ⟨[],0⟩ (fun u _=>u = .bool r∧Bel 0 u):=by
 unfold q44 at hF
 refine bg3 18 fn42 ?_
 obtain ⟨x4,h5,hF⟩:=q00 hF
 obtain ⟨x6,h7,hF⟩:=q00 hF
 obtain ⟨r8,h9,hF⟩:=q00 hF
 refine go ?_
 refine z48 Tryz.tb_ok [] (by kernel_rfl) ?_
 refine gd ?_
 refine RD.ix h5 ?_
 refine gd ?_
 refine RD.ix h7 ?_
 refine gd ?_
 refine z4a rfl (pC (q9q n x4.Code x6.Code r8 h9)) fn74 ?_
 refine gd ?_
 refine RD.done ⟨by kernel_rfl,trivial,?_⟩
 exact gx hF
def q8t   : Option (Int) :=
 some (-1)
def q47 (p1:List q0c) (p2:List UInt8):Nat→Int→Option (Int)
 | 0,_=>none
 | m1+1,z6 =>
  cond (decide (z6<(p1.length:Int)))
   (q05 (q11 p1 z6) fun x8 =>
   cond (q1l x8.Name p2)
    (some z6)
    ((q47 p1 p2 m1) (IntKind.i64.wrap (z6+1))))
   (q8t)
def q85 (n:Nat) (p1:List q0c) (p2:List UInt8):Option (Int) :=
 q47 p1 p2 n 0
theorem qcw (n:Nat) (p1:List q0c) (p2:List UInt8) (r:Int) (hF:q85 n p1 p2=some r):EvU Tryz.prog 44 [.isl false (List.map q0e p1),.str p2] ⟨[],0⟩ (fun u _=>u = .int .i64 r∧Bel 0 u):=by
 unfold q85 at hF
 refine bg2 20 fn44 ?_
 refine go ?_
 refine gS (l':=[(0,_),(1,_),(5,_)]) ?_
 refine z44 (fun m tm σ=>∃ z6:Int,q47 p1 p2 m z6=some r∧tm=fr 20 [(0,.iM q0e p1),(1,.str p2),(5,.i6 z6)]∧σ=⟨[],0⟩) (fun tm σ=>q8t=some r∧tm=fr 20 []∧σ=⟨[],0⟩) n ⟨0,hF,rfl,rfl⟩ ?_ ?_
 rintro _ _ ⟨hF,rfl,rfl⟩
 unfold q8t at hF
 exact gx hF
 rintro (_|m1) _ _ ⟨z6,hF,rfl,rfl⟩
 cases hF
 unfold q47 at hF
 refine go ?_
 refine cF hF (fun h7 hF=>?_) (fun h7 hF=>?_)
 refine go ?_
 refine WPU.block ?_
 obtain ⟨x8,h9,hF⟩:=q00 hF
 refine go ?_
 refine RS.ix h9 ?_
 refine go ?_
 refine RS.q (u:=.bool (q1l x8.Name p2)) rfl (qea rfl rfl rfl rfl) ?_
 refine go ?_
 refine cF hF (fun h10 hF=>?_) (fun h10 hF=>?_)
 exact gx hF
 refine go ?_
 exact lC ⟨_,hF,rfl,rfl⟩
 refine go ?_
 exact xC ⟨hF,rfl,rfl⟩
def qac   : Option ((List UInt8)×Bool) :=
 some ([],false)
def q4y (p1:q02) (p2:List UInt8):Nat→Int→Option ((List UInt8)×Bool)
 | 0,_=>none
 | m1+1,z8 =>
  cond (decide (z8<(p1.Feats.length:Int)))
   (q05 (q11 p1.Feats z8) fun x10 =>
   cond (q1l x10.Feat p2)
    (q05 (q11 p1.Feats z8) fun x13 =>
    some (x13.Value,true))
    ((q4y p1 p2 m1) (IntKind.i64.wrap (z8+1))))
   (qac)
def qc8 (n:Nat) (p1:q02) (p2:List UInt8):Option ((List UInt8)×Bool) :=
 q4y p1 p2 n 0
theorem qhj (n:Nat) (p1:q02) (p2:List UInt8) (r:(List UInt8)×Bool) (hF:qc8 n p1 p2=some r):EvU Tryz.prog 58 [.agg (q03 p1),.str p2] ⟨[],0⟩ (fun u _=>u = .tup [.str r.1,.bool r.2]∧Bel 0 u):=by
 unfold qc8 at hF
 refine bg2 28 fn58 ?_
 refine go ?_
 refine gS (l':=[(1,_),(2,_),(6,_)]) ?_
 refine z44 (fun m tm σ=>∃ z8:Int,q4y p1 p2 m z8=some r∧tm=fr 28 [(1,.str p2),(2,.ptr 0 0 0),(6,.i6 z8)]∧σ=⟨[(0,.row (q03 p1) 69)],1⟩) (fun tm σ=>qac=some r∧tm=fr 28 []∧σ=⟨[(0,.row (q03 p1) 69)],1⟩) n ⟨0,hF,rfl,rfl⟩ ?_ ?_
 rintro _ _ ⟨hF,rfl,rfl⟩
 unfold qac at hF
 refine go ?_
 obtain rfl:=sI hF
 exact rt2 rfl rfl rfl rfl rfl
 rintro (_|m1) _ _ ⟨z8,hF,rfl,rfl⟩
 cases hF
 unfold q4y at hF
 refine go ?_
 refine cF hF (fun h9 hF=>?_) (fun h9 hF=>?_)
 refine go ?_
 refine WPU.block ?_
 obtain ⟨x10,h11,hF⟩:=q00 hF
 refine go ?_
 refine RS.ix h11 ?_
 refine go ?_
 refine RS.q (u:=.bool (q1l x10.Feat p2)) rfl (qea rfl rfl rfl rfl) ?_
 refine go ?_
 refine cF hF (fun h12 hF=>?_) (fun h12 hF=>?_)
 obtain ⟨x13,h14,hF⟩:=q00 hF
 refine go ?_
 refine RS.ix h14 ?_
 refine go ?_
 obtain rfl:=sI hF
 exact rt2 rfl rfl rfl rfl rfl
 refine go ?_
 exact lC ⟨_,hF,rfl,rfl⟩
 refine go ?_
 exact xC ⟨hF,rfl,rfl⟩
def q65  (b17:Bool) (l18:List Int):Option ((List Int)×Bool) :=
 some (l18,b17)
def q22 (p1:List q02) (p2:List q0c) (p3:Int) (p4:List UInt8) (n:Nat):Nat→Bool→(List Int)→Int→Option ((List Int)×Bool)
 | 0,_,_,_=>none
 | m1+1,b14,l15,z16 =>
  cond (decide (z16<(p1.length:Int)))
   (q05 (q11 p1 z16) fun x20 =>
   q05 (qc8 n x20 p4) fun r22 =>
   q05 (cond (!r22.2)
    (some true)
    (q05 (q11 p1 z16) fun x25 =>
    q05 (q85 n p2 x25.Name) fun r27 =>
    q05 (q44 n p2 r27 p3) fun r29 =>
    some (!r29))) fun b31 =>
   cond b31
    ((q22 p1 p2 p3 p4 n m1) b14 l15 (IntKind.i64.wrap (z16+1)))
    (q05 (q85 n p2 r22.1) fun r34 =>
    q05 (q11 p2 r34) fun x36 =>
    q05 (qc0 n l15 x36.Code) fun r38 =>
    (q22 p1 p2 p3 p4 n m1) true r38 (IntKind.i64.wrap (z16+1))))
   (q65 b14 l15)
def q59 (n:Nat) (p1:List q02) (p2:List q0c) (p3:Int) (p4:List UInt8):Option ((List Int)×Bool) :=
 q05 (q11 p2 0) fun x5 =>
 q22 p1 p2 p3 p4 n n false x5.Code 0
theorem qda (n:Nat) (p1:List q02) (p2:List q0c) (p3:Int) (p4:List UInt8) (r:(List Int)×Bool) (hF:q59 n p1 p2 p3 p4=some r):EvU Tryz.prog 34 [.isl false (List.map q03 p1),.isl false (List.map q0e p2),.int .i64 p3,.str p4] ⟨[],0⟩ (fun u _=>u = .tup [.isl false (List.map (cI .u64) r.1),.bool r.2]∧Bel 0 u):=by
 unfold q59 at hF
 refine bg4 60 fn34 ?_
 obtain ⟨x5,h6,hF⟩:=q00 hF
 refine go ?_
 refine RS.ix h6 ?_
 refine go ?_
 refine gS (l':=[(0,_),(1,_),(2,_),(3,_),(10,_),(11,_),(12,_)]) ?_
 refine z44 (fun m tm σ=>∃ b14:Bool,∃ l15:List Int,∃ z16:Int,q22 p1 p2 p3 p4 n m b14 l15 z16=some r∧tm=fr 60 [(0,.iM q03 p1),(1,.iM q0e p2),(2,.i6 p3),(3,.str p4),(10,.bool b14),(11,.iM (cI .u64) l15),(12,.i6 z16)]∧σ=⟨[],0⟩) (fun tm σ=>∃ b17:Bool,∃ l18:List Int,q65 b17 l18=some r∧tm=fr 60 [(10,.bool b17),(11,.iM (cI .u64) l18)]∧σ=⟨[],0⟩) n ⟨false,x5.Code,0,hF,rfl,rfl⟩ ?_ ?_
 rintro _ _ ⟨b17,l18,hF,rfl,rfl⟩
 unfold q65 at hF
 refine go ?_
 obtain rfl:=sI hF
 exact rt2 rfl rfl rfl rfl rfl
 rintro (_|m1) _ _ ⟨b14,l15,z16,hF,rfl,rfl⟩
 cases hF
 unfold q22 at hF
 refine go ?_
 refine cF hF (fun h19 hF=>?_) (fun h19 hF=>?_)
 refine go ?_
 refine WPU.block ?_
 obtain ⟨x20,h21,hF⟩:=q00 hF
 obtain ⟨r22,h23,hF⟩:=q00 hF
 refine go ?_
 refine RS.ix h21 ?_
 refine go ?_
 refine RS.cl rfl (pC (qhj n x20 p4 r22 h23) _) fn58 ?_
 obtain ⟨b31,h32,hF⟩:=q00 hF
 refine gn ?_
 refine z47 (fun tm σ=>tm=fr 60 [(0,.iM q03 p1),(1,.iM q0e p2),(2,.i6 p3),(3,.str p4),(10,.bool b14),(11,.iM (cI .u64) l15),(12,.i6 z16),(13,.str r22.1),(48,.bool b31)]∧σ=⟨[],0⟩) ?_ ?_
 rintro _ _ ⟨rfl,rfl⟩
 refine go ?_
 refine cF hF (fun h33 hF=>?_) (fun h33 hF=>?_)
 refine go ?_
 exact lC ⟨b14,l15,(IntKind.i64.wrap (z16+1)),hF,rfl,rfl⟩
 obtain ⟨r34,h35,hF⟩:=q00 hF
 obtain ⟨x36,h37,hF⟩:=q00 hF
 obtain ⟨r38,h39,hF⟩:=q00 hF
 refine go ?_
 refine RS.cl rfl (pC (qcw n p2 r22.1 r34 h35) _) fn44 ?_
 refine RS.ix h37 ?_
 refine go ?_
 refine RS.cl rfl (pC (ql8 n l15 x36.Code r38 h39) _) fn59 ?_
 refine go ?_
 exact lC ⟨true,r38,(IntKind.i64.wrap (z16+1)),hF,rfl,rfl⟩
 rcases gB h32 with ⟨h24,h32⟩ | ⟨h24,h32⟩
 exact gy h32
 obtain ⟨x25,h26,h32⟩:=q00 h32
 obtain ⟨r27,h28,h32⟩:=q00 h32
 obtain ⟨r29,h30,h32⟩:=q00 h32
 obtain rfl:=sI h32
 refine go ?_
 refine RS.ix h26 ?_
 refine go ?_
 refine RS.cl rfl (pC (qcw n p2 x25.Name r27 h28) _) fn44 ?_
 refine go ?_
 refine RS.cl rfl (pC (q5n n p2 r27 p3 r29 h30) _) fn42 ?_
 refine go ?_
 exact xC ⟨rfl,rfl⟩
 refine go ?_
 exact xC ⟨b14,l15,hF,rfl,rfl⟩
def q7j (z8:Int) (rc1:(List (List UInt8))→Int→Option ((List UInt8)×Bool)) (l21:List (List UInt8)):Option ((List UInt8)×Bool) :=
 rc1 l21 (IntKind.i64.wrap (z8+1))
def qab (p1:List q02) (n:Nat) (l9:List (List UInt8)):Option ((List UInt8)×Bool) :=
 q05 (q6v n p1 l9) fun r10 =>
 cond ((r10.length:Int) != 1)
  (some ([],false))
  (q05 (q11 r10 0) fun x13 =>
  some (x13,true))
def q3b (p1:List q02) (p2:List UInt8) (n:Nat):Nat→(List (List UInt8))→Int→Option ((List UInt8)×Bool)
 | 0,_,_=>none
 | m1+1,l7,z8 =>
  cond (decide (z8<(p1.length:Int)))
   (q05 (q11 p1 z8) fun x16 =>
   q05 (qc8 n x16 p2) fun r18 =>
   cond r18.2
    (q05 (q11 p1 z8) fun x22 =>
    q05 (q8h n l7 x22.Name) fun r24 =>
    q7j z8 (q3b p1 p2 n m1) r24)
    (q7j z8 (q3b p1 p2 n m1) l7))
   (qab p1 n l7)
def qc7 (n:Nat) (p1:List q02) (p2:List UInt8):Option ((List UInt8)×Bool) :=
 q3b p1 p2 n n [] 0
theorem qhi (n:Nat) (p1:List q02) (p2:List UInt8) (r:(List UInt8)×Bool) (hF:qc7 n p1 p2=some r):EvU Tryz.prog 43 [.isl false (List.map q03 p1),.str p2] ⟨[],0⟩ (fun u _=>u = .tup [.str r.1,.bool r.2]∧Bel 0 u):=by
 unfold qc7 at hF
 refine bg2 43 fn43 ?_
 refine gr ?_
 refine gr ?_
 refine gr ?_
 refine WPU.ghost (tm':=fr 43 [(0,.iM q03 p1),(1,.str p2),(6,.iM cS []),(7,.i6 0)]) (Gh.trans (Gh.sub (l':=[(0,.iM q03 p1),(1,.str p2),(6,.nils),(7,.i6 0)]) ⟨rfl,rfl,rfl,rfl,trivial⟩) (Gh.wkS (l':=[(0,.iM q03 p1),(1,.str p2),(6,.iM cS []),(7,.i6 0)]) (.cons (.refl _) (.cons (.refl _) (.cons (.nil false) (.cons (.refl _) .nil)))))) NZ ?_
 refine gS (l':=[(0,_),(1,_),(6,_),(7,_)]) ?_
 refine z44 (fun m tm σ=>∃ l7:List (List UInt8),∃ z8:Int,q3b p1 p2 n m l7 z8=some r∧tm=fr 43 [(0,.iM q03 p1),(1,.str p2),(6,.iM cS l7),(7,.i6 z8)]∧σ=⟨[],0⟩) (fun tm σ=>∃ l9:List (List UInt8),qab p1 n l9=some r∧tm=fr 43 [(0,.iM q03 p1),(6,.iM cS l9)]∧σ=⟨[],0⟩) n ⟨[],0,hF,rfl,rfl⟩ ?_ ?_
 rintro _ _ ⟨l9,hF,rfl,rfl⟩
 unfold qab at hF
 obtain ⟨r10,h11,hF⟩:=q00 hF
 refine go ?_
 refine RS.cl rfl (pC (qev n p1 l9 r10 h11) _) fn72 ?_
 refine go ?_
 refine cF hF (fun h12 hF=>?_) (fun h12 hF=>?_)
 refine go ?_
 obtain rfl:=sI hF
 exact rt2 rfl rfl rfl rfl rfl
 obtain ⟨x13,h14,hF⟩:=q00 hF
 refine go ?_
 refine RS.ix h14 ?_
 refine go ?_
 obtain rfl:=sI hF
 exact rt2 rfl rfl rfl rfl rfl
 rintro (_|m1) _ _ ⟨l7,z8,hF,rfl,rfl⟩
 cases hF
 unfold q3b at hF
 refine go ?_
 refine cF hF (fun h15 hF=>?_) (fun h15 hF=>?_)
 refine go ?_
 refine WPU.block ?_
 obtain ⟨x16,h17,hF⟩:=q00 hF
 obtain ⟨r18,h19,hF⟩:=q00 hF
 refine go ?_
 refine RS.ix h17 ?_
 refine go ?_
 refine RS.cl rfl (pC (qhj n x16 p2 r18 h19) _) fn58 ?_
 refine gr ?_
 refine z47 (fun tm σ=>∃ l21:List (List UInt8),q7j z8 (q3b p1 p2 n m1) l21=some r∧tm=fr 43 [(0,.iM q03 p1),(1,.str p2),(6,.iM cS l21),(7,.i6 z8)]∧σ=⟨[],0⟩) ?_ ?_
 rintro _ _ ⟨l21,hF,rfl,rfl⟩
 unfold q7j at hF
 refine go ?_
 exact lC ⟨l21,(IntKind.i64.wrap (z8+1)),hF,rfl,rfl⟩
 refine cF hF (fun h20 hF=>?_) (fun h20 hF=>?_)
 obtain ⟨x22,h23,hF⟩:=q00 hF
 obtain ⟨r24,h25,hF⟩:=q00 hF
 refine go ?_
 refine RS.ix h23 ?_
 refine go ?_
 refine RS.cl rfl (pC (q9f n l7 x22.Name r24 h25) _) fn57 ?_
 refine go ?_
 exact xC ⟨r24,hF,rfl,rfl⟩
 refine go ?_
 exact xC ⟨l7,hF,rfl,rfl⟩
 refine go ?_
 exact xC ⟨l7,hF,rfl,rfl⟩
def q5e (n:Nat) (p1:List UInt8):Option (Bool) :=
 q05 (q9b n p1 true) fun r2 =>
 some r2
theorem ql7 (n:Nat) (p1:List UInt8) (r:Bool) (hF:q5e n p1=some r):EvU Tryz.prog 81 [.str p1] ⟨[],0⟩ (fun u _=>u = .bool r∧Bel 0 u):=by
 unfold q5e at hF
 refine bg1 5 fn81 ?_
 obtain ⟨r2,h3,hF⟩:=q00 hF
 refine go ?_
 refine RS.cl rfl (pC (qhd n p1 true r2 h3) _) fn93 ?_
 exact gx hF
def q4l (n:Nat) (r2:(List (List UInt8))) (x9:q02) (z16:Int) (rc2:Int→Option (Int))  : Option (Int) :=
 q05 (q11 x9.Feats z16) fun x30 =>
 q05 (q3j n r2 x30.Value) fun r32 =>
 cond (!r32)
  (some 5)
  (rc2 (IntKind.i64.wrap (z16+1)))
def q2e (n:Nat) (r2:(List (List UInt8))) (x9:q02) (z16:Int) (rc2:Int→Option (Int)):Nat→Int→Option (Int)
 | 0,_=>none
 | m3+1,z29 =>
  cond (decide (z29<z16))
   (q05 (q11 x9.Feats z29) fun x36 =>
   q05 (q11 x9.Feats z16) fun x38 =>
   cond (q1l x36.Feat x38.Feat)
    (some 4)
    ((q2e n r2 x9 z16 rc2 m3) (IntKind.i64.wrap (z29+1))))
   (q4l n r2 x9 z16 rc2)
def q4k (z7:Int) (rc1:Int→Option (Int))  : Option (Int) :=
 rc1 (IntKind.i64.wrap (z7+1))
def q0t (n:Nat) (r2:(List (List UInt8))) (z7:Int) (rc1:Int→Option (Int)) (x9:q02):Nat→Int→Option (Int)
 | 0,_=>none
 | m2+1,z16 =>
  cond (decide (z16<(x9.Feats.length:Int)))
   (q05 (q11 x9.Feats z16) fun x18 =>
   q05 (q5e n x18.Feat) fun r20 =>
   cond (!r20)
    (some 1)
    (q2e n r2 x9 z16 (q0t n r2 z7 rc1 x9 m2) n 0))
   (q4k z7 rc1)
def q4j   : Option (Int) :=
 some 0
def q0h (p1:List q02) (n:Nat) (r2:(List (List UInt8))):Nat→Int→Option (Int)
 | 0,_=>none
 | m1+1,z7 =>
  cond (decide (z7<(p1.length:Int)))
   (q05 (q11 p1 z7) fun x9 =>
   q0t n r2 z7 (q0h p1 n r2 m1) x9 n 0)
   (q4j)
def q4i (n:Nat) (p1:List q02):Option (Int) :=
 q05 (qc5 n p1) fun r2 =>
 q0h p1 n r2 n 0
theorem qfp (n:Nat) (p1:List q02) (r:Int) (hF:q4i n p1=some r):EvU Tryz.prog 56 [.isl false (List.map q03 p1)] ⟨[],0⟩ (fun u _=>u = .int .i64 r∧Bel 0 u):=by
 unfold q4i at hF
 refine bg1 58 fn56 ?_
 obtain ⟨r2,h3,hF⟩:=q00 hF
 refine go ?_
 refine RS.cl rfl (pC (qhg n p1 r2 h3) _) fn37 ?_
 refine go ?_
 refine gS (l':=[(0,_),(3,_),(4,_)]) ?_
 refine z44 (fun m tm σ=>∃ z7:Int,q0h p1 n r2 m z7=some r∧tm=fr 58 [(0,.iM q03 p1),(3,.iM cS r2),(4,.i6 z7)]∧σ=⟨[],0⟩) (fun tm σ=>q4j=some r∧tm=fr 58 []∧σ=⟨[],0⟩) n ⟨0,hF,rfl,rfl⟩ ?_ ?_
 rintro _ _ ⟨hF,rfl,rfl⟩
 unfold q4j at hF
 exact gx hF
 rintro (_|m1) _ _ ⟨z7,hF,rfl,rfl⟩
 cases hF
 unfold q0h at hF
 refine go ?_
 refine cF hF (fun h8 hF=>?_) (fun h8 hF=>?_)
 refine go ?_
 refine WPU.block ?_
 obtain ⟨x9,h10,hF⟩:=q00 hF
 refine go ?_
 refine RS.ix h10 ?_
 refine go ?_
 refine gS (l':=[(0,_),(3,_),(4,_),(5,_),(6,_)]) ?_
 refine z44 (fun m tm σ=>∃ z16:Int,q0t n r2 z7 (q0h p1 n r2 m1) x9 m z16=some r∧tm=fr 58 [(0,.iM q03 p1),(3,.iM cS r2),(4,.i6 z7),(5,.iM q0f x9.Feats),(6,.i6 z16)]∧σ=⟨[],0⟩) (fun tm σ=>q4k z7 (q0h p1 n r2 m1)=some r∧tm=fr 58 [(0,.iM q03 p1),(3,.iM cS r2),(4,.i6 z7)]∧σ=⟨[],0⟩) n ⟨0,hF,rfl,rfl⟩ ?_ ?_
 rintro _ _ ⟨hF,rfl,rfl⟩
 unfold q4k at hF
 refine go ?_
 exact lC ⟨_,hF,rfl,rfl⟩
 rintro (_|m2) _ _ ⟨z16,hF,rfl,rfl⟩
 cases hF
 unfold q0t at hF
 refine go ?_
 refine cF hF (fun h17 hF=>?_) (fun h17 hF=>?_)
 refine go ?_
 refine WPU.block ?_
 obtain ⟨x18,h19,hF⟩:=q00 hF
 obtain ⟨r20,h21,hF⟩:=q00 hF
 refine go ?_
 refine RS.ix h19 ?_
 refine go ?_
 refine RS.cl rfl (pC (ql7 n x18.Feat r20 h21) _) fn81 ?_
 refine go ?_
 refine cF hF (fun h22 hF=>?_) (fun h22 hF=>?_)
 exact gx hF
 refine go ?_
 refine gS (l':=[(0,_),(3,_),(4,_),(5,_),(6,_),(7,_)]) ?_
 refine z44 (fun m tm σ=>∃ z29:Int,q2e n r2 x9 z16 (q0t n r2 z7 (q0h p1 n r2 m1) x9 m2) m z29=some r∧tm=fr 58 [(0,.iM q03 p1),(3,.iM cS r2),(4,.i6 z7),(5,.iM q0f x9.Feats),(6,.i6 z16),(7,.i6 z29)]∧σ=⟨[],0⟩) (fun tm σ=>q4l n r2 x9 z16 (q0t n r2 z7 (q0h p1 n r2 m1) x9 m2)=some r∧tm=fr 58 [(0,.iM q03 p1),(3,.iM cS r2),(4,.i6 z7),(5,.iM q0f x9.Feats),(6,.i6 z16)]∧σ=⟨[],0⟩) n ⟨0,hF,rfl,rfl⟩ ?_ ?_
 rintro _ _ ⟨hF,rfl,rfl⟩
 unfold q4l at hF
 obtain ⟨x30,h31,hF⟩:=q00 hF
 obtain ⟨r32,h33,hF⟩:=q00 hF
 refine go ?_
 refine RS.ix h31 ?_
 refine go ?_
 refine RS.cl rfl (pC (q2p n r2 x30.Value r32 h33) _) fn67 ?_
 refine go ?_
 refine cF hF (fun h34 hF=>?_) (fun h34 hF=>?_)
 exact gx hF
 refine go ?_
 exact lC ⟨_,hF,rfl,rfl⟩
 rintro (_|m3) _ _ ⟨z29,hF,rfl,rfl⟩
 cases hF
 unfold q2e at hF
 refine go ?_
 refine cF hF (fun h35 hF=>?_) (fun h35 hF=>?_)
 refine go ?_
 refine WPU.block ?_
 obtain ⟨x36,h37,hF⟩:=q00 hF
 obtain ⟨x38,h39,hF⟩:=q00 hF
 refine go ?_
 refine z48 Tryz.tb_ok [] (by kernel_rfl) ?_
 refine gd ?_
 refine RD.ix h37 ?_
 refine gd ?_
 refine RD.ix h39 ?_
 refine gd ?_
 refine RD.q (u:=.bool (q1l x36.Feat x38.Feat)) rfl (qea rfl rfl rfl rfl) ?_
 refine RD.done ⟨by kernel_rfl,trivial,?_⟩
 refine go ?_
 refine cF hF (fun h40 hF=>?_) (fun h40 hF=>?_)
 exact gx hF
 refine go ?_
 exact lC ⟨_,hF,rfl,rfl⟩
 refine go ?_
 exact xC ⟨hF,rfl,rfl⟩
 refine go ?_
 exact xC ⟨hF,rfl,rfl⟩
 refine go ?_
 exact xC ⟨hF,rfl,rfl⟩
def qa8 (z20:Int) (rc2:Int→Option (Int))  : Option (Int) :=
 rc2 (IntKind.i64.wrap (z20+1))
def q4w (p1:List q02) (n:Nat) (r2:(List q0c)×Int) (r5:(List (List UInt8))) (z20:Int) (rc2:Int→Option (Int)):Nat→Int→Option (Int)
 | 0,_=>none
 | m3+1,z27 =>
  cond (decide (z27<(r5.length:Int)))
   (q05 (q11 r5 z27) fun x29 =>
   q05 (q59 n p1 r2.1 z20 x29) fun r31 =>
   q05 (cond r31.2
    (some ((r31.1.length:Int) == 0))
    (some false)) fun b34 =>
   cond b34
    (some 11)
    ((q4w p1 n r2 r5 z20 rc2 m3) (IntKind.i64.wrap (z27+1))))
   (qa8 z20 rc2)
def qa7   : Option (Int) :=
 some 0
def q2j (p1:List q02) (n:Nat) (r2:(List q0c)×Int) (r5:(List (List UInt8))):Nat→Int→Option (Int)
 | 0,_=>none
 | m2+1,z20 =>
  cond (decide (z20<(r2.1.length:Int)))
   (q4w p1 n r2 r5 z20 (q2j p1 n r2 r5 m2) n 0)
   (qa7)
def qa6 (p1:List q02) (n:Nat) (r2:(List q0c)×Int) (r5:(List (List UInt8)))  : Option (Int) :=
 q2j p1 n r2 r5 n 0
def q4v (p1:List q02) (n:Nat) (r2:(List q0c)×Int) (r5:(List (List UInt8))):Nat→Int→Option (Int)
 | 0,_=>none
 | m1+1,z15 =>
  cond (decide (z15<(r5.length:Int)))
   (q05 (q11 r5 z15) fun x38 =>
   q05 (qc7 n p1 x38) fun r40 =>
   cond (!r40.2)
    (some 10)
    ((q4v p1 n r2 r5 m1) (IntKind.i64.wrap (z15+1))))
   (qa6 p1 n r2 r5)
def q6k (n:Nat) (p1:List q02):Option (Int) :=
 q05 (q5g n p1) fun r2 =>
 cond (r2.2 != 0)
  (some r2.2)
  (q05 (q7w n p1) fun r5 =>
  cond (decide ((r5.length:Int) > 64))
   (some 7)
   (q05 (q4i n p1) fun r8 =>
   cond (r8 != 0)
    (some r8)
    (q4v p1 n r2 r5 n 0)))
theorem qhh (n:Nat) (p1:List q02) (r:Int) (hF:q6k n p1=some r):EvU Tryz.prog 32 [.isl false (List.map q03 p1)] ⟨[],0⟩ (fun u _=>u = .int .i64 r∧Bel 0 u):=by
 unfold q6k at hF
 refine bg1 78 fn32 ?_
 obtain ⟨r2,h3,hF⟩:=q00 hF
 refine go ?_
 refine RS.cl rfl (pC (qbe n p1 r2 h3) _) fn20 ?_
 refine go ?_
 refine cF hF (fun h4 hF=>?_) (fun h4 hF=>?_)
 exact gx hF
 obtain ⟨r5,h6,hF⟩:=q00 hF
 refine go ?_
 refine RS.cl rfl (pC (qe0 n p1 r5 h6) _) fn33 ?_
 refine go ?_
 refine cF hF (fun h7 hF=>?_) (fun h7 hF=>?_)
 exact gx hF
 obtain ⟨r8,h9,hF⟩:=q00 hF
 refine go ?_
 refine RS.cl rfl (pC (qfp n p1 r8 h9) _) fn56 ?_
 refine go ?_
 refine cF hF (fun h10 hF=>?_) (fun h10 hF=>?_)
 exact gx hF
 refine go ?_
 refine gS (l':=[(0,_),(3,_),(5,_),(7,_)]) ?_
 refine z44 (fun m tm σ=>∃ z15:Int,q4v p1 n r2 r5 m z15=some r∧tm=fr 78 [(0,.iM q03 p1),(3,.iM q0e r2.1),(5,.iM cS r5),(7,.i6 z15)]∧σ=⟨[],0⟩) (fun tm σ=>qa6 p1 n r2 r5=some r∧tm=fr 78 [(0,.iM q03 p1),(3,.iM q0e r2.1),(5,.iM cS r5)]∧σ=⟨[],0⟩) n ⟨0,hF,rfl,rfl⟩ ?_ ?_
 rintro _ _ ⟨hF,rfl,rfl⟩
 unfold qa6 at hF
 refine go ?_
 refine gS (l':=[(0,_),(3,_),(5,_),(10,_)]) ?_
 refine z44 (fun m tm σ=>∃ z20:Int,q2j p1 n r2 r5 m z20=some r∧tm=fr 78 [(0,.iM q03 p1),(3,.iM q0e r2.1),(5,.iM cS r5),(10,.i6 z20)]∧σ=⟨[],0⟩) (fun tm σ=>qa7=some r∧tm=fr 78 []∧σ=⟨[],0⟩) n ⟨0,hF,rfl,rfl⟩ ?_ ?_
 rintro _ _ ⟨hF,rfl,rfl⟩
 unfold qa7 at hF
 exact gx hF
 rintro (_|m2) _ _ ⟨z20,hF,rfl,rfl⟩
 cases hF
 unfold q2j at hF
 refine go ?_
 refine cF hF (fun h21 hF=>?_) (fun h21 hF=>?_)
 refine go ?_
 refine WPU.block ?_
 refine go ?_
 refine gS (l':=[(0,_),(3,_),(5,_),(10,_),(11,_)]) ?_
 refine z44 (fun m tm σ=>∃ z27:Int,q4w p1 n r2 r5 z20 (q2j p1 n r2 r5 m2) m z27=some r∧tm=fr 78 [(0,.iM q03 p1),(3,.iM q0e r2.1),(5,.iM cS r5),(10,.i6 z20),(11,.i6 z27)]∧σ=⟨[],0⟩) (fun tm σ=>qa8 z20 (q2j p1 n r2 r5 m2)=some r∧tm=fr 78 [(0,.iM q03 p1),(3,.iM q0e r2.1),(5,.iM cS r5),(10,.i6 z20)]∧σ=⟨[],0⟩) n ⟨0,hF,rfl,rfl⟩ ?_ ?_
 rintro _ _ ⟨hF,rfl,rfl⟩
 unfold qa8 at hF
 refine go ?_
 exact lC ⟨_,hF,rfl,rfl⟩
 rintro (_|m3) _ _ ⟨z27,hF,rfl,rfl⟩
 cases hF
 unfold q4w at hF
 refine go ?_
 refine cF hF (fun h28 hF=>?_) (fun h28 hF=>?_)
 refine go ?_
 refine WPU.block ?_
 obtain ⟨x29,h30,hF⟩:=q00 hF
 obtain ⟨r31,h32,hF⟩:=q00 hF
 refine go ?_
 refine RS.ix h30 ?_
 refine go ?_
 refine RS.cl rfl (pC (qda n p1 r2.1 z20 x29 r31 h32) _) fn34 ?_
 obtain ⟨b34,h35,hF⟩:=q00 hF
 refine gn ?_
 refine z47 (fun tm σ=>tm=fr 78 [(0,.iM q03 p1),(3,.iM q0e r2.1),(5,.iM cS r5),(10,.i6 z20),(11,.i6 z27),(77,.bool b34)]∧σ=⟨[],0⟩) ?_ ?_
 rintro _ _ ⟨rfl,rfl⟩
 refine go ?_
 refine cF hF (fun h36 hF=>?_) (fun h36 hF=>?_)
 exact gx hF
 refine go ?_
 exact lC ⟨_,hF,rfl,rfl⟩
 rcases gB h35 with ⟨h33,h35⟩ | ⟨h33,h35⟩
 exact gy h35
 exact gy h35
 refine go ?_
 exact xC ⟨hF,rfl,rfl⟩
 refine go ?_
 exact xC ⟨hF,rfl,rfl⟩
 rintro (_|m1) _ _ ⟨z15,hF,rfl,rfl⟩
 cases hF
 unfold q4v at hF
 refine go ?_
 refine cF hF (fun h37 hF=>?_) (fun h37 hF=>?_)
 refine go ?_
 refine WPU.block ?_
 obtain ⟨x38,h39,hF⟩:=q00 hF
 obtain ⟨r40,h41,hF⟩:=q00 hF
 refine go ?_
 refine RS.ix h39 ?_
 refine go ?_
 refine RS.cl rfl (pC (qhi n p1 x38 r40 h41) _) fn43 ?_
 refine go ?_
 refine cF hF (fun h42 hF=>?_) (fun h42 hF=>?_)
 exact gx hF
 refine go ?_
 exact lC ⟨_,hF,rfl,rfl⟩
 refine go ?_
 exact xC ⟨hF,rfl,rfl⟩
def qbf   : Option (Int) :=
 some (-1)
def q5h (p1:List q0c) (n:Nat) (r3:(List Int)):Nat→Int→Option (Int)
 | 0,_=>none
 | m1+1,z8 =>
  cond (decide (z8<(p1.length:Int)))
   (q05 (q11 p1 z8) fun x10 =>
   q05 (q81 n x10.Code r3) fun r12 =>
   cond r12
    (some z8)
    ((q5h p1 n r3 m1) (IntKind.i64.wrap (z8+1))))
   (qbf)
def qd7 (n:Nat) (p1:List q0c) (p2:List Int):Option (Int) :=
 q05 (q41 n p2) fun r3 =>
 q5h p1 n r3 n 0
theorem qq3 (n:Nat) (p1:List q0c) (p2:List Int) (r:Int) (hF:qd7 n p1 p2=some r):EvU Tryz.prog 35 [.isl false (List.map q0e p1),.isl false (List.map (cI .u64) p2)] ⟨[],0⟩ (fun u _=>u = .int .i64 r∧Bel 0 u):=by
 unfold qd7 at hF
 refine bg2 23 fn35 ?_
 obtain ⟨r3,h4,hF⟩:=q00 hF
 refine go ?_
 refine RS.cl rfl (pC (q9p n p2 r3 h4) _) fn60 ?_
 refine go ?_
 refine gS (l':=[(0,_),(5,_),(6,_)]) ?_
 refine z44 (fun m tm σ=>∃ z8:Int,q5h p1 n r3 m z8=some r∧tm=fr 23 [(0,.iM q0e p1),(5,.iM (cI .u64) r3),(6,.i6 z8)]∧σ=⟨[],0⟩) (fun tm σ=>qbf=some r∧tm=fr 23 []∧σ=⟨[],0⟩) n ⟨0,hF,rfl,rfl⟩ ?_ ?_
 rintro _ _ ⟨hF,rfl,rfl⟩
 unfold qbf at hF
 exact gx hF
 rintro (_|m1) _ _ ⟨z8,hF,rfl,rfl⟩
 cases hF
 unfold q5h at hF
 refine go ?_
 refine cF hF (fun h9 hF=>?_) (fun h9 hF=>?_)
 refine go ?_
 refine WPU.block ?_
 obtain ⟨x10,h11,hF⟩:=q00 hF
 obtain ⟨r12,h13,hF⟩:=q00 hF
 refine go ?_
 refine RS.ix h11 ?_
 refine go ?_
 refine RS.cl rfl (pC (qj1 n x10.Code r3 r12 h13) _) fn61 ?_
 refine go ?_
 refine cF hF (fun h14 hF=>?_) (fun h14 hF=>?_)
 exact gx hF
 refine go ?_
 exact lC ⟨_,hF,rfl,rfl⟩
 refine go ?_
 exact xC ⟨hF,rfl,rfl⟩
def q6l (z30:Int) (rc2:Int→(List q14)→Option ((List (List q14))×Int)) (l42:List q14):Option ((List (List q14))×Int) :=
 rc2 (IntKind.i64.wrap (z30+1)) l42
def q8s (z15:Int) (l16:List (List q14)) (rc1:Int→(List (List q14))→Option ((List (List q14))×Int)) (l33:List q14):Option ((List (List q14))×Int) :=
 q1m ((l16.length+1)*24≤140737488355328∧l16.length+1≤140737488355328) (
 rc1 (IntKind.i64.wrap (z15+1)) (l16++[l33]))
def q2q (p1:List q02) (n:Nat) (r5:(List q0c)×Int) (r7:(List (List UInt8))) (z15:Int) (l16:List (List q14)) (rc1:Int→(List (List q14))→Option ((List (List q14))×Int)):Nat→Int→(List q14)→Option ((List (List q14))×Int)
 | 0,_,_=>none
 | m2+1,z30,l31 =>
  cond (decide (z30<(r7.length:Int)))
   (q05 (q11 r7 z30) fun x37 =>
   q05 (q59 n p1 r5.1 z15 x37) fun r39 =>
   cond r39.2
    (q05 (qd7 n r5.1 r39.1) fun r44 =>
    q1m ((l31.length+1)*16≤140737488355328∧l31.length+1≤140737488355328) (
    q6l z30 (q2q p1 n r5 r7 z15 l16 rc1 m2) (l31++[(q14.mk z30 r44)])))
    (q6l z30 (q2q p1 n r5 r7 z15 l16 rc1 m2) l31))
   (q8s z15 l16 rc1 l31)
def q8r  (l18:List (List q14)):Option ((List (List q14))×Int) :=
 some (l18,0)
def q1s (p1:List q02) (n:Nat) (r5:(List q0c)×Int) (r7:(List (List UInt8))):Nat→Int→(List (List q14))→Option ((List (List q14))×Int)
 | 0,_,_=>none
 | m1+1,z15,l16 =>
  cond (decide (z15<(r5.1.length:Int)))
   (q2q p1 n r5 r7 z15 l16 (q1s p1 n r5 r7 m1) n 0 ([]:List q14))
   (q8r l16)
def q84 (n:Nat) (p1:List q02):Option ((List (List q14))×Int) :=
 q05 (q6k n p1) fun r2 =>
 cond (r2 != 0)
  (some ([],r2))
  (q05 (q5g n p1) fun r5 =>
  q05 (q7w n p1) fun r7 =>
  q1s p1 n r5 r7 n 0 ([]:List (List q14)))
theorem qm5 (n:Nat) (p1:List q02) (r:(List (List q14))×Int) (hF:q84 n p1=some r):EvU Tryz.prog 19 [.isl false (List.map q03 p1)] ⟨[],0⟩ (fun u _=>u = .tup [.isl false (List.map (cL q2a) r.1),.int .i64 r.2]∧Bel 0 u):=by
 unfold q84 at hF
 refine bg1 63 fn19 ?_
 obtain ⟨r2,h3,hF⟩:=q00 hF
 refine go ?_
 refine RS.cl rfl (pC (qhh n p1 r2 h3) _) fn32 ?_
 refine go ?_
 refine cF hF (fun h4 hF=>?_) (fun h4 hF=>?_)
 refine go ?_
 obtain rfl:=sI hF
 exact rT (us:=[.nils,.i6 r2]) (u:=.tup [.isl false [],.i6 r2]) (q4e rfl (q4e rfl (q3x))) wR
 obtain ⟨r5,h6,hF⟩:=q00 hF
 refine go ?_
 refine RS.cl rfl (pC (qbe n p1 r5 h6) _) fn20 ?_
 obtain ⟨r7,h8,hF⟩:=q00 hF
 refine go ?_
 refine RS.cl rfl (pC (qe0 n p1 r7 h8) _) fn33 ?_
 refine gr ?_
 refine gr ?_
 refine WPU.ghost (tm':=fr 63 [(0,.iM q03 p1),(5,.iM q0e r5.1),(7,.iM cS r7),(8,.vl 0 0 0 (([]:List (List q14)).length)),(9,.i6 0)]) (σ':=⟨[(0,.vec (List.map (cL q2a) ([]:List (List q14))).flatten 61 1 0)],1⟩) (Gh.trans (z4g 8 61 1 (by decide) NZ rfl rfl) (z4e ⟨rfl,rfl,rfl,rfl,rfl,trivial⟩ rfl)) NZ ?_
 refine gS (l':=[(0,_),(5,_),(7,_),(8,_),(9,_)]) ?_
 refine z44 (fun m tm σ=>∃ z15:Int,∃ l16:List (List q14),∃ t17:Nat,q1s p1 n r5 r7 m z15 l16=some r∧tm=fr 63 [(0,.iM q03 p1),(5,.iM q0e r5.1),(7,.iM cS r7),(8,.vl 0 t17 0 l16.length),(9,.i6 z15)]∧σ=⟨[(0,.vec (List.map (cL q2a) l16).flatten 61 1 t17)],1⟩) (fun tm σ=>∃ l18:List (List q14),∃ t19:Nat,q8r l18=some r∧tm=fr 63 [(8,.vl 0 t19 0 l18.length)]∧σ=⟨[(0,.vec (List.map (cL q2a) l18).flatten 61 1 t19)],1⟩) n ⟨0,([]:List (List q14)),0,hF,rfl,rfl⟩ ?_ ?_
 rintro _ _ ⟨l18,t19,hF,rfl,rfl⟩
 unfold q8r at hF
 refine go ?_
 obtain rfl:=sI hF
 exact rT (us:=[.vl 0 t19 0 l18.length,.i6 0]) (u:=.tup [.iM (cL q2a) l18,.i6 0]) (q4e rfl (q4e rfl (q3x))) (fR 0 1)
 rintro (_|m1) _ _ ⟨z15,l16,t17,hF,rfl,rfl⟩
 cases hF
 unfold q1s at hF
 refine go ?_
 refine cF hF (fun h20 hF=>?_) (fun h20 hF=>?_)
 refine go ?_
 refine WPU.block ?_
 refine gr ?_
 refine gr ?_
 refine WPU.ghost (tm':=fr 63 [(0,.iM q03 p1),(5,.iM q0e r5.1),(7,.iM cS r7),(8,.vl 0 t17 0 l16.length),(9,.i6 z15),(10,.vl 1 0 0 (([]:List q14).length)),(11,.i6 0)]) (σ':=⟨[(1,.vec (List.map q2a ([]:List q14)).flatten 85 2 0),(0,.vec (List.map (cL q2a) l16).flatten 61 1 t17)],2⟩) (Gh.trans (z4g 10 85 2 (by decide) NZ rfl rfl) (z4e ⟨rfl,rfl,rfl,rfl,rfl,rfl,rfl,trivial⟩ rfl)) NZ ?_
 refine gS (l':=[(0,_),(5,_),(7,_),(8,_),(9,_),(10,_),(11,_)]) ?_
 refine z44 (fun m tm σ=>∃ z30:Int,∃ l31:List q14,∃ t32:Nat,q2q p1 n r5 r7 z15 l16 (q1s p1 n r5 r7 m1) m z30 l31=some r∧tm=fr 63 [(0,.iM q03 p1),(5,.iM q0e r5.1),(7,.iM cS r7),(8,.vl 0 t17 0 l16.length),(9,.i6 z15),(10,.vl 1 t32 0 l31.length),(11,.i6 z30)]∧σ=⟨[(1,.vec (List.map q2a l31).flatten 85 2 t32),(0,.vec (List.map (cL q2a) l16).flatten 61 1 t17)],2⟩) (fun tm σ=>∃ l33:List q14,∃ t34:Nat,q8s z15 l16 (q1s p1 n r5 r7 m1) l33=some r∧tm=fr 63 [(0,.iM q03 p1),(5,.iM q0e r5.1),(7,.iM cS r7),(8,.vl 0 t17 0 l16.length),(9,.i6 z15),(10,.vl 1 t34 0 l33.length)]∧σ=⟨[(1,.vec (List.map q2a l33).flatten 85 2 t34),(0,.vec (List.map (cL q2a) l16).flatten 61 1 t17)],2⟩) n ⟨0,([]:List q14),0,hF,rfl,rfl⟩ ?_ ?_
 rintro _ _ ⟨l33,t34,hF,rfl,rfl⟩
 unfold q8s at hF
 refine gn ?_
 refine WPU.ghost (tm':=fr 63 [(0,.iM q03 p1),(5,.iM q0e r5.1),(7,.iM cS r7),(8,.vl 0 t17 0 l16.length),(9,.i6 z15),(10,.iM q2a l33)]) (σ':=⟨[(0,.vec (List.map (cL q2a) l16).flatten 61 1 t17)],2⟩) (Gh.trans (Gh.sub (l':=[(0,.iM q03 p1),(5,.iM q0e r5.1),(7,.iM cS r7),(8,.vl 0 t17 0 l16.length),(9,.i6 z15),(10,.vl 1 t34 0 l33.length)]) ⟨rfl,rfl,rfl,rfl,rfl,rfl,trivial⟩) (z4r 1 2)) NZ ?_
 obtain ⟨h35,hF⟩:=q09 hF
 refine go ?_
 refine RS.g ?_
 refine RS.g ?_
 refine go ?_
 exact lC ⟨_,(l16++[l33]),(t17+1),hF,rfl,rfl⟩
 rintro (_|m2) _ _ ⟨z30,l31,t32,hF,rfl,rfl⟩
 cases hF
 unfold q2q at hF
 refine go ?_
 refine cF hF (fun h36 hF=>?_) (fun h36 hF=>?_)
 refine go ?_
 refine WPU.block ?_
 obtain ⟨x37,h38,hF⟩:=q00 hF
 obtain ⟨r39,h40,hF⟩:=q00 hF
 refine go ?_
 refine RS.ix h38 ?_
 refine go ?_
 refine RS.cl rfl (pC (qda n p1 r5.1 z15 x37 r39 h40) _) fn34 ?_
 refine gr ?_
 refine z47 (fun tm σ=>∃ l42:List q14,∃ t43:Nat,q6l z30 (q2q p1 n r5 r7 z15 l16 (q1s p1 n r5 r7 m1) m2) l42=some r∧tm=fr 63 [(0,.iM q03 p1),(5,.iM q0e r5.1),(7,.iM cS r7),(8,.vl 0 t17 0 l16.length),(9,.i6 z15),(10,.vl 1 t43 0 l42.length),(11,.i6 z30)]∧σ=⟨[(1,.vec (List.map q2a l42).flatten 85 2 t43),(0,.vec (List.map (cL q2a) l16).flatten 61 1 t17)],2⟩) ?_ ?_
 rintro _ _ ⟨l42,t43,hF,rfl,rfl⟩
 unfold q6l at hF
 refine go ?_
 exact lC ⟨_,l42,t43,hF,rfl,rfl⟩
 refine cF hF (fun h41 hF=>?_) (fun h41 hF=>?_)
 obtain ⟨r44,h45,hF⟩:=q00 hF
 obtain ⟨h46,hF⟩:=q09 hF
 refine go ?_
 refine RS.cl rfl (pC (qq3 n r5.1 r39.1 r44 h45) _) fn35 ?_
 refine go ?_
 refine RS.g ?_
 refine RS.g ?_
 refine go ?_
 exact xC ⟨(l31++[(q14.mk z30 r44)]),(t32+1),hF,rfl,rfl⟩
 refine go ?_
 exact xC ⟨l31,t32,hF,rfl,rfl⟩
 refine go ?_
 exact xC ⟨l31,t32,hF,rfl,rfl⟩
 refine go ?_
 exact xC ⟨l16,t17,hF,rfl,rfl⟩
def q6g (z8:Int) (rc1:Int→(List Int)→Option ((List Int))) (l31:List Int):Option ((List Int)) :=
 rc1 (IntKind.i64.wrap (z8+1)) l31
def q8n (z8:Int) (l9:List Int) (rc1:Int→(List Int)→Option ((List Int))) (b29:Bool):Option ((List Int)) :=
 cond b29
  (q1m ((l9.length+1)*8≤140737488355328∧l9.length+1≤140737488355328) (
  q6g z8 rc1 (l9++[z8])))
  (q6g z8 rc1 l9)
def q3f (p1:List q0c) (p2:Int) (n:Nat) (z8:Int) (l9:List Int) (rc1:Int→(List Int)→Option ((List Int))):Nat→Bool→Int→Option ((List Int))
 | 0,_,_=>none
 | m2+1,b27,z28 =>
  cond (decide (z28<(p1.length:Int)))
   (q05 (cond b27
    (cond (z28 == p2)
     (some true)
     (cond (z28 == z8)
      (some true)
      (q05 (q44 n p1 z8 z28) fun r38 =>
      cond (!r38)
       (some true)
       (q05 (q44 n p1 z28 p2) fun r41 =>
       some (!r41)))))
    (some false)) fun b43 =>
   (q3f p1 p2 n z8 l9 rc1 m2) b43 (IntKind.i64.wrap (z28+1)))
   (q8n z8 l9 rc1 b27)
def q8m  (l11:List Int):Option ((List Int)) :=
 some l11
def q18 (p1:List q0c) (p2:Int) (n:Nat):Nat→Int→(List Int)→Option ((List Int))
 | 0,_,_=>none
 | m1+1,z8,l9 =>
  cond (decide (z8<(p1.length:Int)))
   (q05 (cond (z8 == p2)
    (some true)
    (q05 (q44 n p1 z8 p2) fun r15 =>
    some (!r15))) fun b17 =>
   cond b17
    ((q18 p1 p2 n m1) (IntKind.i64.wrap (z8+1)) l9)
    (q3f p1 p2 n z8 l9 (q18 p1 p2 n m1) n true 0))
   (q8m l9)
def qco (n:Nat) (p1:List q0c) (p2:Int):Option ((List Int)) :=
 q18 p1 p2 n n 0 ([]:List Int)
theorem qm2 (n:Nat) (p1:List q0c) (p2:Int) (r:(List Int)) (hF:qco n p1 p2=some r):EvU Tryz.prog 21 [.isl false (List.map q0e p1),.int .i64 p2] ⟨[],0⟩ (fun u _=>u = .isl false (List.map (cI .i64) r)∧Bel 0 u):=by
 unfold qco at hF
 refine bg2 62 fn21 ?_
 refine gr ?_
 refine gr ?_
 refine gr ?_
 refine WPU.ghost (tm':=fr 62 [(0,.iM q0e p1),(1,.i6 p2),(5,.vl 0 0 0 (([]:List Int).length)),(6,.i6 0)]) (σ':=⟨[(0,.vec (List.map (cI .i64) ([]:List Int)).flatten 3 1 0)],1⟩) (Gh.trans (z4g 5 3 1 (by decide) NZ rfl rfl) (z4e ⟨rfl,rfl,rfl,rfl,trivial⟩ rfl)) NZ ?_
 refine gS (l':=[(0,_),(1,_),(5,_),(6,_)]) ?_
 refine z44 (fun m tm σ=>∃ z8:Int,∃ l9:List Int,∃ t10:Nat,q18 p1 p2 n m z8 l9=some r∧tm=fr 62 [(0,.iM q0e p1),(1,.i6 p2),(5,.vl 0 t10 0 l9.length),(6,.i6 z8)]∧σ=⟨[(0,.vec (List.map (cI .i64) l9).flatten 3 1 t10)],1⟩) (fun tm σ=>∃ l11:List Int,∃ t12:Nat,q8m l11=some r∧tm=fr 62 [(5,.vl 0 t12 0 l11.length)]∧σ=⟨[(0,.vec (List.map (cI .i64) l11).flatten 3 1 t12)],1⟩) n ⟨0,([]:List Int),0,hF,rfl,rfl⟩ ?_ ?_
 rintro _ _ ⟨l11,t12,hF,rfl,rfl⟩
 unfold q8m at hF
 refine go ?_
 obtain rfl:=sI hF
 exact rT (us:=[.vl 0 t12 0 l11.length]) (u:=.iM (cI .i64) l11) (q4e rfl (q3x)) (fR 0 1)
 rintro (_|m1) _ _ ⟨z8,l9,t10,hF,rfl,rfl⟩
 cases hF
 unfold q18 at hF
 refine go ?_
 refine cF hF (fun h13 hF=>?_) (fun h13 hF=>?_)
 refine go ?_
 refine WPU.block ?_
 obtain ⟨b17,h18,hF⟩:=q00 hF
 refine gn ?_
 refine z47 (fun tm σ=>tm=fr 62 [(0,.iM q0e p1),(1,.i6 p2),(5,.vl 0 t10 0 l9.length),(6,.i6 z8),(24,.bool b17)]∧σ=⟨[(0,.vec (List.map (cI .i64) l9).flatten 3 1 t10)],1⟩) ?_ ?_
 rintro _ _ ⟨rfl,rfl⟩
 refine go ?_
 refine cF hF (fun h19 hF=>?_) (fun h19 hF=>?_)
 refine go ?_
 exact lC ⟨_,l9,t10,hF,rfl,rfl⟩
 refine go ?_
 refine gS (l':=[(0,_),(1,_),(5,_),(6,_),(7,_),(8,_)]) ?_
 refine z44 (fun m tm σ=>∃ b27:Bool,∃ z28:Int,q3f p1 p2 n z8 l9 (q18 p1 p2 n m1) m b27 z28=some r∧tm=fr 62 [(0,.iM q0e p1),(1,.i6 p2),(5,.vl 0 t10 0 l9.length),(6,.i6 z8),(7,.bool b27),(8,.i6 z28)]∧σ=⟨[(0,.vec (List.map (cI .i64) l9).flatten 3 1 t10)],1⟩) (fun tm σ=>∃ b29:Bool,q8n z8 l9 (q18 p1 p2 n m1) b29=some r∧tm=fr 62 [(0,.iM q0e p1),(1,.i6 p2),(5,.vl 0 t10 0 l9.length),(6,.i6 z8),(7,.bool b29)]∧σ=⟨[(0,.vec (List.map (cI .i64) l9).flatten 3 1 t10)],1⟩) n ⟨true,0,hF,rfl,rfl⟩ ?_ ?_
 rintro _ _ ⟨b29,hF,rfl,rfl⟩
 unfold q8n at hF
 refine gr ?_
 refine z47 (fun tm σ=>∃ l31:List Int,∃ t32:Nat,q6g z8 (q18 p1 p2 n m1) l31=some r∧tm=fr 62 [(0,.iM q0e p1),(1,.i6 p2),(5,.vl 0 t32 0 l31.length),(6,.i6 z8)]∧σ=⟨[(0,.vec (List.map (cI .i64) l31).flatten 3 1 t32)],1⟩) ?_ ?_
 rintro _ _ ⟨l31,t32,hF,rfl,rfl⟩
 unfold q6g at hF
 refine go ?_
 exact lC ⟨_,l31,t32,hF,rfl,rfl⟩
 refine cF hF (fun h30 hF=>?_) (fun h30 hF=>?_)
 obtain ⟨h33,hF⟩:=q09 hF
 refine go ?_
 refine RS.g ?_
 refine RS.g ?_
 refine go ?_
 exact xC ⟨(l9++[z8]),(t10+1),hF,rfl,rfl⟩
 refine go ?_
 exact xC ⟨l9,t10,hF,rfl,rfl⟩
 rintro (_|m2) _ _ ⟨b27,z28,hF,rfl,rfl⟩
 cases hF
 unfold q3f at hF
 refine go ?_
 refine cF hF (fun h34 hF=>?_) (fun h34 hF=>?_)
 refine go ?_
 refine WPU.block ?_
 obtain ⟨b43,h44,hF⟩:=q00 hF
 refine gn ?_
 refine z47 (fun tm σ=>tm=fr 62 [(0,.iM q0e p1),(1,.i6 p2),(5,.vl 0 t10 0 l9.length),(6,.i6 z8),(7,.bool b43),(8,.i6 z28)]∧σ=⟨[(0,.vec (List.map (cI .i64) l9).flatten 3 1 t10)],1⟩) ?_ ?_
 rintro _ _ ⟨rfl,rfl⟩
 refine go ?_
 exact lC ⟨b43,(IntKind.i64.wrap (z28+1)),hF,rfl,rfl⟩
 rcases gB h44 with ⟨h35,h44⟩ | ⟨h35,h44⟩
 rcases gB h44 with ⟨h36,h44⟩ | ⟨h36,h44⟩
 exact gy h44
 rcases gB h44 with ⟨h37,h44⟩ | ⟨h37,h44⟩
 exact gy h44
 obtain ⟨r38,h39,h44⟩:=q00 h44
 rcases gB h44 with ⟨h40,h44⟩ | ⟨h40,h44⟩
 obtain rfl:=sI h44
 refine go ?_
 refine RS.cl rfl (pC (q5n n p1 z8 z28 r38 h39) _) fn42 ?_
 refine go ?_
 exact xC ⟨rfl,rfl⟩
 obtain ⟨r41,h42,h44⟩:=q00 h44
 obtain rfl:=sI h44
 refine go ?_
 refine RS.cl rfl (pC (q5n n p1 z8 z28 r38 h39) _) fn42 ?_
 refine go ?_
 refine RS.cl rfl (pC (q5n n p1 z28 p2 r41 h42) _) fn42 ?_
 refine go ?_
 exact xC ⟨rfl,rfl⟩
 obtain rfl:=sI h44
 refine go ?_
 repeat refine RS.no (qll rfl rfl rfl) rfl rfl ?_
 refine go ?_
 repeat refine RS.no (qll rfl rfl rfl) rfl rfl ?_
 refine go ?_
 repeat refine RS.no (qll rfl rfl rfl) rfl rfl ?_
 refine go ?_
 exact xC ⟨rfl,rfl⟩
 refine go ?_
 exact xC ⟨b27,hF,rfl,rfl⟩
 rcases gB h18 with ⟨h14,h18⟩ | ⟨h14,h18⟩
 exact gy h18
 obtain ⟨r15,h16,h18⟩:=q00 h18
 obtain rfl:=sI h18
 refine go ?_
 refine RS.cl rfl (pC (q5n n p1 z8 p2 r15 h16) _) fn42 ?_
 refine go ?_
 exact xC ⟨rfl,rfl⟩
 refine go ?_
 exact xC ⟨l9,t10,hF,rfl,rfl⟩
def q6x  (l18:List q29):Option ((List q29)×Int) :=
 some (l18,0)
def q30 (p1:List q02) (n:Nat) (r5:(List q0c)×Int) (r7:(List (List UInt8))):Nat→Int→(List q29)→Option ((List q29)×Int)
 | 0,_,_=>none
 | m1+1,z15,l16 =>
  cond (decide (z15<(r7.length:Int)))
   (q05 (q11 r7 z15) fun x21 =>
   q05 (qc7 n p1 x21) fun r23 =>
   q05 (q11 r7 z15) fun x25 =>
   q05 (q85 n r5.1 r23.1) fun r27 =>
   q1m ((l16.length+1)*24≤140737488355328∧l16.length+1≤140737488355328) (
   (q30 p1 n r5 r7 m1) (IntKind.i64.wrap (z15+1)) (l16++[(q29.mk x25 r27)])))
   (q6x l16)
def q7i (n:Nat) (p1:List q02):Option ((List q29)×Int) :=
 q05 (q6k n p1) fun r2 =>
 cond (r2 != 0)
  (some ([],r2))
  (q05 (q5g n p1) fun r5 =>
  q05 (q7w n p1) fun r7 =>
  q30 p1 n r5 r7 n 0 ([]:List q29))
theorem qjb (n:Nat) (p1:List q02) (r:(List q29)×Int) (hF:q7i n p1=some r):EvU Tryz.prog 22 [.isl false (List.map q03 p1)] ⟨[],0⟩ (fun u _=>u = .tup [.isl false (List.map q3n r.1),.int .i64 r.2]∧Bel 0 u):=by
 unfold q7i at hF
 refine bg1 51 fn22 ?_
 obtain ⟨r2,h3,hF⟩:=q00 hF
 refine go ?_
 refine RS.cl rfl (pC (qhh n p1 r2 h3) _) fn32 ?_
 refine go ?_
 refine cF hF (fun h4 hF=>?_) (fun h4 hF=>?_)
 refine go ?_
 obtain rfl:=sI hF
 exact rT (us:=[.nils,.i6 r2]) (u:=.tup [.isl false [],.i6 r2]) (q4e rfl (q4e rfl (q3x))) wR
 obtain ⟨r5,h6,hF⟩:=q00 hF
 refine go ?_
 refine RS.cl rfl (pC (qbe n p1 r5 h6) _) fn20 ?_
 obtain ⟨r7,h8,hF⟩:=q00 hF
 refine go ?_
 refine RS.cl rfl (pC (qe0 n p1 r7 h8) _) fn33 ?_
 refine gr ?_
 refine gr ?_
 refine WPU.ghost (tm':=fr 51 [(0,.iM q03 p1),(5,.iM q0e r5.1),(7,.iM cS r7),(8,.vl 0 0 0 (([]:List q29).length)),(9,.i6 0)]) (σ':=⟨[(0,.vec (List.map q3n ([]:List q29)).flatten 96 2 0)],1⟩) (Gh.trans (z4g 8 96 2 (by decide) NZ rfl rfl) (z4e ⟨rfl,rfl,rfl,rfl,rfl,trivial⟩ rfl)) NZ ?_
 refine gS (l':=[(0,_),(5,_),(7,_),(8,_),(9,_)]) ?_
 refine z44 (fun m tm σ=>∃ z15:Int,∃ l16:List q29,∃ t17:Nat,q30 p1 n r5 r7 m z15 l16=some r∧tm=fr 51 [(0,.iM q03 p1),(5,.iM q0e r5.1),(7,.iM cS r7),(8,.vl 0 t17 0 l16.length),(9,.i6 z15)]∧σ=⟨[(0,.vec (List.map q3n l16).flatten 96 2 t17)],1⟩) (fun tm σ=>∃ l18:List q29,∃ t19:Nat,q6x l18=some r∧tm=fr 51 [(8,.vl 0 t19 0 l18.length)]∧σ=⟨[(0,.vec (List.map q3n l18).flatten 96 2 t19)],1⟩) n ⟨0,([]:List q29),0,hF,rfl,rfl⟩ ?_ ?_
 rintro _ _ ⟨l18,t19,hF,rfl,rfl⟩
 unfold q6x at hF
 refine go ?_
 obtain rfl:=sI hF
 exact rT (us:=[.vl 0 t19 0 l18.length,.i6 0]) (u:=.tup [.iM q3n l18,.i6 0]) (q4e rfl (q4e rfl (q3x))) (fR 0 2)
 rintro (_|m1) _ _ ⟨z15,l16,t17,hF,rfl,rfl⟩
 cases hF
 unfold q30 at hF
 refine go ?_
 refine cF hF (fun h20 hF=>?_) (fun h20 hF=>?_)
 refine go ?_
 refine WPU.block ?_
 obtain ⟨x21,h22,hF⟩:=q00 hF
 obtain ⟨r23,h24,hF⟩:=q00 hF
 refine go ?_
 refine RS.ix h22 ?_
 refine go ?_
 refine RS.cl rfl (pC (qhi n p1 x21 r23 h24) _) fn43 ?_
 obtain ⟨x25,h26,hF⟩:=q00 hF
 obtain ⟨r27,h28,hF⟩:=q00 hF
 obtain ⟨h29,hF⟩:=q09 hF
 refine go ?_
 refine z48 Tryz.tb_ok [(0,9)] (by kernel_rfl) ?_
 refine gd ?_
 refine RD.ix h26 ?_
 refine gd ?_
 refine z4a rfl (pC (qcw n r5.1 r23.1 r27 h28)) fn44 ?_
 refine gd ?_
 refine RD.g ?_
 refine RD.g ?_
 refine gd ?_
 refine RD.done ⟨by kernel_rfl,⟨q60 rfl,trivial⟩,?_⟩
 refine go ?_
 exact lC ⟨_,(l16++[(q29.mk x25 r27)]),(t17+1),hF,rfl,rfl⟩
 refine go ?_
 exact xC ⟨l16,t17,hF,rfl,rfl⟩
def q7q (p1:List q02) (n:Nat) (l16:List qde):Option (q0n×Int) :=
 q05 (q7i n p1) fun r18 =>
 some ((q0n.mk l16 r18.1),0)
def q3l (p1:List q02) (n:Nat) (r2:(List (List q14))×Int) (r5:(List q0c)×Int):Nat→Int→(List qde)→Option (q0n×Int)
 | 0,_,_=>none
 | m1+1,z13,l14 =>
  cond (decide (z13<(r5.1.length:Int)))
   (q05 (q11 r5.1 z13) fun x21 =>
   q05 (q11 r5.1 z13) fun x23 =>
   q05 (qco n r5.1 z13) fun r25 =>
   q05 (q11 r2.1 z13) fun x27 =>
   q1m ((l14.length+1)*88≤140737488355328∧l14.length+1≤140737488355328) (
   (q3l p1 n r2 r5 m1) (IntKind.i64.wrap (z13+1)) (l14++[(qde.mk x21.Name x23.Code r25 x27)])))
   (q7q p1 n l14)
def q3u (n:Nat) (p1:List q02):Option (q0n×Int) :=
 q05 (q84 n p1) fun r2 =>
 cond (r2.2 != 0)
  (some ((q0n.mk [] []),r2.2))
  (q05 (q5g n p1) fun r5 =>
  q3l p1 n r2 r5 n 0 ([]:List qde))
theorem qew (n:Nat) (p1:List q02) (r:q0n×Int) (hF:q3u n p1=some r):EvU Tryz.prog 6 [.isl false (List.map q03 p1)] ⟨[],0⟩ (fun u _=>u = .tup [.agg (q20 r.1),.int .i64 r.2]∧Bel 0 u):=by
 unfold q3u at hF
 refine bg1 63 fn6 ?_
 obtain ⟨r2,h3,hF⟩:=q00 hF
 refine go ?_
 refine RS.cl rfl (pC (qm5 n p1 r2 h3) _) fn19 ?_
 refine go ?_
 refine cF hF (fun h4 hF=>?_) (fun h4 hF=>?_)
 refine go ?_
 obtain rfl:=sI hF
 exact rT (us:=[.agg [.nils,.nils],.i6 r2.2]) (u:=.tup [.agg [.isl false [],.isl false []],.i6 r2.2]) (qfq (q6a un31.h rfl (q0q if31.h) rfl rfl rfl) (q4e rfl (q3x))) wR
 obtain ⟨r5,h6,hF⟩:=q00 hF
 refine go ?_
 refine RS.cl rfl (pC (qbe n p1 r5 h6) _) fn20 ?_
 refine gr ?_
 refine gr ?_
 refine WPU.ghost (tm':=fr 63 [(0,.iM q03 p1),(2,.ptr 0 0 0),(4,.iM (cL q2a) r2.1),(6,.iM q0e r5.1),(8,.ptr 1 0 0),(9,.i6 0)]) (σ':=⟨[(2,.vec (List.map qcz ([]:List qde)).flatten 63 4 0),(1,.row [.vl 2 0 0 (([]:List qde).length),.nils] 31),(0,.row [.nils,.nils] 31)],3⟩) (Gh.trans (z4l 1 0 63 4 (by decide) NZ rfl rfl) (z4e ⟨rfl,rfl,rfl,rfl,rfl,rfl,trivial⟩ rfl)) NZ ?_
 refine gS (l':=[(0,_),(2,_),(4,_),(6,_),(8,_),(9,_)]) ?_
 refine z44 (fun m tm σ=>∃ z13:Int,∃ l14:List qde,∃ t15:Nat,q3l p1 n r2 r5 m z13 l14=some r∧tm=fr 63 [(0,.iM q03 p1),(2,.ptr 0 0 0),(4,.iM (cL q2a) r2.1),(6,.iM q0e r5.1),(8,.ptr 1 0 0),(9,.i6 z13)]∧σ=⟨[(2,.vec (List.map qcz l14).flatten 63 4 t15),(1,.row [.vl 2 t15 0 l14.length,.nils] 31),(0,.row [.nils,.nils] 31)],3⟩) (fun tm σ=>∃ l16:List qde,∃ t17:Nat,q7q p1 n l16=some r∧tm=fr 63 [(0,.iM q03 p1),(2,.ptr 0 0 0),(8,.ptr 1 0 0)]∧σ=⟨[(2,.vec (List.map qcz l16).flatten 63 4 t17),(1,.row [.vl 2 t17 0 l16.length,.nils] 31),(0,.row [.nils,.nils] 31)],3⟩) n ⟨0,([]:List qde),0,hF,rfl,rfl⟩ ?_ ?_
 rintro _ _ ⟨l16,t17,hF,rfl,rfl⟩
 unfold q7q at hF
 obtain ⟨r18,h19,hF⟩:=q00 hF
 refine go ?_
 refine RS.cl rfl (pC (qjb n p1 r18 h19) _) fn22 ?_
 refine go ?_
 obtain rfl:=sI hF
 exact rT (us:=[.agg [.vl 2 t17 0 l16.length,.iM q3n r18.1],.i6 0]) (u:=.tup [.agg [.iM qcz l16,.iM q3n r18.1],.i6 0]) (qfq (q6a un31.h rfl (q0q if31.h) rfl rfl rfl) (q4e rfl (q3x))) (fR 2 4)
 rintro (_|m1) _ _ ⟨z13,l14,t15,hF,rfl,rfl⟩
 cases hF
 unfold q3l at hF
 refine go ?_
 refine cF hF (fun h20 hF=>?_) (fun h20 hF=>?_)
 refine go ?_
 refine WPU.block ?_
 obtain ⟨x21,h22,hF⟩:=q00 hF
 obtain ⟨x23,h24,hF⟩:=q00 hF
 obtain ⟨r25,h26,hF⟩:=q00 hF
 obtain ⟨x27,h28,hF⟩:=q00 hF
 obtain ⟨h29,hF⟩:=q09 hF
 refine go ?_
 refine z48 Tryz.tb_ok [(0,20),(1,20)] (by kernel_rfl) ?_
 refine gd ?_
 refine RD.ix h22 ?_
 refine gd ?_
 refine RD.ix h24 ?_
 refine gd ?_
 refine z4a rfl (pC (qm2 n r5.1 z13 r25 h26)) fn21 ?_
 refine gd ?_
 refine RD.ix h28 ?_
 refine gd ?_
 refine RD.g ?_
 refine RD.g ?_
 refine gd ?_
 refine RD.gz ?_
 refine RD.done ⟨by kernel_rfl,⟨qdq un31.h rfl (q0q if28.h) rfl rfl rfl,⟨qd3 un28.h rfl rfl rfl rfl,trivial⟩⟩,?_⟩
 refine go ?_
 exact lC ⟨_,(l14++[(qde.mk x21.Name x23.Code r25 x27)]),(t15+1),hF,rfl,rfl⟩
 refine go ?_
 exact xC ⟨l14,t15,hF,rfl,rfl⟩
def qe1 (p1:List UInt8) (p2:List UInt8) (l15:List q13):Option (q02) :=
 some (q02.mk p1 ([p2]) l15)
def qbj (p1:List UInt8) (p2:List UInt8) (p3:List (List UInt8)):Nat→Int→(List q13)→Option (q02)
 | 0,_,_=>none
 | m1+1,z12,l13 =>
  cond (decide ((IntKind.i64.wrap (z12+1))<(p3.length:Int)))
   (q05 (q11 p3 z12) fun x18 =>
   q05 (q11 p3 (IntKind.i64.wrap (z12+1))) fun x20 =>
   q1m ((l13.length+1)*32≤140737488355328∧l13.length+1≤140737488355328) (
   (qbj p1 p2 p3 m1) (IntKind.i64.wrap (z12+2)) (l13++[(q13.mk x18 x20)])))
   (qe1 p1 p2 l13)
def qe2 (p1:List UInt8) (l32:List q13):Option (q02) :=
 some (q02.mk p1 [] l32)
def qbk (p1:List UInt8) (p3:List (List UInt8)):Nat→Int→(List q13)→Option (q02)
 | 0,_,_=>none
 | m2+1,z29,l30 =>
  cond (decide ((IntKind.i64.wrap (z29+1))<(p3.length:Int)))
   (q05 (q11 p3 z29) fun x35 =>
   q05 (q11 p3 (IntKind.i64.wrap (z29+1))) fun x37 =>
   q1m ((l30.length+1)*32≤140737488355328∧l30.length+1≤140737488355328) (
   (qbk p1 p3 m2) (IntKind.i64.wrap (z29+2)) (l30++[(q13.mk x35 x37)])))
   (qe2 p1 l30)
def q31 (n:Nat) (p1:List UInt8) (p2:List UInt8) (p3:List (List UInt8)):Option (q02) :=
 cond (!q1l p2 [])
  (qbj p1 p2 p3 n 0 ([]:List q13))
  (qbk p1 p3 n 0 ([]:List q13))
theorem q2f (n:Nat) (p1:List UInt8) (p2:List UInt8) (p3:List (List UInt8)) (r:q02) (hF:q31 n p1 p2 p3=some r):EvU Tryz.prog 23 [.str p1,.str p2,.isl false (List.map cS p3)] ⟨[],0⟩ (fun u _=>u = .agg (q03 r)∧Bel 0 u):=by
 unfold q31 at hF
 refine bg3 39 fn23 ?_
 refine go ?_
 refine RS.q (u:=.bool (!q1l p2 [])) rfl (qea rfl rfl rfl rfl) ?_
 refine go ?_
 refine cF hF (fun h4 hF=>?_) (fun h4 hF=>?_)
 refine go ?_
 refine RS.g ?_
 refine gr ?_
 refine WPU.ghost (tm':=fr 39 [(2,.iM cS p3),(6,.ptr 0 0 0),(7,.ptr 1 0 0),(8,.i6 0)]) (σ':=⟨[(3,.vec (List.map q0f ([]:List q13)).flatten 98 2 0),(2,.row [.str p2] 9),(1,.row [.str p1,.sl 2 0 1 1,.vl 3 0 0 (([]:List q13).length)] 69),(0,.row [.str [],.nils,.nils] 69)],4⟩) (Gh.trans (z4l 1 2 98 2 (by decide) NZ rfl rfl) (z4e ⟨rfl,rfl,rfl,rfl,trivial⟩ rfl)) NZ ?_
 refine gS (l':=[(2,_),(6,_),(7,_),(8,_)]) ?_
 refine z44 (fun m tm σ=>∃ z12:Int,∃ l13:List q13,∃ t14:Nat,qbj p1 p2 p3 m z12 l13=some r∧tm=fr 39 [(2,.iM cS p3),(6,.ptr 0 0 0),(7,.ptr 1 0 0),(8,.i6 z12)]∧σ=⟨[(3,.vec (List.map q0f l13).flatten 98 2 t14),(2,.row [.str p2] 9),(1,.row [.str p1,.sl 2 0 1 1,.vl 3 t14 0 l13.length] 69),(0,.row [.str [],.nils,.nils] 69)],4⟩) (fun tm σ=>∃ l15:List q13,∃ t16:Nat,qe1 p1 p2 l15=some r∧tm=fr 39 [(6,.ptr 0 0 0),(7,.ptr 1 0 0)]∧σ=⟨[(3,.vec (List.map q0f l15).flatten 98 2 t16),(2,.row [.str p2] 9),(1,.row [.str p1,.sl 2 0 1 1,.vl 3 t16 0 l15.length] 69),(0,.row [.str [],.nils,.nils] 69)],4⟩) n ⟨0,([]:List q13),0,hF,rfl,rfl⟩ ?_ ?_
 rintro _ _ ⟨l15,t16,hF,rfl,rfl⟩
 unfold qe1 at hF
 refine go ?_
 obtain rfl:=sI hF
 exact ⟨.inr rfl,[.agg [.str p1,.sl 2 0 1 1,.vl 3 t16 0 l15.length]],qfq (q6a un69.h rfl (q0q if69.h) rfl rfl rfl) (q3x),.agg [.str p1,.iM cS ([p2]),.iM q0f l15],⟨[],0⟩,Nat.le_refl _,Gh.trans (z4b 2 1) (Gh.trans (z4b 3 2) (z4j (.agg [.str p1,.iM cS ([p2]),.iM q0f l15]) rfl)),rfl,BU.h⟩
 rintro (_|m1) _ _ ⟨z12,l13,t14,hF,rfl,rfl⟩
 cases hF
 unfold qbj at hF
 refine go ?_
 refine cF hF (fun h17 hF=>?_) (fun h17 hF=>?_)
 refine go ?_
 refine WPU.block ?_
 obtain ⟨x18,h19,hF⟩:=q00 hF
 obtain ⟨x20,h21,hF⟩:=q00 hF
 obtain ⟨h22,hF⟩:=q09 hF
 refine go ?_
 refine z48 Tryz.tb_ok [(0,12),(1,12)] (by kernel_rfl) ?_
 refine gd ?_
 refine RD.ix h19 ?_
 refine gd ?_
 refine RD.ix h21 ?_
 refine gd ?_
 refine RD.g ?_
 refine RD.g ?_
 refine gd ?_
 refine RD.gz ?_
 refine RD.done ⟨by kernel_rfl,⟨qdq un69.h rfl (q0q if67.h) rfl rfl rfl,⟨qd3 un67.h rfl rfl rfl rfl,trivial⟩⟩,?_⟩
 refine go ?_
 exact lC ⟨_,(l13++[(q13.mk x18 x20)]),(t14+1),hF,rfl,rfl⟩
 refine go ?_
 exact xC ⟨l13,t14,hF,rfl,rfl⟩
 refine gr ?_
 refine WPU.ghost (tm':=fr 39 [(2,.iM cS p3),(6,.ptr 0 0 0),(7,.ptr 1 0 0),(8,.i6 0)]) (σ':=⟨[(2,.vec (List.map q0f ([]:List q13)).flatten 98 2 0),(1,.row [.str p1,.nils,.vl 2 0 0 (([]:List q13).length)] 69),(0,.row [.str [],.nils,.nils] 69)],3⟩) (Gh.trans (z4l 1 2 98 2 (by decide) NZ rfl rfl) (z4e ⟨rfl,rfl,rfl,rfl,trivial⟩ rfl)) NZ ?_
 refine gS (l':=[(2,_),(6,_),(7,_),(8,_)]) ?_
 refine z44 (fun m tm σ=>∃ z29:Int,∃ l30:List q13,∃ t31:Nat,qbk p1 p3 m z29 l30=some r∧tm=fr 39 [(2,.iM cS p3),(6,.ptr 0 0 0),(7,.ptr 1 0 0),(8,.i6 z29)]∧σ=⟨[(2,.vec (List.map q0f l30).flatten 98 2 t31),(1,.row [.str p1,.nils,.vl 2 t31 0 l30.length] 69),(0,.row [.str [],.nils,.nils] 69)],3⟩) (fun tm σ=>∃ l32:List q13,∃ t33:Nat,qe2 p1 l32=some r∧tm=fr 39 [(6,.ptr 0 0 0),(7,.ptr 1 0 0)]∧σ=⟨[(2,.vec (List.map q0f l32).flatten 98 2 t33),(1,.row [.str p1,.nils,.vl 2 t33 0 l32.length] 69),(0,.row [.str [],.nils,.nils] 69)],3⟩) n ⟨0,([]:List q13),0,hF,rfl,rfl⟩ ?_ ?_
 rintro _ _ ⟨l32,t33,hF,rfl,rfl⟩
 unfold qe2 at hF
 refine go ?_
 obtain rfl:=sI hF
 exact ⟨.inr rfl,[.agg [.str p1,.nils,.vl 2 t33 0 l32.length]],qfq (q6a un69.h rfl (q0q if69.h) rfl rfl rfl) (q3x),.agg [.str p1,.isl false [],.iM q0f l32],⟨[],0⟩,Nat.le_refl _,Gh.trans (z4b 2 2) (Gh.trans (Gh.wk (.cons (.agg (.cons (.refl _) (.cons (.nil false) (.cons (.refl _) .nil)))) .nil)) (z4j (.agg [.str p1,.isl false [],.iM q0f l32]) rfl)),rfl,BU.h⟩
 rintro (_|m2) _ _ ⟨z29,l30,t31,hF,rfl,rfl⟩
 cases hF
 unfold qbk at hF
 refine go ?_
 refine cF hF (fun h34 hF=>?_) (fun h34 hF=>?_)
 refine go ?_
 refine WPU.block ?_
 obtain ⟨x35,h36,hF⟩:=q00 hF
 obtain ⟨x37,h38,hF⟩:=q00 hF
 obtain ⟨h39,hF⟩:=q09 hF
 refine go ?_
 refine z48 Tryz.tb_ok [(0,12),(1,12)] (by kernel_rfl) ?_
 refine gd ?_
 refine RD.ix h36 ?_
 refine gd ?_
 refine RD.ix h38 ?_
 refine gd ?_
 refine RD.g ?_
 refine RD.g ?_
 refine gd ?_
 refine RD.gz ?_
 refine RD.done ⟨by kernel_rfl,⟨qdq un69.h rfl (q0q if67.h) rfl rfl rfl,⟨qd3 un67.h rfl rfl rfl rfl,trivial⟩⟩,?_⟩
 refine go ?_
 exact lC ⟨_,(l30++[(q13.mk x35 x37)]),(t31+1),hF,rfl,rfl⟩
 refine go ?_
 exact xC ⟨l30,t31,hF,rfl,rfl⟩
def q6y (n:Nat)  : Option ((List q02)) :=
 q05 (q31 n ([116,111,112]) [] []) fun r1 =>
 q05 (q31 n ([108,105,115,116]) ([116,111,112]) []) fun r3 =>
 q05 (q31 n ([99,111,110,115]) ([108,105,115,116]) ([[70,73,82,83,84],[116,111,112],[82,69,83,84],[108,105,115,116]])) fun r5 =>
 q05 (q31 n ([110,117,108,108]) ([108,105,115,116]) []) fun r7 =>
 q05 (q31 n ([100,108,105,115,116]) ([116,111,112]) ([[76,73,83,84],[108,105,115,116],[76,65,83,84],[108,105,115,116]])) fun r9 =>
 q05 (q31 n ([105,110,100,101,120]) ([116,111,112]) []) fun r11 =>
 q05 (q31 n ([104,97,110,100,108,101]) ([105,110,100,101,120]) []) fun r13 =>
 q05 (q31 n ([101,118,101,110,116]) ([105,110,100,101,120]) []) fun r15 =>
 q05 (q31 n ([101,110,116,105,116,121]) ([105,110,100,101,120]) []) fun r17 =>
 q05 (q31 n ([114,101,108]) ([116,111,112]) ([[76,65,66,69,76],[104,97,110,100,108,101]])) fun r19 =>
 q05 (q31 n ([113,101,113]) ([116,111,112]) ([[72,73,71,72],[104,97,110,100,108,101],[76,79,87],[104,97,110,100,108,101]])) fun r21 =>
 q05 (q31 n ([115,101,109]) ([116,111,112]) ([[84,79,80],[104,97,110,100,108,101],[73,78,68,69,88],[105,110,100,101,120],[82,69,76,83],[100,108,105,115,116],[67,79,78,83],[100,108,105,115,116]])) fun r23 =>
 q05 (q31 n ([115,105,103,110]) ([116,111,112]) ([[83,69,77],[115,101,109],[65,82,71,83],[108,105,115,116]])) fun r25 =>
 some ([r1,r3,r5,r7,r9,r11,r13,r15,r17,r19,r21,r23,r25])
theorem qla (n:Nat)  (r:(List q02)) (hF:q6y n  = some r):EvU Tryz.prog 7 [] ⟨[],0⟩ (fun u _=>u = .isl false (List.map q03 r)∧Bel 0 u):=by
 unfold q6y at hF
 refine bg0 21 fn7 ?_
 obtain ⟨r1,h2,hF⟩:=q00 hF
 obtain ⟨r3,h4,hF⟩:=q00 hF
 obtain ⟨r5,h6,hF⟩:=q00 hF
 obtain ⟨r7,h8,hF⟩:=q00 hF
 obtain ⟨r9,h10,hF⟩:=q00 hF
 obtain ⟨r11,h12,hF⟩:=q00 hF
 obtain ⟨r13,h14,hF⟩:=q00 hF
 obtain ⟨r15,h16,hF⟩:=q00 hF
 obtain ⟨r17,h18,hF⟩:=q00 hF
 obtain ⟨r19,h20,hF⟩:=q00 hF
 obtain ⟨r21,h22,hF⟩:=q00 hF
 obtain ⟨r23,h24,hF⟩:=q00 hF
 obtain ⟨r25,h26,hF⟩:=q00 hF
 refine go ?_
 refine RS.cl rfl (z4c (args':=[.str ([116,111,112]),.str [],.isl false []]) (.cons (.refl _) (.cons (.refl _) (.cons (.nil false) .nil))) (pC (q2f n ([116,111,112]) [] [] r1 h2)) _) fn23 (RS.cl rfl (z4c (args':=[.str ([108,105,115,116]),.str ([116,111,112]),.isl false []]) (.cons (.refl _) (.cons (.refl _) (.cons (.nil false) .nil))) (pC (q2f n ([108,105,115,116]) ([116,111,112]) [] r3 h4)) _) fn23 ?_)
 refine RS.g ?_
 refine z4n rfl (z4b 0 1) (pC (q2f n ([99,111,110,115]) ([108,105,115,116]) ([[70,73,82,83,84],[116,111,112],[82,69,83,84],[108,105,115,116]]) r5 h6) _) fn23 (RS.cl rfl (z4c (args':=[.str ([110,117,108,108]),.str ([108,105,115,116]),.isl false []]) (.cons (.refl _) (.cons (.refl _) (.cons (.nil false) .nil))) (pC (q2f n ([110,117,108,108]) ([108,105,115,116]) [] r7 h8)) _) fn23 ?_)
 refine RS.g ?_
 refine z4n rfl (z4b 1 1) (pC (q2f n ([100,108,105,115,116]) ([116,111,112]) ([[76,73,83,84],[108,105,115,116],[76,65,83,84],[108,105,115,116]]) r9 h10) _) fn23 (RS.cl rfl (z4c (args':=[.str ([105,110,100,101,120]),.str ([116,111,112]),.isl false []]) (.cons (.refl _) (.cons (.refl _) (.cons (.nil false) .nil))) (pC (q2f n ([105,110,100,101,120]) ([116,111,112]) [] r11 h12)) _) fn23 (RS.cl rfl (z4c (args':=[.str ([104,97,110,100,108,101]),.str ([105,110,100,101,120]),.isl false []]) (.cons (.refl _) (.cons (.refl _) (.cons (.nil false) .nil))) (pC (q2f n ([104,97,110,100,108,101]) ([105,110,100,101,120]) [] r13 h14)) _) fn23 (RS.cl rfl (z4c (args':=[.str ([101,118,101,110,116]),.str ([105,110,100,101,120]),.isl false []]) (.cons (.refl _) (.cons (.refl _) (.cons (.nil false) .nil))) (pC (q2f n ([101,118,101,110,116]) ([105,110,100,101,120]) [] r15 h16)) _) fn23 (RS.cl rfl (z4c (args':=[.str ([101,110,116,105,116,121]),.str ([105,110,100,101,120]),.isl false []]) (.cons (.refl _) (.cons (.refl _) (.cons (.nil false) .nil))) (pC (q2f n ([101,110,116,105,116,121]) ([105,110,100,101,120]) [] r17 h18)) _) fn23 ?_))))
 refine RS.g ?_
 refine z4n rfl (z4b 2 1) (pC (q2f n ([114,101,108]) ([116,111,112]) ([[76,65,66,69,76],[104,97,110,100,108,101]]) r19 h20) _) fn23 ?_
 refine RS.g ?_
 refine z4n rfl (z4b 3 1) (pC (q2f n ([113,101,113]) ([116,111,112]) ([[72,73,71,72],[104,97,110,100,108,101],[76,79,87],[104,97,110,100,108,101]]) r21 h22) _) fn23 (RS.q (u:=.sl 4 0 8 8) (σ':=⟨[(4,.row [.str ([84,79,80]),.str ([104,97,110,100,108,101]),.str ([73,78,68,69,88]),.str ([105,110,100,101,120]),.str ([82,69,76,83]),.str ([100,108,105,115,116]),.str ([67,79,78,83]),.str ([100,108,105,115,116])] 9)],5⟩) rfl (q56 un66.h if9.h rfl rfl rfl rfl rfl rfl rfl) (z4n rfl (z4b 4 1) (pC (q2f n ([115,101,109]) ([116,111,112]) ([[84,79,80],[104,97,110,100,108,101],[73,78,68,69,88],[105,110,100,101,120],[82,69,76,83],[100,108,105,115,116],[67,79,78,83],[100,108,105,115,116]]) r23 h24) _) fn23 ?_))
 refine RS.g ?_
 refine z4n rfl (z4b 5 1) (pC (q2f n ([115,105,103,110]) ([116,111,112]) ([[83,69,77],[115,101,109],[65,82,71,83],[108,105,115,116]]) r25 h26) _) fn23 (RS.q (u:=.sl 6 0 13 13) (σ':=⟨[(6,.row [.str r1.Name,.iM cS r1.Supers,.iM q0f r1.Feats,.str r3.Name,.iM cS r3.Supers,.iM q0f r3.Feats,.str r5.Name,.iM cS r5.Supers,.iM q0f r5.Feats,.str r7.Name,.iM cS r7.Supers,.iM q0f r7.Feats,.str r9.Name,.iM cS r9.Supers,.iM q0f r9.Feats,.str r11.Name,.iM cS r11.Supers,.iM q0f r11.Feats,.str r13.Name,.iM cS r13.Supers,.iM q0f r13.Feats,.str r15.Name,.iM cS r15.Supers,.iM q0f r15.Feats,.str r17.Name,.iM cS r17.Supers,.iM q0f r17.Feats,.str r19.Name,.iM cS r19.Supers,.iM q0f r19.Feats,.str r21.Name,.iM cS r21.Supers,.iM q0f r21.Feats,.str r23.Name,.iM cS r23.Supers,.iM q0f r23.Feats,.str r25.Name,.iM cS r25.Supers,.iM q0f r25.Feats] 69)],7⟩) rfl (q56 un22.h if69.h rfl rfl rfl rfl rfl rfl rfl) ?_)
 refine go ?_
 obtain rfl:=sI hF
 exact rT (us:=[.sl 6 0 13 13]) (u:=.iM q03 ([r1,r3,r5,r7,r9,r11,r13,r15,r17,r19,r21,r23,r25])) (q4e rfl (q3x)) (fR 6 3)
def q2s (p2:GFS) (n:Nat) (l14:List qde) (l15:List q29):Option (Bool) :=
 q05 (q05 (q96 n (q0n.mk l14 l15) p2) fun r16 =>
 q05 (q9g n (q0n.mk l14 l15) p2) fun r18 =>
 cond (r16 == r18)
  (q05 (q3i n) fun r21 =>
  some r21)
  (some false)) fun b23 =>
 some b23
def q6t (n:Nat) (p1:List q02) (p2:GFS):Option (Bool) :=
 q05 (cond (decide ((p1.length:Int) > 12))
  (some true)
  (q05 (qca n p2) fun r4 =>
  some (!r4))) fun b6 =>
 cond b6
  (q05 (q3i n) fun r9 =>
  some r9)
  (q05 (q3u n p1) fun r11 =>
  cond (r11.2 != 0)
   (q05 (q6y n) fun r25 =>
   q05 (q3u n r25) fun r27 =>
   q2s p2 n r27.1.Types r27.1.Feats)
   (q2s p2 n r11.1.Types r11.1.Feats))
theorem qgb (n:Nat) (p1:List q02) (p2:GFS) (r:Bool) (hF:q6t n p1 p2=some r):EvU Tryz.prog 3 [.isl false (List.map q03 p1),.agg [.isl false (List.map q01 p2.Nodes)]] ⟨[],0⟩ (fun u _=>u = .bool r∧Bel 0 u):=by
 unfold q6t at hF
 refine bg2 38 fn3 ?_
 obtain ⟨b6,h7,hF⟩:=q00 hF
 refine gr ?_
 refine z47 (fun tm σ=>tm=fr 38 [(0,.iM q03 p1),(3,.ptr 0 0 0),(14,.bool b6)]∧σ=⟨[(0,.row [.iM q01 p2.Nodes] 25)],1⟩) ?_ ?_
 rintro _ _ ⟨rfl,rfl⟩
 refine go ?_
 refine cF hF (fun h8 hF=>?_) (fun h8 hF=>?_)
 obtain ⟨r9,h10,hF⟩:=q00 hF
 refine go ?_
 refine RS.cl rfl (pC (qb3 n r9 h10) _) fn5 ?_
 exact gx hF
 obtain ⟨r11,h12,hF⟩:=q00 hF
 refine go ?_
 refine RS.cl rfl (pC (qew n p1 r11 h12) _) fn6 ?_
 refine gr ?_
 refine z47 (fun tm σ=>∃ l14:List qde,∃ l15:List q29,q2s p2 n l14 l15=some r∧tm=fr 38 [(3,.ptr 0 0 0),(5,.ptr 1 0 0)]∧σ=⟨[(1,.row [.iM qcz l14,.iM q3n l15] 31),(0,.row [.iM q01 p2.Nodes] 25)],2⟩) ?_ ?_
 rintro _ _ ⟨l14,l15,hF,rfl,rfl⟩
 unfold q2s at hF
 obtain ⟨b23,h24,hF⟩:=q00 hF
 refine gn ?_
 refine z47 (fun tm σ=>tm=fr 38 [(4,.bool b23)]∧σ=⟨[(1,.row [.iM qcz l14,.iM q3n l15] 31),(0,.row [.iM q01 p2.Nodes] 25)],2⟩) ?_ ?_
 rintro _ _ ⟨rfl,rfl⟩
 exact gx hF
 obtain ⟨r16,h17,h24⟩:=q00 h24
 obtain ⟨r18,h19,h24⟩:=q00 h24
 rcases gB h24 with ⟨h20,h24⟩ | ⟨h20,h24⟩
 obtain ⟨r21,h22,h24⟩:=q00 h24
 obtain rfl:=sI h24
 refine z48 Tryz.tb_ok [] (by kernel_rfl) ?_
 refine gd ?_
 refine z4a rfl (pC (qh0 n (q0n.mk l14 l15) p2 r16 h17)) fn8 ?_
 refine gd ?_
 refine z4a rfl (pC (qhk n (q0n.mk l14 l15) p2 r18 h19)) fn9 ?_
 refine gd ?_
 refine z4a rfl (pC (qb3 n r21 h22)) fn5 ?_
 refine gd ?_
 refine RD.done ⟨by kernel_rfl,trivial,?_⟩
 refine go ?_
 exact xC ⟨rfl,rfl⟩
 obtain rfl:=sI h24
 refine z48 Tryz.tb_ok [] (by kernel_rfl) ?_
 refine gd ?_
 refine z4a rfl (pC (qh0 n (q0n.mk l14 l15) p2 r16 h17)) fn8 ?_
 refine gd ?_
 refine z4a rfl (pC (qhk n (q0n.mk l14 l15) p2 r18 h19)) fn9 ?_
 refine gd ?_
 refine RD.done ⟨by kernel_rfl,trivial,?_⟩
 refine go ?_
 exact xC ⟨rfl,rfl⟩
 refine cF hF (fun h13 hF=>?_) (fun h13 hF=>?_)
 obtain ⟨r25,h26,hF⟩:=q00 hF
 obtain ⟨r27,h28,hF⟩:=q00 hF
 refine go ?_
 refine RS.cl rfl (pC (qla n r25 h26) _) fn7 (RS.cl rfl (pC (qew n r25 r27 h28) _) fn6 ?_)
 refine go ?_
 exact xC ⟨r27.1.Types,r27.1.Feats,hF,rfl,rfl⟩
 refine go ?_
 exact xC ⟨r11.1.Types,r11.1.Feats,hF,rfl,rfl⟩
 rcases gB h7 with ⟨h3,h7⟩ | ⟨h3,h7⟩
 exact gy h7
 obtain ⟨r4,h5,h7⟩:=q00 h7
 obtain rfl:=sI h7
 refine go ?_
 refine RS.cl rfl (pC (qo7 n p2 r4 h5) _) fn4 ?_
 refine go ?_
 exact xC ⟨rfl,rfl⟩
end Go.Proofs
end
