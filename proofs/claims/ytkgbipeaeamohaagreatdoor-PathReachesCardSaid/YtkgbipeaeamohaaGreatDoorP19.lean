/-
  Texts of the walk: H4.
-/
import Derived.Test.YtkgbipeaeamohaaGreatDoorP18
set_option linter.unusedSimpArgs false
set_option linter.unusedVariables false
section
namespace Go.Proofs
open Go Go.Rx Go.Vx Tryz
set_option maxRecDepth 20000
set_option maxHeartbeats 4000000
set_option synthInstance.maxSize 4000
set_option synthInstance.maxHeartbeats 200000
theorem qn6 (n:Nat) (p1:List q04) (r:(List (List UInt8))) (hF:qf2 n p1=some r):EvU Tryz.prog 124 [.isl false (List.map q01 p1)] ⟨[],0⟩ (fun u _=>u = .isl false (List.map cS r)∧Bel 0 u):=by
 unfold qf2 at hF
 refine bg1 52 fn124 ?_
 refine gr ?_
 refine gr ?_
 refine gr ?_
 refine WPU.ghost (tm':=fr 52 [(0,.iM q01 p1),(3,.vl 0 0 0 (([]:List (List UInt8)).length)),(4,.bool true)]) (σ':=⟨[(0,.vec (List.map cS ([]:List (List UInt8))).flatten 9 1 0)],1⟩) (Gh.trans (z5g 3 9 1 (by decide) NZ rfl rfl) (z5d ⟨rfl,rfl,rfl,trivial⟩ rfl)) NZ ?_
 refine gS (l':=[(0,_),(3,_),(4,_)]) ?_
 refine z59 (fun m tm σ=>∃ b6:Bool,∃ l7:List (List UInt8),∃ t8:Nat,q2c p1 n m b6 l7=some r∧tm=fr 52 [(0,.iM q01 p1),(3,.vl 0 t8 0 l7.length),(4,.bool b6)]∧σ=⟨[(0,.vec (List.map cS l7).flatten 9 1 t8)],1⟩) (fun tm σ=>∃ l9:List (List UInt8),∃ t10:Nat,qa9 l9=some r∧tm=fr 52 [(3,.vl 0 t10 0 l9.length)]∧σ=⟨[(0,.vec (List.map cS l9).flatten 9 1 t10)],1⟩) n ⟨true,([]:List (List UInt8)),0,hF,rfl,rfl⟩ ?_ ?_
 rintro _ _ ⟨l9,t10,hF,rfl,rfl⟩
 unfold qa9 at hF
 refine go ?_
 obtain rfl:=sI hF
 exact rT (us:=[.vl 0 t10 0 l9.length]) (u:=.iM cS l9) (q28 rfl (q24)) (fR 0 1)
 rintro (_|m1) _ _ ⟨b6,l7,t8,hF,rfl,rfl⟩
 cases hF
 unfold q2c at hF
 refine go ?_
 refine cF hF (fun h11 hF=>?_) (fun h11 hF=>?_)
 refine go ?_
 refine WPU.block ?_
 refine go ?_
 refine gS (l':=[(0,_),(3,_),(4,_),(5,_),(6,_)]) ?_
 refine z59 (fun m tm σ=>∃ b18:Bool,∃ s19:List UInt8,∃ z20:Int,q2u p1 n l7 (q2c p1 n m1) m b18 s19 z20=some r∧tm=fr 52 [(0,.iM q01 p1),(3,.vl 0 t8 0 l7.length),(4,.bool b18),(5,.str s19),(6,.i6 z20)]∧σ=⟨[(0,.vec (List.map cS l7).flatten 9 1 t8)],1⟩) (fun tm σ=>∃ b21:Bool,∃ s22:List UInt8,qaa l7 (q2c p1 n m1) b21 s22=some r∧tm=fr 52 [(0,.iM q01 p1),(3,.vl 0 t8 0 l7.length),(4,.bool b21),(5,.str s22)]∧σ=⟨[(0,.vec (List.map cS l7).flatten 9 1 t8)],1⟩) n ⟨false,[],0,hF,rfl,rfl⟩ ?_ ?_
 rintro _ _ ⟨b21,s22,hF,rfl,rfl⟩
 unfold qaa at hF
 refine gr ?_
 refine z5a (fun tm σ=>∃ l24:List (List UInt8),∃ t25:Nat,q6m (q2c p1 n m1) b21 l24=some r∧tm=fr 52 [(0,.iM q01 p1),(3,.vl 0 t25 0 l24.length),(4,.bool b21)]∧σ=⟨[(0,.vec (List.map cS l24).flatten 9 1 t25)],1⟩) ?_ ?_
 rintro _ _ ⟨l24,t25,hF,rfl,rfl⟩
 unfold q6m at hF
 refine go ?_
 exact lC ⟨b21,l24,t25,hF,rfl,rfl⟩
 refine cF hF (fun h23 hF=>?_) (fun h23 hF=>?_)
 obtain ⟨h26,hF⟩:=q06 hF
 refine go ?_
 refine RS.g ?_
 refine RS.g ?_
 refine go ?_
 exact xC ⟨(l7++[s22]),(t8+1),hF,rfl,rfl⟩
 refine go ?_
 exact xC ⟨l7,t8,hF,rfl,rfl⟩
 rintro (_|m2) _ _ ⟨b18,s19,z20,hF,rfl,rfl⟩
 cases hF
 unfold q2u at hF
 refine go ?_
 refine cF hF (fun h27 hF=>?_) (fun h27 hF=>?_)
 refine go ?_
 refine WPU.block ?_
 obtain ⟨b37,h38,hF⟩:=q00 hF
 refine gn ?_
 refine z5a (fun tm σ=>tm=fr 52 [(0,.iM q01 p1),(3,.vl 0 t8 0 l7.length),(4,.bool b18),(5,.str s19),(6,.i6 z20),(29,.bool b37)]∧σ=⟨[(0,.vec (List.map cS l7).flatten 9 1 t8)],1⟩) ?_ ?_
 rintro _ _ ⟨rfl,rfl⟩
 refine go ?_
 refine cF hF (fun h39 hF=>?_) (fun h39 hF=>?_)
 refine go ?_
 exact lC ⟨b18,s19,(IntKind.i64.wrap (z20+1)),hF,rfl,rfl⟩
 obtain ⟨b43,h44,hF⟩:=q00 hF
 refine gn ?_
 refine z5a (fun tm σ=>tm=fr 52 [(0,.iM q01 p1),(3,.vl 0 t8 0 l7.length),(5,.str s19),(6,.i6 z20),(40,.bool b43)]∧σ=⟨[(0,.vec (List.map cS l7).flatten 9 1 t8)],1⟩) ?_ ?_
 rintro _ _ ⟨rfl,rfl⟩
 refine gn ?_
 refine z5a (fun tm σ=>∃ s46:List UInt8,q6n z20 (q2u p1 n l7 (q2c p1 n m1) m2) s46=some r∧tm=fr 52 [(0,.iM q01 p1),(3,.vl 0 t8 0 l7.length),(5,.str s46),(6,.i6 z20)]∧σ=⟨[(0,.vec (List.map cS l7).flatten 9 1 t8)],1⟩) ?_ ?_
 rintro _ _ ⟨s46,hF,rfl,rfl⟩
 unfold q6n at hF
 refine go ?_
 exact lC ⟨true,s46,(IntKind.i64.wrap (z20+1)),hF,rfl,rfl⟩
 refine cF hF (fun h45 hF=>?_) (fun h45 hF=>?_)
 obtain ⟨x47,h48,hF⟩:=q00 hF
 refine go ?_
 refine RS.ix h48 ?_
 refine go ?_
 exact xC ⟨x47.Name,hF,rfl,rfl⟩
 refine go ?_
 exact xC ⟨s19,hF,rfl,rfl⟩
 rcases gB h44 with ⟨h40,h44⟩ | ⟨h40,h44⟩
 exact gy h44
 obtain ⟨x41,h42,h44⟩:=q00 h44
 obtain rfl:=sI h44
 refine go ?_
 refine RS.ix h42 ?_
 refine go ?_
 refine RS.w (u:=.bool (q5z x41.Name s19)) rfl (q97 rfl rfl rfl rfl) ?_
 refine go ?_
 exact xC ⟨rfl,rfl⟩
 obtain ⟨x28,h29,h38⟩:=q00 h38
 obtain ⟨r30,h31,h38⟩:=q00 h38
 rcases gB h38 with ⟨h32,h38⟩ | ⟨h32,h38⟩
 obtain rfl:=sI h38
 refine go ?_
 refine RS.ix h29 ?_
 refine go ?_
 refine RS.cl rfl (vw (q20 n l7 x28.Name r30 h31) (z5c 0 1)) fn126 ?_
 refine go ?_
 exact xC ⟨rfl,rfl⟩
 obtain ⟨x33,h34,h38⟩:=q00 h38
 obtain ⟨r35,h36,h38⟩:=q00 h38
 obtain rfl:=sI h38
 refine go ?_
 refine RS.ix h29 ?_
 refine go ?_
 refine RS.cl rfl (vw (q20 n l7 x28.Name r30 h31) (z5c 0 1)) fn126 ?_
 refine go ?_
 refine RS.ix h34 ?_
 refine go ?_
 refine RS.cl rfl (vw (qp6 n x33 l7 r35 h36) (z5c 0 1)) fn149 ?_
 refine go ?_
 exact xC ⟨rfl,rfl⟩
 refine go ?_
 exact xC ⟨b18,s19,hF,rfl,rfl⟩
 refine go ?_
 exact xC ⟨l7,t8,hF,rfl,rfl⟩
def q83 (z15:Int) (rc1:Int→Int→Option (Int)) (z25:Int):Option (Int) :=
 rc1 z25 (IntKind.i64.wrap (z15+1))
def qbj (p1:List q04) (n:Nat) (z16:Int):Option (Int) :=
 cond (z16 != 1)
  (some 1)
  (q02 (qf2 n p1) fun r18 =>
  cond (decide ((r18.length:Int)<(p1.length:Int)))
   (some 6)
   (some 0))
def q4b (p1:List q04) (n:Nat):Nat→Int→Int→Option (Int)
 | 0,_,_=>none
 | m1+1,z14,z15 =>
  cond (decide (z15<(p1.length:Int)))
   (q02 (q0j p1 z15) fun x22 =>
   cond ((x22.Supers.length:Int) == 0)
    (q83 z15 (q4b p1 n m1) (IntKind.i64.wrap (z14+1)))
    (q83 z15 (q4b p1 n m1) z14))
   (qbj p1 n z14)
def qh1 (n:Nat) (p1:List q04):Option (Int) :=
 q02 (qh4 n p1) fun r2 =>
 cond (r2 != 0)
  (some r2)
  (q02 (qh2 n p1) fun r5 =>
  cond (r5 != 0)
   (some r5)
   (q02 (qf3 n p1) fun r8 =>
   cond (r8 != 0)
    (some r8)
    (q4b p1 n n 0 0)))
theorem qp4 (n:Nat) (p1:List q04) (r:Int) (hF:qh1 n p1=some r):EvU Tryz.prog 94 [.isl false (List.map q01 p1)] ⟨[],0⟩ (fun u _=>u = .int .i64 r∧Bel 0 u):=by
 unfold qh1 at hF
 refine bg1 46 fn94 ?_
 obtain ⟨r2,h3,hF⟩:=q00 hF
 refine go ?_
 refine RS.cl rfl (pC (qp7 n p1 r2 h3) _) fn121 ?_
 refine go ?_
 refine cF hF (fun h4 hF=>?_) (fun h4 hF=>?_)
 exact gx hF
 obtain ⟨r5,h6,hF⟩:=q00 hF
 refine go ?_
 refine RS.cl rfl (pC (qp5 n p1 r5 h6) _) fn122 ?_
 refine go ?_
 refine cF hF (fun h7 hF=>?_) (fun h7 hF=>?_)
 exact gx hF
 obtain ⟨r8,h9,hF⟩:=q00 hF
 refine go ?_
 refine RS.cl rfl (pC (qn7 n p1 r8 h9) _) fn123 ?_
 refine go ?_
 refine cF hF (fun h10 hF=>?_) (fun h10 hF=>?_)
 exact gx hF
 refine go ?_
 refine gS (l':=[(0,_),(6,_),(7,_)]) ?_
 refine z59 (fun m tm σ=>∃ z14:Int,∃ z15:Int,q4b p1 n m z14 z15=some r∧tm=fr 46 [(0,.iM q01 p1),(6,.i6 z14),(7,.i6 z15)]∧σ=⟨[],0⟩) (fun tm σ=>∃ z16:Int,qbj p1 n z16=some r∧tm=fr 46 [(0,.iM q01 p1),(6,.i6 z16)]∧σ=⟨[],0⟩) n ⟨0,0,hF,rfl,rfl⟩ ?_ ?_
 rintro _ _ ⟨z16,hF,rfl,rfl⟩
 unfold qbj at hF
 refine go ?_
 refine cF hF (fun h17 hF=>?_) (fun h17 hF=>?_)
 exact gx hF
 obtain ⟨r18,h19,hF⟩:=q00 hF
 refine go ?_
 refine RS.cl rfl (pC (qn6 n p1 r18 h19) _) fn124 ?_
 refine go ?_
 refine cF hF (fun h20 hF=>?_) (fun h20 hF=>?_)
 exact gx hF
 exact gx hF
 rintro (_|m1) _ _ ⟨z14,z15,hF,rfl,rfl⟩
 cases hF
 unfold q4b at hF
 refine go ?_
 refine cF hF (fun h21 hF=>?_) (fun h21 hF=>?_)
 refine go ?_
 refine WPU.block ?_
 obtain ⟨x22,h23,hF⟩:=q00 hF
 refine go ?_
 refine RS.ix h23 ?_
 refine gn ?_
 refine z5a (fun tm σ=>∃ z25:Int,q83 z15 (q4b p1 n m1) z25=some r∧tm=fr 46 [(0,.iM q01 p1),(6,.i6 z25),(7,.i6 z15)]∧σ=⟨[],0⟩) ?_ ?_
 rintro _ _ ⟨z25,hF,rfl,rfl⟩
 unfold q83 at hF
 refine go ?_
 exact lC ⟨z25,(IntKind.i64.wrap (z15+1)),hF,rfl,rfl⟩
 refine cF hF (fun h24 hF=>?_) (fun h24 hF=>?_)
 refine go ?_
 exact xC ⟨(IntKind.i64.wrap (z14+1)),hF,rfl,rfl⟩
 refine go ?_
 exact xC ⟨z14,hF,rfl,rfl⟩
 refine go ?_
 exact xC ⟨z14,hF,rfl,rfl⟩
def qf1 (p1:List (List UInt8)) (p2:List UInt8) (z7:Int):Option ((List (List UInt8))) :=
 q02 (cond (decide (z7<(p1.length:Int)))
  (q02 (q0j p1 z7) fun x9 =>
  some (q1c x9 p2))
  (some false)) fun b11 =>
 cond b11
  (some p1)
  (q02 (z1y p1 0 z7) fun l14 =>
  q0z (l14.length*16≤140737488355328∧l14.length≤140737488355328) (
  q0z ((l14.length+1)*16≤140737488355328∧l14.length+1≤140737488355328) (
  q02 (z1y p1 z7 (p1.length:Int)) fun l20 =>
  q0z (((l14++[p2]).length+l20.length)*16≤140737488355328∧(l14++[p2]).length+l20.length≤140737488355328) (
  some ((l14++[p2])++l20)))))
def qaz (p1:List (List UInt8)) (p2:List UInt8):Nat→Int→Option ((List (List UInt8)))
 | 0,_=>none
 | m1+1,z6 =>
  q02 (cond (decide (z6<(p1.length:Int)))
   (q02 (q0j p1 z6) fun x26 =>
   some (q5z x26 p2))
   (some false)) fun b28 =>
  cond b28
   ((qaz p1 p2 m1) (IntKind.i64.wrap (z6+1)))
   (qf1 p1 p2 z6)
def q8s (n:Nat) (p1:List (List UInt8)) (p2:List UInt8):Option ((List (List UInt8))) :=
 qaz p1 p2 n 0
theorem q7g (n:Nat) (p1:List (List UInt8)) (p2:List UInt8) (r:(List (List UInt8))) (hF:q8s n p1 p2=some r):EvU Tryz.prog 116 [.isl false (List.map cS p1),.str p2] ⟨[],0⟩ (fun u _=>u = .isl false (List.map cS r)∧Bel 0 u):=by
 unfold q8s at hF
 refine bg2 48 fn116 ?_
 refine go ?_
 refine gS (l':=[(0,_),(1,_),(5,_),(6,_)]) ?_
 refine z59 (fun m tm σ=>∃ z6:Int,qaz p1 p2 m z6=some r∧tm=fr 48 [(0,.iM cS p1),(1,.str p2),(5,.nils),(6,.i6 z6)]∧σ=⟨[],0⟩) (fun tm σ=>∃ z7:Int,qf1 p1 p2 z7=some r∧tm=fr 48 [(0,.iM cS p1),(1,.str p2),(5,.nils),(6,.i6 z7)]∧σ=⟨[],0⟩) n ⟨0,hF,rfl,rfl⟩ ?_ ?_
 rintro _ _ ⟨z7,hF,rfl,rfl⟩
 unfold qf1 at hF
 obtain ⟨b11,h12,hF⟩:=q00 hF
 refine gn ?_
 refine z5a (fun tm σ=>tm=fr 48 [(0,.iM cS p1),(1,.str p2),(5,.nils),(6,.i6 z7),(32,.bool b11)]∧σ=⟨[],0⟩) ?_ ?_
 rintro _ _ ⟨rfl,rfl⟩
 refine go ?_
 refine cF hF (fun h13 hF=>?_) (fun h13 hF=>?_)
 exact gx hF
 obtain ⟨l14,h15,hF⟩:=q00 hF
 obtain ⟨h16,h17⟩:=qwi cS .i64 h15
 obtain ⟨h18,hF⟩:=q06 hF
 refine go ?_
 refine RS.q (u:=.iM cS l14) rfl (qaw rfl qrq (z2b rfl) qrq (qup cS un80.h (q0r if9.h) qg7 h16 h17)) (RS.q (u:=.vl 0 0 0 l14.length) (σ':=⟨[(0,.vec (List.map cS l14).flatten 9 1 0)],1⟩) rfl (qau rfl rfl rfl rfl (qrx cS l14 un80.h un80.h if9.h rfl (qh9 cS qg7) h18)) ?_)
 obtain ⟨h19,hF⟩:=q06 hF
 refine go ?_
 refine RS.g ?_
 refine RS.g ?_
 obtain ⟨l20,h21,hF⟩:=q00 hF
 obtain ⟨h22,h23⟩:=cut_lo cS .i64 h21
 obtain ⟨h24,hF⟩:=q06 hF
 refine go ?_
 refine RS.q (u:=.iM cS l20) rfl (qaw rfl (z2b rfl) qrq qrq (qup cS un80.h (q0r if9.h) qg7 h22 h23)) ?_
 refine RS.g ?_
 refine go ?_
 obtain rfl:=sI hF
 exact rT (us:=[.vl 0 2 0 (((l14++[p2])++l20).length)]) (u:=.iM cS ((l14++[p2])++l20)) (q28 rfl (q24)) (fR 0 1)
 rcases gB h12 with ⟨h8,h12⟩ | ⟨h8,h12⟩
 obtain ⟨x9,h10,h12⟩:=q00 h12
 obtain rfl:=sI h12
 refine go ?_
 refine RS.ix h10 ?_
 refine go ?_
 refine RS.w (u:=.bool (q1c x9 p2)) rfl (q97 rfl rfl rfl rfl) ?_
 refine go ?_
 exact xC ⟨rfl,rfl⟩
 exact gy h12
 rintro (_|m1) _ _ ⟨z6,hF,rfl,rfl⟩
 cases hF
 unfold qaz at hF
 obtain ⟨b28,h29,hF⟩:=q00 hF
 refine gn ?_
 refine z5a (fun tm σ=>tm=fr 48 [(0,.iM cS p1),(1,.str p2),(5,.nils),(6,.i6 z6),(18,.bool b28)]∧σ=⟨[],0⟩) ?_ ?_
 rintro _ _ ⟨rfl,rfl⟩
 refine go ?_
 refine cF hF (fun h30 hF=>?_) (fun h30 hF=>?_)
 refine go ?_
 refine WPU.block ?_
 refine go ?_
 exact lC ⟨_,hF,rfl,rfl⟩
 refine go ?_
 exact xC ⟨z6,hF,rfl,rfl⟩
 rcases gB h29 with ⟨h25,h29⟩ | ⟨h25,h29⟩
 obtain ⟨x26,h27,h29⟩:=q00 h29
 obtain rfl:=sI h29
 refine go ?_
 refine RS.ix h27 ?_
 refine go ?_
 refine RS.w (u:=.bool (q5z x26 p2)) rfl (q97 rfl rfl rfl rfl) ?_
 refine go ?_
 exact xC ⟨rfl,rfl⟩
 exact gy h29
def qbk  (l7:List (List UInt8)):Option ((List (List UInt8))) :=
 some l7
def q84 (p1:List q04) (n:Nat):Nat→(List (List UInt8))→Int→Option ((List (List UInt8)))
 | 0,_,_=>none
 | m1+1,l5,z6 =>
  cond (decide (z6<(p1.length:Int)))
   (q02 (q0j p1 z6) fun x9 =>
   q02 (q8s n l5 x9.Name) fun r11 =>
   (q84 p1 n m1) r11 (IntKind.i64.wrap (z6+1)))
   (qbk l5)
def qdk (n:Nat) (p1:List q04):Option ((List (List UInt8))) :=
 q84 p1 n n [] 0
theorem qie (n:Nat) (p1:List q04) (r:(List (List UInt8))) (hF:qdk n p1=some r):EvU Tryz.prog 95 [.isl false (List.map q01 p1)] ⟨[],0⟩ (fun u _=>u = .isl false (List.map cS r)∧Bel 0 u):=by
 unfold qdk at hF
 refine bg1 19 fn95 ?_
 refine gr ?_
 refine gr ?_
 refine gr ?_
 refine WPU.ghost (tm':=fr 19 [(0,.iM q01 p1),(3,.iM cS []),(4,.i6 0)]) (Gh.trans (Gh.sub (l':=[(0,.iM q01 p1),(3,.nils),(4,.i6 0)]) ⟨rfl,rfl,rfl,trivial⟩) (Gh.wkS (l':=[(0,.iM q01 p1),(3,.iM cS []),(4,.i6 0)]) (.cons (.refl _) (.cons (.nil false) (.cons (.refl _) .nil))))) NZ ?_
 refine gS (l':=[(0,_),(3,_),(4,_)]) ?_
 refine z59 (fun m tm σ=>∃ l5:List (List UInt8),∃ z6:Int,q84 p1 n m l5 z6=some r∧tm=fr 19 [(0,.iM q01 p1),(3,.iM cS l5),(4,.i6 z6)]∧σ=⟨[],0⟩) (fun tm σ=>∃ l7:List (List UInt8),qbk l7=some r∧tm=fr 19 [(3,.iM cS l7)]∧σ=⟨[],0⟩) n ⟨[],0,hF,rfl,rfl⟩ ?_ ?_
 rintro _ _ ⟨l7,hF,rfl,rfl⟩
 unfold qbk at hF
 exact gx hF
 rintro (_|m1) _ _ ⟨l5,z6,hF,rfl,rfl⟩
 cases hF
 unfold q84 at hF
 refine go ?_
 refine cF hF (fun h8 hF=>?_) (fun h8 hF=>?_)
 refine go ?_
 refine WPU.block ?_
 obtain ⟨x9,h10,hF⟩:=q00 hF
 obtain ⟨r11,h12,hF⟩:=q00 hF
 refine go ?_
 refine RS.ix h10 ?_
 refine go ?_
 refine RS.cl rfl (pC (q7g n l5 x9.Name r11 h12) _) fn116 ?_
 refine go ?_
 exact lC ⟨r11,(IntKind.i64.wrap (z6+1)),hF,rfl,rfl⟩
 refine go ?_
 exact xC ⟨l5,hF,rfl,rfl⟩
def qbh  (l21:List (List UInt8)):Option ((List (List UInt8))) :=
 some l21
def q82 (n:Nat) (l13:List (List UInt8)):Nat→(List (List UInt8))→Int→Option ((List (List UInt8)))
 | 0,_,_=>none
 | m2+1,l19,z20 =>
  cond (decide (z20<(l13.length:Int)))
   (q02 (q0j l13 z20) fun x23 =>
   q02 (q8s n l19 x23) fun r25 =>
   (q82 n l13 m2) r25 (IntKind.i64.wrap (z20+1)))
   (qbh l19)
def q81 (z33:Int) (rc3:Int→(List (List UInt8))→Option ((List (List UInt8)))) (l53:List (List UInt8)):Option ((List (List UInt8))) :=
 rc3 (IntKind.i64.wrap (z33+1)) l53
def qbi (z10:Int) (rc1:Int→(List (List UInt8))→Option ((List (List UInt8)))) (l36:List (List UInt8)):Option ((List (List UInt8))) :=
 rc1 (IntKind.i64.wrap (z10+1)) l36
def q4a (p1:List q04) (n:Nat) (z10:Int) (rc1:Int→(List (List UInt8))→Option ((List (List UInt8)))):Nat→Int→(List (List UInt8))→Option ((List (List UInt8)))
 | 0,_,_=>none
 | m3+1,z33,l34 =>
  cond (decide (z33<(p1.length:Int)))
   (q02 (q02 (q0j p1 z33) fun x39 =>
   q02 (q0j l34 z10) fun x41 =>
   q02 (q2t n x39.Supers x41) fun r43 =>
   cond r43
    (q02 (q0j p1 z33) fun x46 =>
    q02 (q2t n l34 x46.Name) fun r48 =>
    some (!r48))
    (some false)) fun b50 =>
   cond b50
    (q02 (q0j p1 z33) fun x55 =>
    q0z ((l34.length+1)*16≤140737488355328∧l34.length+1≤140737488355328) (
    q81 z33 (q4a p1 n z10 rc1 m3) (l34++[x55.Name])))
    (q81 z33 (q4a p1 n z10 rc1 m3) l34))
   (qbi z10 rc1 l34)
def qbg (n:Nat) (l13:List (List UInt8)):Option ((List (List UInt8))) :=
 q82 n l13 n [] 0
def q3g (p1:List q04) (n:Nat):Nat→Int→(List (List UInt8))→Option ((List (List UInt8)))
 | 0,_,_=>none
 | m1+1,z10,l11 =>
  cond (decide (z10<(l11.length:Int)))
   (q4a p1 n z10 (q3g p1 n m1) n 0 l11)
   (qbg n l11)
def qh0 (n:Nat) (p1:List q04) (p2:List UInt8):Option ((List (List UInt8))) :=
 q02 (q67 n p1 p2) fun r3 =>
 cond (decide (r3<0))
  (some [])
  (q3g p1 n n 0 ([p2]))
theorem qp3 (n:Nat) (p1:List q04) (p2:List UInt8) (r:(List (List UInt8))) (hF:qh0 n p1 p2=some r):EvU Tryz.prog 125 [.isl false (List.map q01 p1),.str p2] ⟨[],0⟩ (fun u _=>u = .isl false (List.map cS r)∧Bel 0 u):=by
 unfold qh0 at hF
 refine bg2 69 fn125 ?_
 obtain ⟨r3,h4,hF⟩:=q00 hF
 refine go ?_
 refine RS.cl rfl (pC (q68 n p1 p2 r3 h4) _) fn148 ?_
 refine go ?_
 refine cF hF (fun h5 hF=>?_) (fun h5 hF=>?_)
 refine go ?_
 obtain rfl:=sI hF
 exact rT (us:=[.nils]) (u:=.isl false []) (q28 rfl (q24)) wR
 refine go ?_
 refine RS.step (u:=.vl 0 0 0 ([p2].length)) (σ':=⟨[(0,.vec (List.map cS ([p2])).flatten 9 1 0)],1⟩) rfl (qe9.bslv (cs:=(List.map cS [p2]).flatten) Tryz.tb_ok rfl un80.h if9.h rfl rfl rfl rfl rfl rfl rfl rfl) rfl rfl ?_
 refine go ?_
 refine gS (l':=[(0,_),(5,_),(6,_)]) ?_
 refine z59 (fun m tm σ=>∃ z10:Int,∃ l11:List (List UInt8),∃ t12:Nat,q3g p1 n m z10 l11=some r∧tm=fr 69 [(0,.iM q01 p1),(5,.vl 0 t12 0 l11.length),(6,.i6 z10)]∧σ=⟨[(0,.vec (List.map cS l11).flatten 9 1 t12)],1⟩) (fun tm σ=>∃ l13:List (List UInt8),∃ t14:Nat,qbg n l13=some r∧tm=fr 69 [(5,.vl 0 t14 0 l13.length)]∧σ=⟨[(0,.vec (List.map cS l13).flatten 9 1 t14)],1⟩) n ⟨0,[p2],0,hF,rfl,rfl⟩ ?_ ?_
 rintro _ _ ⟨l13,t14,hF,rfl,rfl⟩
 unfold qbg at hF
 refine gr ?_
 refine gr ?_
 refine WPU.ghost (tm':=fr 69 [(5,.vl 0 t14 0 l13.length),(8,.iM cS []),(9,.i6 0)]) (Gh.trans (Gh.sub (l':=[(5,.vl 0 t14 0 l13.length),(8,.nils),(9,.i6 0)]) ⟨rfl,rfl,rfl,trivial⟩) (Gh.wkS (l':=[(5,.vl 0 t14 0 l13.length),(8,.iM cS []),(9,.i6 0)]) (.cons (.refl _) (.cons (.nil false) (.cons (.refl _) .nil))))) NZ ?_
 refine gS (l':=[(5,_),(8,_),(9,_)]) ?_
 refine z59 (fun m tm σ=>∃ l19:List (List UInt8),∃ z20:Int,q82 n l13 m l19 z20=some r∧tm=fr 69 [(5,.vl 0 t14 0 l13.length),(8,.iM cS l19),(9,.i6 z20)]∧σ=⟨[(0,.vec (List.map cS l13).flatten 9 1 t14)],1⟩) (fun tm σ=>∃ l21:List (List UInt8),qbh l21=some r∧tm=fr 69 [(8,.iM cS l21)]∧σ=⟨[(0,.vec (List.map cS l13).flatten 9 1 t14)],1⟩) n ⟨[],0,hF,rfl,rfl⟩ ?_ ?_
 rintro _ _ ⟨l21,hF,rfl,rfl⟩
 unfold qbh at hF
 exact gx hF
 rintro (_|m2) _ _ ⟨l19,z20,hF,rfl,rfl⟩
 cases hF
 unfold q82 at hF
 refine go ?_
 refine cF hF (fun h22 hF=>?_) (fun h22 hF=>?_)
 refine go ?_
 refine WPU.block ?_
 obtain ⟨x23,h24,hF⟩:=q00 hF
 obtain ⟨r25,h26,hF⟩:=q00 hF
 refine go ?_
 refine RS.q rfl (q3t rfl rfl (q8m cS un80.h (q0r if9.h) (by decide) qg7 (vo rfl) h24)) ?_
 refine RS.q rfl (q5i cS (fun x=>.str x) un9.h rfl (fun _=>rfl) rfl rfl h24) (RS.cl rfl (pC (q7g n l19 x23 r25 h26) _) fn116 ?_)
 refine go ?_
 exact lC ⟨r25,(IntKind.i64.wrap (z20+1)),hF,rfl,rfl⟩
 refine go ?_
 exact xC ⟨l19,hF,rfl,rfl⟩
 rintro (_|m1) _ _ ⟨z10,l11,t12,hF,rfl,rfl⟩
 cases hF
 unfold q3g at hF
 refine go ?_
 refine cF hF (fun h27 hF=>?_) (fun h27 hF=>?_)
 refine go ?_
 refine WPU.block ?_
 refine go ?_
 refine gS (l':=[(0,_),(5,_),(6,_),(7,_)]) ?_
 refine z59 (fun m tm σ=>∃ z33:Int,∃ l34:List (List UInt8),∃ t35:Nat,q4a p1 n z10 (q3g p1 n m1) m z33 l34=some r∧tm=fr 69 [(0,.iM q01 p1),(5,.vl 0 t35 0 l34.length),(6,.i6 z10),(7,.i6 z33)]∧σ=⟨[(0,.vec (List.map cS l34).flatten 9 1 t35)],1⟩) (fun tm σ=>∃ l36:List (List UInt8),∃ t37:Nat,qbi z10 (q3g p1 n m1) l36=some r∧tm=fr 69 [(0,.iM q01 p1),(5,.vl 0 t37 0 l36.length),(6,.i6 z10)]∧σ=⟨[(0,.vec (List.map cS l36).flatten 9 1 t37)],1⟩) n ⟨0,l11,t12,hF,rfl,rfl⟩ ?_ ?_
 rintro _ _ ⟨l36,t37,hF,rfl,rfl⟩
 unfold qbi at hF
 refine go ?_
 exact lC ⟨_,l36,t37,hF,rfl,rfl⟩
 rintro (_|m3) _ _ ⟨z33,l34,t35,hF,rfl,rfl⟩
 cases hF
 unfold q4a at hF
 refine go ?_
 refine cF hF (fun h38 hF=>?_) (fun h38 hF=>?_)
 refine go ?_
 refine WPU.block ?_
 obtain ⟨b50,h51,hF⟩:=q00 hF
 refine gn ?_
 refine z5a (fun tm σ=>tm=fr 69 [(0,.iM q01 p1),(5,.vl 0 t35 0 l34.length),(6,.i6 z10),(7,.i6 z33),(47,.bool b50)]∧σ=⟨[(0,.vec (List.map cS l34).flatten 9 1 t35)],1⟩) ?_ ?_
 rintro _ _ ⟨rfl,rfl⟩
 refine gn ?_
 refine z5a (fun tm σ=>∃ l53:List (List UInt8),∃ t54:Nat,q81 z33 (q4a p1 n z10 (q3g p1 n m1) m3) l53=some r∧tm=fr 69 [(0,.iM q01 p1),(5,.vl 0 t54 0 l53.length),(6,.i6 z10),(7,.i6 z33)]∧σ=⟨[(0,.vec (List.map cS l53).flatten 9 1 t54)],1⟩) ?_ ?_
 rintro _ _ ⟨l53,t54,hF,rfl,rfl⟩
 unfold q81 at hF
 refine go ?_
 exact lC ⟨_,l53,t54,hF,rfl,rfl⟩
 refine cF hF (fun h52 hF=>?_) (fun h52 hF=>?_)
 obtain ⟨x55,h56,hF⟩:=q00 hF
 obtain ⟨h57,hF⟩:=q06 hF
 refine go ?_
 refine RS.ix h56 ?_
 refine go ?_
 refine RS.g ?_
 refine RS.g ?_
 refine go ?_
 exact xC ⟨(l34++[x55.Name]),(t35+1),hF,rfl,rfl⟩
 refine go ?_
 exact xC ⟨l34,t35,hF,rfl,rfl⟩
 obtain ⟨x39,h40,h51⟩:=q00 h51
 obtain ⟨x41,h42,h51⟩:=q00 h51
 obtain ⟨r43,h44,h51⟩:=q00 h51
 rcases gB h51 with ⟨h45,h51⟩ | ⟨h45,h51⟩
 obtain ⟨x46,h47,h51⟩:=q00 h51
 obtain ⟨r48,h49,h51⟩:=q00 h51
 obtain rfl:=sI h51
 refine z5b Tryz.tb_ok [] (by kernel_rfl) ?_
 refine gd ?_
 refine RD.ix h40 ?_
 refine gd ?_
 refine RD.q rfl (q3t rfl rfl (q8m cS un80.h (q0r if9.h) (by decide) qg7 (vo rfl) h42)) ?_
 refine RD.q rfl (q5i cS (fun x=>.str x) un9.h rfl (fun _=>rfl) rfl rfl h42) (z5l rfl (pC (q20 n x39.Supers x41 r43 h44)) fn126 ?_)
 refine gd ?_
 refine RD.ix h47 ?_
 refine gd ?_
 refine RD.call (u:=.bool r48) (args:=[.vl 0 t35 0 l34.length,.str x46.Name]) (z56 rfl rfl rfl h45) (q4j rfl rfl fn126 hb126 rfl rfl) (vw (q20 n l34 x46.Name r48 h49) (z5c 0 1)) rfl rfl ?_
 refine gd ?_
 refine RD.done ⟨by kernel_rfl,trivial,?_⟩
 refine go ?_
 exact xC ⟨rfl,rfl⟩
 obtain rfl:=sI h51
 refine z5b Tryz.tb_ok [] (by kernel_rfl) ?_
 refine gd ?_
 refine RD.ix h40 ?_
 refine gd ?_
 refine RD.q rfl (q3t rfl rfl (q8m cS un80.h (q0r if9.h) (by decide) qg7 (vo rfl) h42)) ?_
 refine RD.q rfl (q5i cS (fun x=>.str x) un9.h rfl (fun _=>rfl) rfl rfl h42) (z5l rfl (pC (q20 n x39.Supers x41 r43 h44)) fn126 ?_)
 refine gd ?_
 refine RD.done ⟨by kernel_rfl,trivial,?_⟩
 refine go ?_
 exact xC ⟨rfl,rfl⟩
 refine go ?_
 exact xC ⟨l34,t35,hF,rfl,rfl⟩
 refine go ?_
 exact xC ⟨l11,t12,hF,rfl,rfl⟩
def qa7 (p1:List Int) (z5:Int):Option ((List Int)) :=
 q02 (z1y p1 0 z5) fun l6 =>
 q0z (l6.length*8≤140737488355328∧l6.length≤140737488355328) (
 some l6)
def q6k (p1:List Int):Nat→Int→Option ((List Int))
 | 0,_=>none
 | m1+1,z4 =>
  q02 (cond (decide (z4 > 0))
   (q02 (q0j p1 (IntKind.i64.wrap (z4 - 1))) fun x12 =>
   some (x12 == 0))
   (some false)) fun b14 =>
  cond b14
   ((q6k p1 m1) (IntKind.i64.wrap (z4 - 1)))
   (qa7 p1 z4)
def q66 (n:Nat) (p1:List Int):Option ((List Int)) :=
 q6k p1 n (p1.length:Int)
theorem q7v (n:Nat) (p1:List Int) (r:(List Int)) (hF:q66 n p1=some r):EvU Tryz.prog 119 [.isl false (List.map (cI .u64) p1)] ⟨[],0⟩ (fun u _=>u = .isl false (List.map (cI .u64) r)∧Bel 0 u):=by
 unfold q66 at hF
 refine bg1 23 fn119 ?_
 refine go ?_
 refine gS (l':=[(0,_),(3,_)]) ?_
 refine z59 (fun m tm σ=>∃ z4:Int,q6k p1 m z4=some r∧tm=fr 23 [(0,.iM (cI .u64) p1),(3,.i6 z4)]∧σ=⟨[],0⟩) (fun tm σ=>∃ z5:Int,qa7 p1 z5=some r∧tm=fr 23 [(0,.iM (cI .u64) p1),(3,.i6 z5)]∧σ=⟨[],0⟩) n ⟨(p1.length:Int),hF,rfl,rfl⟩ ?_ ?_
 rintro _ _ ⟨z5,hF,rfl,rfl⟩
 unfold qa7 at hF
 obtain ⟨l6,h7,hF⟩:=q00 hF
 obtain ⟨h8,h9⟩:=qwi (cI .u64) .i64 h7
 obtain ⟨h10,hF⟩:=q06 hF
 refine go ?_
 refine RS.q (u:=.sl 0 0 0 0) (σ':=⟨[(0,.row [] 191)],1⟩) rfl (q6h un103.h if191.h rfl rfl rfl rfl rfl rfl rfl) ?_
 refine go ?_
 refine RS.q (u:=.iM (cI .u64) l6) rfl (qaw rfl qrq (z2b rfl) qrq (qup (cI .u64) un103.h (q0r if191.h) (q5n .u64) h8 h9)) (RS.q (u:=.vl 1 0 0 l6.length) (σ':=⟨[(1,.vec (List.map (cI .u64) l6).flatten 191 1 0),(0,.row [] 191)],2⟩) rfl (qau rfl rfl rfl rfl (qo8 (cI .u64) l6 un103.h un103.h if191.h rfl rfl rfl (qh9 (cI .u64) (q5n .u64)) h10)) ?_)
 refine go ?_
 obtain rfl:=sI hF
 exact rT (us:=[.vl 1 0 0 l6.length]) (u:=.iM (cI .u64) l6) (q28 rfl (q24)) (fR 1 1)
 rintro (_|m1) _ _ ⟨z4,hF,rfl,rfl⟩
 cases hF
 unfold q6k at hF
 obtain ⟨b14,h15,hF⟩:=q00 hF
 refine gn ?_
 refine z5a (fun tm σ=>tm=fr 23 [(0,.iM (cI .u64) p1),(3,.i6 z4),(15,.bool b14)]∧σ=⟨[],0⟩) ?_ ?_
 rintro _ _ ⟨rfl,rfl⟩
 refine go ?_
 refine cF hF (fun h16 hF=>?_) (fun h16 hF=>?_)
 refine go ?_
 refine WPU.block ?_
 refine go ?_
 exact lC ⟨_,hF,rfl,rfl⟩
 refine go ?_
 exact xC ⟨z4,hF,rfl,rfl⟩
 rcases gB h15 with ⟨h11,h15⟩ | ⟨h11,h15⟩
 obtain ⟨x12,h13,h15⟩:=q00 h15
 obtain rfl:=sI h15
 refine go ?_
 refine RS.ix h13 ?_
 refine go ?_
 exact xC ⟨rfl,rfl⟩
 exact gy h15
def qgy (n:Nat) (l8:List Int):Option ((List Int)×Int) :=
 q0z ((64:Int).toNat=l8.length) (
 q02 (q66 n l8) fun r10 =>
 some (r10,0))
def qdi (p1:List Int) (n:Nat):Nat→Int→(List Int)→Option ((List Int)×Int)
 | 0,_,_=>none
 | m1+1,z6,l7 =>
  cond (decide (z6<(p1.length:Int)))
   (q02 (q02 (q0j p1 z6) fun x13 =>
   cond (decide (x13<0))
    (some true)
    (q02 (q0j p1 z6) fun x16 =>
    some (decide (x16 > 4095)))) fun b18 =>
   cond b18
    (some ([],2))
    (q02 (q0j p1 z6) fun x21 =>
    q02 (q0j p1 z6) fun x24 =>
    q02 (qkg l7 0 ((64:Int).toNat) (IntKind.i64.wrap (x24.tdiv 64))) fun x27 =>
    q02 (q0j p1 z6) fun x29 =>
    q0z (¬ (IntKind.u64.wrap (x29.tmod 64))<0) (
    q02 (qkg l7 0 ((64:Int).toNat) (IntKind.i64.wrap (x21.tdiv 64))) fun x33 =>
    (qdi p1 n m1) (IntKind.i64.wrap (z6+1)) (l7.set (IntKind.i64.wrap (x21.tdiv 64)).toNat (orI .u64 x27 (IntKind.u64.wrap (1*(2 ^ (min (IntKind.u64.wrap (x29.tmod 64)).toNat IntKind.u64.bits)))))))))
   (qgy n l7)
def qp1 (n:Nat) (p1:List Int):Option ((List Int)×Int) :=
 q0z (0≤(64:Int)∧8*(64:Int).toNat≤281474976710656∧(64:Int)≤281474976710656) (
 qdi p1 n n 0 (List.replicate (64:Int).toNat 0))
theorem qvm (n:Nat) (p1:List Int) (r:(List Int)×Int) (hF:qp1 n p1=some r):EvU Tryz.prog 127 [.isl false (List.map (cI .i64) p1)] ⟨[],0⟩ (fun u _=>u = .tup [.isl false (List.map (cI .u64) r.1),.int .i64 r.2]∧Bel 0 u):=by
 unfold qp1 at hF
 refine bg1 50 fn127 ?_
 obtain ⟨h2,hF⟩:=q06 hF
 refine go ?_
 refine RS.q (u:=.sl 0 0 ((64:Int).toNat) ((64:Int).toNat)) (σ':=⟨[(0,.row (List.map (cI .u64) (List.replicate (64:Int).toNat 0)).flatten 191)],1⟩) rfl (qu2 (cI .u64) 0 rfl rfl un103.h if191.h rfl rfl rfl rfl h2) ?_
 refine go ?_
 refine gS (l':=[(0,_),(4,_),(5,_)]) ?_
 refine z59 (fun m tm σ=>∃ z6:Int,∃ l7:List Int,qdi p1 n m z6 l7=some r∧tm=fr 50 [(0,.iM (cI .i64) p1),(4,.sl 0 0 ((64:Int).toNat) ((64:Int).toNat)),(5,.i6 z6)]∧σ=⟨[(0,.row (List.map (cI .u64) l7).flatten 191)],1⟩) (fun tm σ=>∃ l8:List Int,qgy n l8=some r∧tm=fr 50 [(4,.sl 0 0 ((64:Int).toNat) ((64:Int).toNat))]∧σ=⟨[(0,.row (List.map (cI .u64) l8).flatten 191)],1⟩) n ⟨0,(List.replicate (64:Int).toNat 0),hF,rfl,rfl⟩ ?_ ?_
 rintro _ _ ⟨l8,hF,rfl,rfl⟩
 unfold qgy at hF
 obtain ⟨h9,hF⟩:=q06 hF
 refine gn ?_
 refine WPU.ghost (tm':=fr 50 [(4,.iM (cI .u64) l8)]) (σ':=⟨[],1⟩) (Gh.trans (Gh.sub (l':=[(4,.sl 0 0 ((64:Int).toNat) ((64:Int).toNat))]) ⟨rfl,trivial⟩) (Gh.fzS (l':=[(4,.iM (cI .u64) l8)]) (h':=[]) 0 (.row (List.map (cI .u64) l8).flatten 191) 1 rfl (by simp) (by simp only [fzS,qk3,qb6,q5p,qhq,qcl,qhs,qcn,qel,qek,qej,qcm,qhr,qjz,qhp,qht,qmy,qkh,qx8 (q5n .u64) h9]) (by simp only [fzH,fzB,ug,Nat.beq,cond_true,cond_false,qk3,qb6,q5p,qhq,qcl,qhs,qcn,qel,qek,qej,qcm,qhr,qjz,qhp,qht,qmy,qkh,qx8 (q5n .u64) h9]))) NZ ?_
 obtain ⟨r10,h11,hF⟩:=q00 hF
 refine go ?_
 refine RS.cl rfl (pC (q7v n l8 r10 h11) _) fn119 ?_
 refine go ?_
 obtain rfl:=sI hF
 exact rt2 rfl rfl rfl rfl rfl
 rintro (_|m1) _ _ ⟨z6,l7,hF,rfl,rfl⟩
 cases hF
 unfold qdi at hF
 refine go ?_
 refine cF hF (fun h12 hF=>?_) (fun h12 hF=>?_)
 refine go ?_
 refine WPU.block ?_
 obtain ⟨b18,h19,hF⟩:=q00 hF
 refine gn ?_
 refine z5a (fun tm σ=>tm=fr 50 [(0,.iM (cI .i64) p1),(4,.sl 0 0 ((64:Int).toNat) ((64:Int).toNat)),(5,.i6 z6),(24,.bool b18)]∧σ=⟨[(0,.row (List.map (cI .u64) l7).flatten 191)],1⟩) ?_ ?_
 rintro _ _ ⟨rfl,rfl⟩
 refine go ?_
 refine cF hF (fun h20 hF=>?_) (fun h20 hF=>?_)
 refine go ?_
 obtain rfl:=sI hF
 exact rT (us:=[.nils,.i6 2]) (u:=.tup [.isl false [],.i6 2]) (q28 rfl (q28 rfl (q24))) wR
 obtain ⟨x21,h22,hF⟩:=q00 hF
 obtain ⟨x24,h25,hF⟩:=q00 hF
 obtain ⟨x27,h28,hF⟩:=q00 hF
 obtain ⟨x29,h30,hF⟩:=q00 hF
 obtain ⟨h32,hF⟩:=q06 hF
 obtain ⟨x33,h34,hF⟩:=q00 hF
 refine go ?_
 refine z5b Tryz.tb_ok [] (by kernel_rfl) ?_
 refine gd ?_
 refine RD.ix h22 ?_
 refine gd ?_
 refine RD.q rfl (qav rfl rfl (qto _ (by decide)) rfl) ?_
 refine gd ?_
 refine RD.ix h25 ?_
 refine gd ?_
 refine RD.q rfl (qav rfl rfl (qto _ (by decide)) rfl) ?_
 refine RD.q rfl (q3t rfl rfl (qs8 un103.h (q0r if191.h) rfl h28)) (RD.q (u:=.int .u64 x27) rfl (z2r (cI .u64) (fun x=>.int .u64 x) un191.h rfl (fun _=>rfl) rfl rfl h28) ?_)
 refine gd ?_
 refine RD.ix h30 ?_
 refine gd ?_
 refine RD.q rfl (qav rfl rfl (z2q _ (by decide)) rfl) ?_
 refine RD.q (u:=.int .u64 (IntKind.u64.wrap (x29.tmod 64))) rfl (qsl rfl rfl (by simp only [qpz,un3.h,un190.h]<;>rfl) rfl) ?_
 refine RD.q rfl (qav rfl rfl (ix_shl _ h32) rfl) (RD.q rfl (qav rfl rfl (ix_or _ _ _) rfl) (RD.q rfl (q3t rfl rfl (qs8 un103.h (q0r if191.h) rfl h34)) (z5q (u:=.junk) (σ':=⟨[(0,.row (List.map (cI .u64) (l7.set (IntKind.i64.wrap (x21.tdiv 64)).toNat (orI .u64 x27 (IntKind.u64.wrap (1*(2 ^ (min (IntKind.u64.wrap (x29.tmod 64)).toNat IntKind.u64.bits))))))).flatten 191)],1⟩) rfl (qyz (cI .u64) (q0r if191.h) (q5n .u64) rfl rfl rfl rfl rfl rfl h34 rfl) rfl ?_)))
 refine RD.done ⟨by kernel_rfl,trivial,?_⟩
 refine go ?_
 exact lC ⟨_,(l7.set (IntKind.i64.wrap (x21.tdiv 64)).toNat (orI .u64 x27 (IntKind.u64.wrap (1*(2 ^ (min (IntKind.u64.wrap (x29.tmod 64)).toNat IntKind.u64.bits)))))),hF,rfl,rfl⟩
 obtain ⟨x13,h14,h19⟩:=q00 h19
 rcases gB h19 with ⟨h15,h19⟩ | ⟨h15,h19⟩
 obtain rfl:=sI h19
 refine go ?_
 refine RS.ix h14 ?_
 refine go ?_
 exact xC ⟨rfl,rfl⟩
 obtain ⟨x16,h17,h19⟩:=q00 h19
 obtain rfl:=sI h19
 refine go ?_
 refine RS.ix h14 ?_
 refine go ?_
 refine RS.ix h17 ?_
 refine go ?_
 exact xC ⟨rfl,rfl⟩
 refine go ?_
 exact xC ⟨l7,hF,rfl,rfl⟩
def q9o (z11:Int) (rc1:Int→(List Int)→Option ((List Int))) (l24:List Int):Option ((List Int)) :=
 rc1 (IntKind.i64.wrap (z11+1)) l24
def qdn (n:Nat) (l14:List Int):Option ((List Int)) :=
 q02 (qp1 n l14) fun r16 =>
 some r16.1
def q57 (p2:List (List UInt8)) (n:Nat) (r4:(List (List UInt8))):Nat→Int→(List Int)→Option ((List Int))
 | 0,_,_=>none
 | m1+1,z11,l12 =>
  cond (decide (z11<(p2.length:Int)))
   (q02 (q0j p2 z11) fun x19 =>
   q02 (q2t n r4 x19) fun r21 =>
   cond r21
    (q0z ((l12.length+1)*8≤140737488355328∧l12.length+1≤140737488355328) (
    q9o z11 (q57 p2 n r4 m1) (l12++[z11])))
    (q9o z11 (q57 p2 n r4 m1) l12))
   (qdn n l12)
def qjk (n:Nat) (p1:List q04) (p2:List (List UInt8)) (p3:List UInt8):Option ((List Int)) :=
 q02 (qh0 n p1 p3) fun r4 =>
 q57 p2 n r4 n 0 ([]:List Int)
theorem qr6 (n:Nat) (p1:List q04) (p2:List (List UInt8)) (p3:List UInt8) (r:(List Int)) (hF:qjk n p1 p2 p3=some r):EvU Tryz.prog 96 [.isl false (List.map q01 p1),.isl false (List.map cS p2),.str p3] ⟨[],0⟩ (fun u _=>u = .isl false (List.map (cI .u64) r)∧Bel 0 u):=by
 unfold qjk at hF
 refine bg3 37 fn96 ?_
 obtain ⟨r4,h5,hF⟩:=q00 hF
 refine go ?_
 refine RS.cl rfl (pC (qp3 n p1 p3 r4 h5) _) fn125 ?_
 refine gr ?_
 refine gr ?_
 refine WPU.ghost (tm':=fr 37 [(1,.iM cS p2),(7,.iM cS r4),(8,.vl 0 0 0 (([]:List Int).length)),(9,.i6 0)]) (σ':=⟨[(0,.vec (List.map (cI .i64) ([]:List Int)).flatten 3 1 0)],1⟩) (Gh.trans (z5g 8 3 1 (by decide) NZ rfl rfl) (z5d ⟨rfl,rfl,rfl,rfl,trivial⟩ rfl)) NZ ?_
 refine gS (l':=[(1,_),(7,_),(8,_),(9,_)]) ?_
 refine z59 (fun m tm σ=>∃ z11:Int,∃ l12:List Int,∃ t13:Nat,q57 p2 n r4 m z11 l12=some r∧tm=fr 37 [(1,.iM cS p2),(7,.iM cS r4),(8,.vl 0 t13 0 l12.length),(9,.i6 z11)]∧σ=⟨[(0,.vec (List.map (cI .i64) l12).flatten 3 1 t13)],1⟩) (fun tm σ=>∃ l14:List Int,∃ t15:Nat,qdn n l14=some r∧tm=fr 37 [(8,.vl 0 t15 0 l14.length)]∧σ=⟨[(0,.vec (List.map (cI .i64) l14).flatten 3 1 t15)],1⟩) n ⟨0,([]:List Int),0,hF,rfl,rfl⟩ ?_ ?_
 rintro _ _ ⟨l14,t15,hF,rfl,rfl⟩
 unfold qdn at hF
 refine gn ?_
 refine WPU.ghost (tm':=fr 37 [(8,.iM (cI .i64) l14)]) (σ':=⟨[],1⟩) (Gh.trans (Gh.sub (l':=[(8,.vl 0 t15 0 l14.length)]) ⟨rfl,trivial⟩) (z5o 0 1)) NZ ?_
 obtain ⟨r16,h17,hF⟩:=q00 hF
 refine go ?_
 refine RS.cl rfl (pC (qvm n l14 r16 h17) _) fn127 ?_
 exact gx hF
 rintro (_|m1) _ _ ⟨z11,l12,t13,hF,rfl,rfl⟩
 cases hF
 unfold q57 at hF
 refine go ?_
 refine cF hF (fun h18 hF=>?_) (fun h18 hF=>?_)
 refine go ?_
 refine WPU.block ?_
 obtain ⟨x19,h20,hF⟩:=q00 hF
 obtain ⟨r21,h22,hF⟩:=q00 hF
 refine go ?_
 refine RS.ix h20 ?_
 refine go ?_
 refine RS.cl rfl (pC (q20 n r4 x19 r21 h22) _) fn126 ?_
 refine gn ?_
 refine z5a (fun tm σ=>∃ l24:List Int,∃ t25:Nat,q9o z11 (q57 p2 n r4 m1) l24=some r∧tm=fr 37 [(1,.iM cS p2),(7,.iM cS r4),(8,.vl 0 t25 0 l24.length),(9,.i6 z11)]∧σ=⟨[(0,.vec (List.map (cI .i64) l24).flatten 3 1 t25)],1⟩) ?_ ?_
 rintro _ _ ⟨l24,t25,hF,rfl,rfl⟩
 unfold q9o at hF
 refine go ?_
 exact lC ⟨_,l24,t25,hF,rfl,rfl⟩
 refine cF hF (fun h23 hF=>?_) (fun h23 hF=>?_)
 obtain ⟨h26,hF⟩:=q06 hF
 refine go ?_
 refine RS.g ?_
 refine RS.g ?_
 refine go ?_
 exact xC ⟨(l12++[z11]),(t13+1),hF,rfl,rfl⟩
 refine go ?_
 exact xC ⟨l12,t13,hF,rfl,rfl⟩
 refine go ?_
 exact xC ⟨l12,t13,hF,rfl,rfl⟩
def qfo (n:Nat) (p1:List Int) (p2:Int):Option (Int) :=
 cond (decide (p2<(p1.length:Int)))
  (q02 (q0j p1 p2) fun x4 =>
  some x4)
  (some 0)
theorem qk7 (n:Nat) (p1:List Int) (p2:Int) (r:Int) (hF:qfo n p1 p2=some r):EvU Tryz.prog 146 [.isl false (List.map (cI .u64) p1),.int .i64 p2] ⟨[],0⟩ (fun u _=>u = .int .u64 r∧Bel 0 u):=by
 unfold qfo at hF
 refine bg2 13 fn146 ?_
 refine go ?_
 refine cF hF (fun h3 hF=>?_) (fun h3 hF=>?_)
 obtain ⟨x4,h5,hF⟩:=q00 hF
 refine go ?_
 refine RS.ix h5 ?_
 exact gx hF
 exact gx hF
def qez (n:Nat) (l11:List Int):Option ((List Int)) :=
 q02 (q66 n l11) fun r13 =>
 some r13
def qay (p1:List Int) (p2:List Int) (n:Nat):Nat→Int→(List Int)→Option ((List Int))
 | 0,_,_=>none
 | m1+1,z8,l9 =>
  cond (decide (z8<(p1.length:Int)))
   (q02 (q0j p1 z8) fun x16 =>
   q02 (qfo n p2 z8) fun r18 =>
   q0z ((l9.length+1)*8≤140737488355328∧l9.length+1≤140737488355328) (
   (qay p1 p2 n m1) (IntKind.i64.wrap (z8+1)) (l9++[(andI .u64 x16 r18)])))
   (qez n l9)
def qib (n:Nat) (p1:List Int) (p2:List Int):Option ((List Int)) :=
 qay p1 p2 n n 0 ([]:List Int)
theorem qma (n:Nat) (p1:List Int) (p2:List Int) (r:(List Int)) (hF:qib n p1 p2=some r):EvU Tryz.prog 118 [.isl false (List.map (cI .u64) p1),.isl false (List.map (cI .u64) p2)] ⟨[],0⟩ (fun u _=>u = .isl false (List.map (cI .u64) r)∧Bel 0 u):=by
 unfold qib at hF
 refine bg2 26 fn118 ?_
 refine gr ?_
 refine gr ?_
 refine gr ?_
 refine WPU.ghost (tm':=fr 26 [(0,.iM (cI .u64) p1),(1,.iM (cI .u64) p2),(5,.vl 0 0 0 (([]:List Int).length)),(6,.i6 0)]) (σ':=⟨[(0,.vec (List.map (cI .u64) ([]:List Int)).flatten 191 1 0)],1⟩) (Gh.trans (z5g 5 191 1 (by decide) NZ rfl rfl) (z5d ⟨rfl,rfl,rfl,rfl,trivial⟩ rfl)) NZ ?_
 refine gS (l':=[(0,_),(1,_),(5,_),(6,_)]) ?_
 refine z59 (fun m tm σ=>∃ z8:Int,∃ l9:List Int,∃ t10:Nat,qay p1 p2 n m z8 l9=some r∧tm=fr 26 [(0,.iM (cI .u64) p1),(1,.iM (cI .u64) p2),(5,.vl 0 t10 0 l9.length),(6,.i6 z8)]∧σ=⟨[(0,.vec (List.map (cI .u64) l9).flatten 191 1 t10)],1⟩) (fun tm σ=>∃ l11:List Int,∃ t12:Nat,qez n l11=some r∧tm=fr 26 [(5,.vl 0 t12 0 l11.length)]∧σ=⟨[(0,.vec (List.map (cI .u64) l11).flatten 191 1 t12)],1⟩) n ⟨0,([]:List Int),0,hF,rfl,rfl⟩ ?_ ?_
 rintro _ _ ⟨l11,t12,hF,rfl,rfl⟩
 unfold qez at hF
 refine gn ?_
 refine WPU.ghost (tm':=fr 26 [(5,.iM (cI .u64) l11)]) (σ':=⟨[],1⟩) (Gh.trans (Gh.sub (l':=[(5,.vl 0 t12 0 l11.length)]) ⟨rfl,trivial⟩) (z5o 0 1)) NZ ?_
 obtain ⟨r13,h14,hF⟩:=q00 hF
 refine go ?_
 refine RS.cl rfl (pC (q7v n l11 r13 h14) _) fn119 ?_
 exact gx hF
 rintro (_|m1) _ _ ⟨z8,l9,t10,hF,rfl,rfl⟩
 cases hF
 unfold qay at hF
 refine go ?_
 refine cF hF (fun h15 hF=>?_) (fun h15 hF=>?_)
 refine go ?_
 refine WPU.block ?_
 obtain ⟨x16,h17,hF⟩:=q00 hF
 obtain ⟨r18,h19,hF⟩:=q00 hF
 obtain ⟨h20,hF⟩:=q06 hF
 refine go ?_
 refine z5b Tryz.tb_ok [(0,9)] (by kernel_rfl) ?_
 refine gd ?_
 refine RD.ix h17 ?_
 refine gd ?_
 refine z5l rfl (pC (qk7 n p2 z8 r18 h19)) fn146 (RD.q rfl (qav rfl rfl (z2p _ _ _) rfl) ?_)
 refine RD.g ?_
 refine RD.g ?_
 refine gd ?_
 refine RD.done ⟨by kernel_rfl,⟨q2f rfl,trivial⟩,?_⟩
 refine go ?_
 exact lC ⟨_,(l9++[(andI .u64 x16 r18)]),(t10+1),hF,rfl,rfl⟩
 refine go ?_
 exact xC ⟨l9,t10,hF,rfl,rfl⟩
def qdj   : Option (Bool) :=
 some true
def q9j (p1:List Int) (p2:List Int):Nat→Int→Option (Bool)
 | 0,_=>none
 | m1+1,z7 =>
  cond (decide (z7<(p1.length:Int)))
   (q02 (q0j p1 z7) fun x9 =>
   q02 (q0j p2 z7) fun x11 =>
   cond (x9 != x11)
    (some false)
    ((q9j p1 p2 m1) (IntKind.i64.wrap (z7+1))))
   (qdj)
def qfn (n:Nat) (p1:List Int) (p2:List Int):Option (Bool) :=
 cond ((p1.length:Int) != (p2.length:Int))
  (some false)
  (q9j p1 p2 n 0)
theorem qk6 (n:Nat) (p1:List Int) (p2:List Int) (r:Bool) (hF:qfn n p1 p2=some r):EvU Tryz.prog 120 [.isl false (List.map (cI .u64) p1),.isl false (List.map (cI .u64) p2)] ⟨[],0⟩ (fun u _=>u = .bool r∧Bel 0 u):=by
 unfold qfn at hF
 refine bg2 26 fn120 ?_
 refine go ?_
 refine cF hF (fun h3 hF=>?_) (fun h3 hF=>?_)
 exact gx hF
 refine go ?_
 refine gS (l':=[(0,_),(1,_),(5,_)]) ?_
 refine z59 (fun m tm σ=>∃ z7:Int,q9j p1 p2 m z7=some r∧tm=fr 26 [(0,.iM (cI .u64) p1),(1,.iM (cI .u64) p2),(5,.i6 z7)]∧σ=⟨[],0⟩) (fun tm σ=>qdj=some r∧tm=fr 26 []∧σ=⟨[],0⟩) n ⟨0,hF,rfl,rfl⟩ ?_ ?_
 rintro _ _ ⟨hF,rfl,rfl⟩
 unfold qdj at hF
 exact gx hF
 rintro (_|m1) _ _ ⟨z7,hF,rfl,rfl⟩
 cases hF
 unfold q9j at hF
 refine go ?_
 refine cF hF (fun h8 hF=>?_) (fun h8 hF=>?_)
 refine go ?_
 refine WPU.block ?_
 obtain ⟨x9,h10,hF⟩:=q00 hF
 obtain ⟨x11,h12,hF⟩:=q00 hF
 refine go ?_
 refine z5b Tryz.tb_ok [] (by kernel_rfl) ?_
 refine gd ?_
 refine RD.ix h10 ?_
 refine gd ?_
 refine RD.ix h12 ?_
 refine gd ?_
 refine RD.done ⟨by kernel_rfl,trivial,?_⟩
 refine go ?_
 refine cF hF (fun h13 hF=>?_) (fun h13 hF=>?_)
 exact gx hF
 refine go ?_
 exact lC ⟨_,hF,rfl,rfl⟩
 refine go ?_
 exact xC ⟨hF,rfl,rfl⟩
def qh5   : Option (Bool) :=
 some false
def qdo (p1:List (List Int)) (p2:List Int) (n:Nat):Nat→Int→Option (Bool)
 | 0,_=>none
 | m1+1,z6 =>
  cond (decide (z6<(p1.length:Int)))
   (q02 (q0j p1 z6) fun x8 =>
   q02 (qfn n x8 p2) fun r10 =>
   cond r10
    (some true)
    ((qdo p1 p2 n m1) (IntKind.i64.wrap (z6+1))))
   (qh5)
def qp8 (n:Nat) (p1:List (List Int)) (p2:List Int):Option (Bool) :=
 qdo p1 p2 n n 0
theorem qvn (n:Nat) (p1:List (List Int)) (p2:List Int) (r:Bool) (hF:qp8 n p1 p2=some r):EvU Tryz.prog 128 [.isl false (List.map (cL (cI .u64)) p1),.isl false (List.map (cI .u64) p2)] ⟨[],0⟩ (fun u _=>u = .bool r∧Bel 0 u):=by
 unfold qp8 at hF
 refine bg2 18 fn128 ?_
 refine go ?_
 refine gS (l':=[(0,_),(1,_),(5,_)]) ?_
 refine z59 (fun m tm σ=>∃ z6:Int,qdo p1 p2 n m z6=some r∧tm=fr 18 [(0,.iM (cL (cI .u64)) p1),(1,.iM (cI .u64) p2),(5,.i6 z6)]∧σ=⟨[],0⟩) (fun tm σ=>qh5=some r∧tm=fr 18 []∧σ=⟨[],0⟩) n ⟨0,hF,rfl,rfl⟩ ?_ ?_
 rintro _ _ ⟨hF,rfl,rfl⟩
 unfold qh5 at hF
 exact gx hF
 rintro (_|m1) _ _ ⟨z6,hF,rfl,rfl⟩
 cases hF
 unfold qdo at hF
 refine go ?_
 refine cF hF (fun h7 hF=>?_) (fun h7 hF=>?_)
 refine go ?_
 refine WPU.block ?_
 obtain ⟨x8,h9,hF⟩:=q00 hF
 obtain ⟨r10,h11,hF⟩:=q00 hF
 refine go ?_
 refine RS.ix h9 ?_
 refine go ?_
 refine RS.cl rfl (pC (qk6 n x8 p2 r10 h11) _) fn120 ?_
 refine go ?_
 refine cF hF (fun h12 hF=>?_) (fun h12 hF=>?_)
 exact gx hF
 refine go ?_
 exact lC ⟨_,hF,rfl,rfl⟩
 refine go ?_
 exact xC ⟨hF,rfl,rfl⟩
def q6r (z19:Int) (rc2:Int→(List (List Int))→Option ((List (List Int)))) (l40:List (List Int)):Option ((List (List Int))) :=
 rc2 (IntKind.i64.wrap (z19+1)) l40
def qag (z6:Int) (rc1:Int→(List (List Int))→Option ((List (List Int)))) (l22:List (List Int)):Option ((List (List Int))) :=
 rc1 (IntKind.i64.wrap (z6+1)) l22
def q3o (n:Nat) (z6:Int) (rc1:Int→(List (List Int))→Option ((List (List Int)))):Nat→Int→(List (List Int))→Option ((List (List Int)))
 | 0,_,_=>none
 | m2+1,z19,l20 =>
  q02 (cond (decide (z19<z6))
   (some (decide ((l20.length:Int)≤256)))
   (some false)) fun b25 =>
  cond b25
   (q02 (q0j l20 z6) fun x28 =>
   q02 (q0j l20 z19) fun x30 =>
   q02 (qib n x28 x30) fun r32 =>
   q02 (cond (decide ((r32.length:Int) > 0))
    (q02 (qp8 n l20 r32) fun r35 =>
    some (!r35))
    (some false)) fun b37 =>
   cond b37
    (q0z ((l20.length+1)*24≤140737488355328∧l20.length+1≤140737488355328) (
    q6r z19 (q3o n z6 rc1 m2) (l20++[r32])))
    (q6r z19 (q3o n z6 rc1 m2) l20))
   (qag z6 rc1 l20)
def qaf  (l9:List (List Int)):Option ((List (List Int))) :=
 some l9
def q2v (n:Nat):Nat→Int→(List (List Int))→Option ((List (List Int)))
 | 0,_,_=>none
 | m1+1,z6,l7 =>
  q02 (cond (decide (z6<(l7.length:Int)))
   (some (decide ((l7.length:Int)≤256)))
   (some false)) fun b12 =>
  cond b12
   (q3o n z6 (q2v n m1) n 0 l7)
   (qaf l7)
def qf6 (n:Nat) (p1:List (List Int)):Option ((List (List Int))) :=
 q0z (p1.length*24≤140737488355328∧p1.length≤140737488355328) (
 q2v n n 0 p1)
theorem qna (n:Nat) (p1:List (List Int)) (r:(List (List Int))) (hF:qf6 n p1=some r):EvU Tryz.prog 97 [.isl false (List.map (cL (cI .u64)) p1)] ⟨[],0⟩ (fun u _=>u = .isl false (List.map (cL (cI .u64)) r)∧Bel 0 u):=by
 unfold qf6 at hF
 refine bg1 54 fn97 ?_
 obtain ⟨h2,hF⟩:=q06 hF
 refine go ?_
 refine RS.q (u:=.sl 0 0 0 0) (σ':=⟨[(0,.row [] 103)],1⟩) rfl (q6h un148.h if103.h rfl rfl rfl rfl rfl rfl rfl) ?_
 refine go ?_
 refine RS.q (u:=.vl 1 0 0 p1.length) (σ':=⟨[(1,.vec (List.map (cL (cI .u64)) p1).flatten 103 1 0),(0,.row [] 103)],2⟩) rfl (qau rfl rfl rfl rfl (qo8 (cL (cI .u64)) p1 un148.h un148.h if103.h rfl rfl rfl (qh9 (cL (cI .u64)) (qc8 (cI .u64))) h2)) ?_
 refine go ?_
 refine gS (l':=[(3,_),(4,_)]) ?_
 refine z59 (fun m tm σ=>∃ z6:Int,∃ l7:List (List Int),∃ t8:Nat,q2v n m z6 l7=some r∧tm=fr 54 [(3,.vl 1 t8 0 l7.length),(4,.i6 z6)]∧σ=⟨[(1,.vec (List.map (cL (cI .u64)) l7).flatten 103 1 t8),(0,.row [] 103)],2⟩) (fun tm σ=>∃ l9:List (List Int),∃ t10:Nat,qaf l9=some r∧tm=fr 54 [(3,.vl 1 t10 0 l9.length)]∧σ=⟨[(1,.vec (List.map (cL (cI .u64)) l9).flatten 103 1 t10),(0,.row [] 103)],2⟩) n ⟨0,p1,0,hF,rfl,rfl⟩ ?_ ?_
 rintro _ _ ⟨l9,t10,hF,rfl,rfl⟩
 unfold qaf at hF
 refine go ?_
 obtain rfl:=sI hF
 exact rT (us:=[.vl 1 t10 0 l9.length]) (u:=.iM (cL (cI .u64)) l9) (q28 rfl (q24)) (fR 1 1)
 rintro (_|m1) _ _ ⟨z6,l7,t8,hF,rfl,rfl⟩
 cases hF
 unfold q2v at hF
 obtain ⟨b12,h13,hF⟩:=q00 hF
 refine gn ?_
 refine z5a (fun tm σ=>tm=fr 54 [(3,.vl 1 t8 0 l7.length),(4,.i6 z6),(18,.bool b12)]∧σ=⟨[(1,.vec (List.map (cL (cI .u64)) l7).flatten 103 1 t8),(0,.row [] 103)],2⟩) ?_ ?_
 rintro _ _ ⟨rfl,rfl⟩
 refine go ?_
 refine cF hF (fun h14 hF=>?_) (fun h14 hF=>?_)
 refine go ?_
 refine WPU.block ?_
 refine go ?_
 refine gS (l':=[(3,_),(4,_),(5,_)]) ?_
 refine z59 (fun m tm σ=>∃ z19:Int,∃ l20:List (List Int),∃ t21:Nat,q3o n z6 (q2v n m1) m z19 l20=some r∧tm=fr 54 [(3,.vl 1 t21 0 l20.length),(4,.i6 z6),(5,.i6 z19)]∧σ=⟨[(1,.vec (List.map (cL (cI .u64)) l20).flatten 103 1 t21),(0,.row [] 103)],2⟩) (fun tm σ=>∃ l22:List (List Int),∃ t23:Nat,qag z6 (q2v n m1) l22=some r∧tm=fr 54 [(3,.vl 1 t23 0 l22.length),(4,.i6 z6)]∧σ=⟨[(1,.vec (List.map (cL (cI .u64)) l22).flatten 103 1 t23),(0,.row [] 103)],2⟩) n ⟨0,l7,t8,hF,rfl,rfl⟩ ?_ ?_
 rintro _ _ ⟨l22,t23,hF,rfl,rfl⟩
 unfold qag at hF
 refine go ?_
 exact lC ⟨_,l22,t23,hF,rfl,rfl⟩
 rintro (_|m2) _ _ ⟨z19,l20,t21,hF,rfl,rfl⟩
 cases hF
 unfold q3o at hF
 obtain ⟨b25,h26,hF⟩:=q00 hF
 refine gn ?_
 refine z5a (fun tm σ=>tm=fr 54 [(3,.vl 1 t21 0 l20.length),(4,.i6 z6),(5,.i6 z19),(28,.bool b25)]∧σ=⟨[(1,.vec (List.map (cL (cI .u64)) l20).flatten 103 1 t21),(0,.row [] 103)],2⟩) ?_ ?_
 rintro _ _ ⟨rfl,rfl⟩
 refine go ?_
 refine cF hF (fun h27 hF=>?_) (fun h27 hF=>?_)
 refine go ?_
 refine WPU.block ?_
 obtain ⟨x28,h29,hF⟩:=q00 hF
 obtain ⟨x30,h31,hF⟩:=q00 hF
 obtain ⟨r32,h33,hF⟩:=q00 hF
 refine go ?_
 refine z5b Tryz.tb_ok [] (by kernel_rfl) ?_
 refine gd ?_
 refine RD.q rfl (q3t rfl rfl (q8m (cL (cI .u64)) un148.h (q0r if103.h) (by decide) (qc8 (cI .u64)) (vo rfl) h29)) ?_
 refine RD.q rfl (q5i (cL (cI .u64)) (fun x=>.iM (cI .u64) x) un103.h rfl (fun _=>rfl) rfl rfl h29) ?_
 refine gd ?_
 refine RD.q rfl (q3t rfl rfl (q8m (cL (cI .u64)) un148.h (q0r if103.h) (by decide) (qc8 (cI .u64)) (vo rfl) h31)) ?_
 refine RD.q rfl (q5i (cL (cI .u64)) (fun x=>.iM (cI .u64) x) un103.h rfl (fun _=>rfl) rfl rfl h31) (z5l rfl (pC (qma n x28 x30 r32 h33)) fn118 ?_)
 refine gd ?_
 refine RD.done ⟨by kernel_rfl,trivial,?_⟩
 obtain ⟨b37,h38,hF⟩:=q00 hF
 refine gn ?_
 refine z5a (fun tm σ=>tm=fr 54 [(3,.vl 1 t21 0 l20.length),(4,.i6 z6),(5,.i6 z19),(6,.iM (cI .u64) r32),(48,.bool b37)]∧σ=⟨[(1,.vec (List.map (cL (cI .u64)) l20).flatten 103 1 t21),(0,.row [] 103)],2⟩) ?_ ?_
 rintro _ _ ⟨rfl,rfl⟩
 refine gn ?_
 refine z5a (fun tm σ=>∃ l40:List (List Int),∃ t41:Nat,q6r z19 (q3o n z6 (q2v n m1) m2) l40=some r∧tm=fr 54 [(3,.vl 1 t41 0 l40.length),(4,.i6 z6),(5,.i6 z19)]∧σ=⟨[(1,.vec (List.map (cL (cI .u64)) l40).flatten 103 1 t41),(0,.row [] 103)],2⟩) ?_ ?_
 rintro _ _ ⟨l40,t41,hF,rfl,rfl⟩
 unfold q6r at hF
 refine go ?_
 exact lC ⟨_,l40,t41,hF,rfl,rfl⟩
 refine cF hF (fun h39 hF=>?_) (fun h39 hF=>?_)
 obtain ⟨h42,hF⟩:=q06 hF
 refine go ?_
 refine RS.g ?_
 refine RS.g ?_
 refine go ?_
 exact xC ⟨(l20++[r32]),(t21+1),hF,rfl,rfl⟩
 refine go ?_
 exact xC ⟨l20,t21,hF,rfl,rfl⟩
 rcases gB h38 with ⟨h34,h38⟩ | ⟨h34,h38⟩
 obtain ⟨r35,h36,h38⟩:=q00 h38
 obtain rfl:=sI h38
 refine go ?_
 refine RS.cl rfl (vw (qvn n l20 r32 r35 h36) (z5c 1 1)) fn128 ?_
 refine go ?_
 exact xC ⟨rfl,rfl⟩
 exact gy h38
 refine go ?_
 exact xC ⟨l20,t21,hF,rfl,rfl⟩
 rcases gB h26 with ⟨h24,h26⟩ | ⟨h24,h26⟩
 exact gy h26
 exact gy h26
 refine go ?_
 exact xC ⟨l7,t8,hF,rfl,rfl⟩
 rcases gB h13 with ⟨h11,h13⟩ | ⟨h11,h13⟩
 exact gy h13
 exact gy h13
def qbb (n:Nat) (l11:List Int):Option ((List Int)) :=
 q02 (q66 n l11) fun r13 =>
 some r13
def q7u (p1:List Int) (p2:List Int) (n:Nat):Nat→Int→(List Int)→Option ((List Int))
 | 0,_,_=>none
 | m1+1,z8,l9 =>
  cond (decide (z8<(p1.length:Int)))
   (q02 (q0j p1 z8) fun x16 =>
   q02 (qfo n p2 z8) fun r18 =>
   q0z ((l9.length+1)*8≤140737488355328∧l9.length+1≤140737488355328) (
   (q7u p1 p2 n m1) (IntKind.i64.wrap (z8+1)) (l9++[(qo7 .u64 x16 r18)])))
   (qbb n l9)
def qgx (n:Nat) (p1:List Int) (p2:List Int):Option ((List Int)) :=
 q7u p1 p2 n n 0 ([]:List Int)
theorem qp0 (n:Nat) (p1:List Int) (p2:List Int) (r:(List Int)) (hF:qgx n p1 p2=some r):EvU Tryz.prog 153 [.isl false (List.map (cI .u64) p1),.isl false (List.map (cI .u64) p2)] ⟨[],0⟩ (fun u _=>u = .isl false (List.map (cI .u64) r)∧Bel 0 u):=by
 unfold qgx at hF
 refine bg2 26 fn153 ?_
 refine gr ?_
 refine gr ?_
 refine gr ?_
 refine WPU.ghost (tm':=fr 26 [(0,.iM (cI .u64) p1),(1,.iM (cI .u64) p2),(5,.vl 0 0 0 (([]:List Int).length)),(6,.i6 0)]) (σ':=⟨[(0,.vec (List.map (cI .u64) ([]:List Int)).flatten 191 1 0)],1⟩) (Gh.trans (z5g 5 191 1 (by decide) NZ rfl rfl) (z5d ⟨rfl,rfl,rfl,rfl,trivial⟩ rfl)) NZ ?_
 refine gS (l':=[(0,_),(1,_),(5,_),(6,_)]) ?_
 refine z59 (fun m tm σ=>∃ z8:Int,∃ l9:List Int,∃ t10:Nat,q7u p1 p2 n m z8 l9=some r∧tm=fr 26 [(0,.iM (cI .u64) p1),(1,.iM (cI .u64) p2),(5,.vl 0 t10 0 l9.length),(6,.i6 z8)]∧σ=⟨[(0,.vec (List.map (cI .u64) l9).flatten 191 1 t10)],1⟩) (fun tm σ=>∃ l11:List Int,∃ t12:Nat,qbb n l11=some r∧tm=fr 26 [(5,.vl 0 t12 0 l11.length)]∧σ=⟨[(0,.vec (List.map (cI .u64) l11).flatten 191 1 t12)],1⟩) n ⟨0,([]:List Int),0,hF,rfl,rfl⟩ ?_ ?_
 rintro _ _ ⟨l11,t12,hF,rfl,rfl⟩
 unfold qbb at hF
 refine gn ?_
 refine WPU.ghost (tm':=fr 26 [(5,.iM (cI .u64) l11)]) (σ':=⟨[],1⟩) (Gh.trans (Gh.sub (l':=[(5,.vl 0 t12 0 l11.length)]) ⟨rfl,trivial⟩) (z5o 0 1)) NZ ?_
 obtain ⟨r13,h14,hF⟩:=q00 hF
 refine go ?_
 refine RS.cl rfl (pC (q7v n l11 r13 h14) _) fn119 ?_
 exact gx hF
 rintro (_|m1) _ _ ⟨z8,l9,t10,hF,rfl,rfl⟩
 cases hF
 unfold q7u at hF
 refine go ?_
 refine cF hF (fun h15 hF=>?_) (fun h15 hF=>?_)
 refine go ?_
 refine WPU.block ?_
 obtain ⟨x16,h17,hF⟩:=q00 hF
 obtain ⟨r18,h19,hF⟩:=q00 hF
 obtain ⟨h20,hF⟩:=q06 hF
 refine go ?_
 refine z5b Tryz.tb_ok [(0,9)] (by kernel_rfl) ?_
 refine gd ?_
 refine RD.ix h17 ?_
 refine gd ?_
 refine z5l rfl (pC (qk7 n p2 z8 r18 h19)) fn146 (RD.q rfl (qav rfl rfl (qxi _ _ _) rfl) ?_)
 refine RD.g ?_
 refine RD.g ?_
 refine gd ?_
 refine RD.done ⟨by kernel_rfl,⟨q2f rfl,trivial⟩,?_⟩
 refine go ?_
 exact lC ⟨_,(l9++[(qo7 .u64 x16 r18)]),(t10+1),hF,rfl,rfl⟩
 refine go ?_
 exact xC ⟨l9,t10,hF,rfl,rfl⟩
def q8r (n:Nat) (p1:List Int) (p2:List Int):Option (Bool) :=
 q02 (qgx n p1 p2) fun r3 =>
 some ((r3.length:Int) == 0)
theorem q7x (n:Nat) (p1:List Int) (p2:List Int) (r:Bool) (hF:q8r n p1 p2=some r):EvU Tryz.prog 133 [.isl false (List.map (cI .u64) p1),.isl false (List.map (cI .u64) p2)] ⟨[],0⟩ (fun u _=>u = .bool r∧Bel 0 u):=by
 unfold q8r at hF
 refine bg2 10 fn133 ?_
 obtain ⟨r3,h4,hF⟩:=q00 hF
 refine go ?_
 refine RS.cl rfl (pC (qp0 n p1 p2 r3 h4) _) fn153 ?_
 exact gx hF
def qgw (n:Nat) (p1:List Int) (p2:List Int):Option (Bool) :=
 q02 (q02 (q8r n p1 p2) fun r3 =>
 cond r3
  (q02 (q8r n p2 p1) fun r6 =>
  some r6)
  (some false)) fun b8 =>
 some b8
theorem qoz (n:Nat) (p1:List Int) (p2:List Int) (r:Bool) (hF:qgw n p1 p2=some r):EvU Tryz.prog 129 [.isl false (List.map (cI .u64) p1),.isl false (List.map (cI .u64) p2)] ⟨[],0⟩ (fun u _=>u = .bool r∧Bel 0 u):=by
 unfold qgw at hF
 refine bg2 13 fn129 ?_
 obtain ⟨b8,h9,hF⟩:=q00 hF
 refine gr ?_
 refine z5a (fun tm σ=>tm=fr 13 [(4,.bool b8)]∧σ=⟨[],0⟩) ?_ ?_
 rintro _ _ ⟨rfl,rfl⟩
 exact gx hF
 obtain ⟨r3,h4,h9⟩:=q00 h9
 rcases gB h9 with ⟨h5,h9⟩ | ⟨h5,h9⟩
 obtain ⟨r6,h7,h9⟩:=q00 h9
 obtain rfl:=sI h9
 refine go ?_
 refine RS.cl rfl (pC (q7x n p1 p2 r3 h4) _) fn133 ?_
 refine go ?_
 refine RS.cl rfl (pC (q7x n p2 p1 r6 h7) _) fn133 ?_
 refine go ?_
 exact xC ⟨rfl,rfl⟩
 obtain rfl:=sI h9
 refine go ?_
 refine RS.cl rfl (pC (q7x n p1 p2 r3 h4) _) fn133 ?_
 refine go ?_
 exact xC ⟨rfl,rfl⟩
def qid (n:Nat) (p1:List Int) (p2:Int):Option (Bool) :=
 q02 (cond (decide (p2<0))
  (some true)
  (some (decide ((IntKind.i64.wrap (p2.tdiv 64)) ≥ (p1.length:Int))))) fun b5 =>
 cond b5
  (some false)
  (q02 (q0j p1 (IntKind.i64.wrap (p2.tdiv 64))) fun x9 =>
  q0z (¬ (IntKind.u64.wrap (p2.tmod 64))<0) (
  some ((andI .u64 (x9.fdiv (2 ^ (min (IntKind.u64.wrap (p2.tmod 64)).toNat IntKind.u64.bits))) 1) == 1)))
theorem qmb (n:Nat) (p1:List Int) (p2:Int) (r:Bool) (hF:qid n p1 p2=some r):EvU Tryz.prog 130 [.isl false (List.map (cI .u64) p1),.int .i64 p2] ⟨[],0⟩ (fun u _=>u = .bool r∧Bel 0 u):=by
 unfold qid at hF
 refine bg2 25 fn130 ?_
 obtain ⟨b5,h6,hF⟩:=q00 hF
 refine gr ?_
 refine z5a (fun tm σ=>tm=fr 25 [(0,.iM (cI .u64) p1),(1,.i6 p2),(13,.bool b5)]∧σ=⟨[],0⟩) ?_ ?_
 rintro _ _ ⟨rfl,rfl⟩
 refine go ?_
 refine cF hF (fun h7 hF=>?_) (fun h7 hF=>?_)
 exact gx hF
 obtain ⟨x9,h10,hF⟩:=q00 hF
 obtain ⟨h12,hF⟩:=q06 hF
 refine go ?_
 refine RS.q rfl (qav rfl rfl (qto _ (by decide)) rfl) ?_
 refine RS.ix h10 ?_
 refine go ?_
 refine RS.q rfl (qav rfl rfl (z2q _ (by decide)) rfl) ?_
 refine RS.q (u:=.int .u64 (IntKind.u64.wrap (p2.tmod 64))) rfl (qsl rfl rfl (by simp only [qpz,un3.h,un190.h]<;>rfl) rfl) ?_
 refine RS.q rfl (qav rfl rfl (ix_shr _ h12) rfl) (RS.q rfl (qav rfl rfl (z2p _ _ _) rfl) ?_)
 exact gx hF
 rcases gB h6 with ⟨h3,h6⟩ | ⟨h3,h6⟩
 exact gy h6
 obtain rfl:=sI h6
 refine go ?_
 refine RS.w rfl (qav rfl rfl (qto _ (by decide)) rfl) ?_
 refine go ?_
 exact xC ⟨rfl,rfl⟩
def q56 (z8:Int) (rc1:(List (List UInt8))→Int→Option ((List (List UInt8)))) (l16:List (List UInt8)):Option ((List (List UInt8))) :=
 rc1 l16 (IntKind.i64.wrap (z8+1))
def q7h  (l9:List (List UInt8)):Option ((List (List UInt8))) :=
 some l9
def q2q (p1:List q04) (p2:List (List UInt8)) (n:Nat):Nat→(List (List UInt8))→Int→Option ((List (List UInt8)))
 | 0,_,_=>none
 | m1+1,l7,z8 =>
  cond (decide (z8<(p2.length:Int)))
   (q02 (q0j p2 z8) fun x11 =>
   q02 (q67 n p1 x11) fun r13 =>
   cond (decide (r13 ≥ 0))
    (q02 (q0j p2 z8) fun x17 =>
    q02 (q8s n l7 x17) fun r19 =>
    q56 z8 (q2q p1 p2 n m1) r19)
    (q56 z8 (q2q p1 p2 n m1) l7))
   (q7h l7)
def qbl (n:Nat) (p1:List q04) (p2:List (List UInt8)):Option ((List (List UInt8))) :=
 q2q p1 p2 n n [] 0
theorem qkm (n:Nat) (p1:List q04) (p2:List (List UInt8)) (r:(List (List UInt8))) (hF:qbl n p1 p2=some r):EvU Tryz.prog 150 [.isl false (List.map q01 p1),.isl false (List.map cS p2)] ⟨[],0⟩ (fun u _=>u = .isl false (List.map cS r)∧Bel 0 u):=by
 unfold qbl at hF
 refine bg2 27 fn150 ?_
 refine gr ?_
 refine gr ?_
 refine gr ?_
 refine WPU.ghost (tm':=fr 27 [(0,.iM q01 p1),(1,.iM cS p2),(5,.iM cS []),(6,.i6 0)]) (Gh.trans (Gh.sub (l':=[(0,.iM q01 p1),(1,.iM cS p2),(5,.nils),(6,.i6 0)]) ⟨rfl,rfl,rfl,rfl,trivial⟩) (Gh.wkS (l':=[(0,.iM q01 p1),(1,.iM cS p2),(5,.iM cS []),(6,.i6 0)]) (.cons (.refl _) (.cons (.refl _) (.cons (.nil false) (.cons (.refl _) .nil)))))) NZ ?_
 refine gS (l':=[(0,_),(1,_),(5,_),(6,_)]) ?_
 refine z59 (fun m tm σ=>∃ l7:List (List UInt8),∃ z8:Int,q2q p1 p2 n m l7 z8=some r∧tm=fr 27 [(0,.iM q01 p1),(1,.iM cS p2),(5,.iM cS l7),(6,.i6 z8)]∧σ=⟨[],0⟩) (fun tm σ=>∃ l9:List (List UInt8),q7h l9=some r∧tm=fr 27 [(5,.iM cS l9)]∧σ=⟨[],0⟩) n ⟨[],0,hF,rfl,rfl⟩ ?_ ?_
 rintro _ _ ⟨l9,hF,rfl,rfl⟩
 unfold q7h at hF
 exact gx hF
 rintro (_|m1) _ _ ⟨l7,z8,hF,rfl,rfl⟩
 cases hF
 unfold q2q at hF
 refine go ?_
 refine cF hF (fun h10 hF=>?_) (fun h10 hF=>?_)
 refine go ?_
 refine WPU.block ?_
 obtain ⟨x11,h12,hF⟩:=q00 hF
 obtain ⟨r13,h14,hF⟩:=q00 hF
 refine go ?_
 refine RS.ix h12 ?_
 refine go ?_
 refine RS.cl rfl (pC (q68 n p1 x11 r13 h14) _) fn148 ?_
 refine gn ?_
 refine z5a (fun tm σ=>∃ l16:List (List UInt8),q56 z8 (q2q p1 p2 n m1) l16=some r∧tm=fr 27 [(0,.iM q01 p1),(1,.iM cS p2),(5,.iM cS l16),(6,.i6 z8)]∧σ=⟨[],0⟩) ?_ ?_
 rintro _ _ ⟨l16,hF,rfl,rfl⟩
 unfold q56 at hF
 refine go ?_
 exact lC ⟨l16,(IntKind.i64.wrap (z8+1)),hF,rfl,rfl⟩
 refine cF hF (fun h15 hF=>?_) (fun h15 hF=>?_)
 obtain ⟨x17,h18,hF⟩:=q00 hF
 obtain ⟨r19,h20,hF⟩:=q00 hF
 refine go ?_
 refine RS.ix h18 ?_
 refine go ?_
 refine RS.cl rfl (pC (q7g n l7 x17 r19 h20) _) fn116 ?_
 refine go ?_
 exact xC ⟨r19,hF,rfl,rfl⟩
 refine go ?_
 exact xC ⟨l7,hF,rfl,rfl⟩
 refine go ?_
 exact xC ⟨l7,hF,rfl,rfl⟩
def qbd  (l21:List (List UInt8)):Option ((List (List UInt8))) :=
 some l21
def q7z (n:Nat) (l13:List (List UInt8)):Nat→(List (List UInt8))→Int→Option ((List (List UInt8)))
 | 0,_,_=>none
 | m2+1,l19,z20 =>
  cond (decide (z20<(l13.length:Int)))
   (q02 (q0j l13 z20) fun x23 =>
   q02 (q8s n l19 x23) fun r25 =>
   (q7z n l13 m2) r25 (IntKind.i64.wrap (z20+1)))
   (qbd l19)
def q7y (z40:Int) (rc3:Int→(List (List UInt8))→Option ((List (List UInt8)))) (l51:List (List UInt8)):Option ((List (List UInt8))) :=
 rc3 (IntKind.i64.wrap (z40+1)) l51
def qbe (z10:Int) (rc1:Int→(List (List UInt8))→Option ((List (List UInt8)))) (l43:List (List UInt8)):Option ((List (List UInt8))) :=
 rc1 (IntKind.i64.wrap (z10+1)) l43
def q49 (n:Nat) (z10:Int) (rc1:Int→(List (List UInt8))→Option ((List (List UInt8)))) (x32:q04):Nat→Int→(List (List UInt8))→Option ((List (List UInt8)))
 | 0,_,_=>none
 | m3+1,z40,l41 =>
  cond (decide (z40<(x32.Supers.length:Int)))
   (q02 (q0j x32.Supers z40) fun x46 =>
   q02 (q2t n l41 x46) fun r48 =>
   cond (!r48)
    (q02 (q0j x32.Supers z40) fun x53 =>
    q0z ((l41.length+1)*16≤140737488355328∧l41.length+1≤140737488355328) (
    q7y z40 (q49 n z10 rc1 x32 m3) (l41++[x53])))
    (q7y z40 (q49 n z10 rc1 x32 m3) l41))
   (qbe z10 rc1 l41)
def qbc (n:Nat) (l13:List (List UInt8)):Option ((List (List UInt8))) :=
 q7z n l13 n [] 0
def q3f (p1:List q04) (n:Nat):Nat→Int→(List (List UInt8))→Option ((List (List UInt8)))
 | 0,_,_=>none
 | m1+1,z10,l11 =>
  cond (decide (z10<(l11.length:Int)))
   (q02 (q0j l11 z10) fun x28 =>
   q02 (q67 n p1 x28) fun r30 =>
   q02 (q0j p1 r30) fun x32 =>
   q49 n z10 (q3f p1 n m1) x32 n 0 l11)
   (qbc n l11)
def qgz (n:Nat) (p1:List q04) (p2:List UInt8):Option ((List (List UInt8))) :=
 q02 (q67 n p1 p2) fun r3 =>
 cond (decide (r3<0))
  (some [])
  (q3f p1 n n 0 ([p2]))
theorem qp2 (n:Nat) (p1:List q04) (p2:List UInt8) (r:(List (List UInt8))) (hF:qgz n p1 p2=some r):EvU Tryz.prog 151 [.isl false (List.map q01 p1),.str p2] ⟨[],0⟩ (fun u _=>u = .isl false (List.map cS r)∧Bel 0 u):=by
 unfold qgz at hF
 refine bg2 66 fn151 ?_
 obtain ⟨r3,h4,hF⟩:=q00 hF
 refine go ?_
 refine RS.cl rfl (pC (q68 n p1 p2 r3 h4) _) fn148 ?_
 refine go ?_
 refine cF hF (fun h5 hF=>?_) (fun h5 hF=>?_)
 refine go ?_
 obtain rfl:=sI hF
 exact rT (us:=[.nils]) (u:=.isl false []) (q28 rfl (q24)) wR
 refine go ?_
 refine RS.step (u:=.vl 0 0 0 ([p2].length)) (σ':=⟨[(0,.vec (List.map cS ([p2])).flatten 9 1 0)],1⟩) rfl (qe9.bslv (cs:=(List.map cS [p2]).flatten) Tryz.tb_ok rfl un80.h if9.h rfl rfl rfl rfl rfl rfl rfl rfl) rfl rfl ?_
 refine go ?_
 refine gS (l':=[(0,_),(5,_),(6,_)]) ?_
 refine z59 (fun m tm σ=>∃ z10:Int,∃ l11:List (List UInt8),∃ t12:Nat,q3f p1 n m z10 l11=some r∧tm=fr 66 [(0,.iM q01 p1),(5,.vl 0 t12 0 l11.length),(6,.i6 z10)]∧σ=⟨[(0,.vec (List.map cS l11).flatten 9 1 t12)],1⟩) (fun tm σ=>∃ l13:List (List UInt8),∃ t14:Nat,qbc n l13=some r∧tm=fr 66 [(5,.vl 0 t14 0 l13.length)]∧σ=⟨[(0,.vec (List.map cS l13).flatten 9 1 t14)],1⟩) n ⟨0,[p2],0,hF,rfl,rfl⟩ ?_ ?_
 rintro _ _ ⟨l13,t14,hF,rfl,rfl⟩
 unfold qbc at hF
 refine gr ?_
 refine gr ?_
 refine WPU.ghost (tm':=fr 66 [(5,.vl 0 t14 0 l13.length),(9,.iM cS []),(10,.i6 0)]) (Gh.trans (Gh.sub (l':=[(5,.vl 0 t14 0 l13.length),(9,.nils),(10,.i6 0)]) ⟨rfl,rfl,rfl,trivial⟩) (Gh.wkS (l':=[(5,.vl 0 t14 0 l13.length),(9,.iM cS []),(10,.i6 0)]) (.cons (.refl _) (.cons (.nil false) (.cons (.refl _) .nil))))) NZ ?_
 refine gS (l':=[(5,_),(9,_),(10,_)]) ?_
 refine z59 (fun m tm σ=>∃ l19:List (List UInt8),∃ z20:Int,q7z n l13 m l19 z20=some r∧tm=fr 66 [(5,.vl 0 t14 0 l13.length),(9,.iM cS l19),(10,.i6 z20)]∧σ=⟨[(0,.vec (List.map cS l13).flatten 9 1 t14)],1⟩) (fun tm σ=>∃ l21:List (List UInt8),qbd l21=some r∧tm=fr 66 [(9,.iM cS l21)]∧σ=⟨[(0,.vec (List.map cS l13).flatten 9 1 t14)],1⟩) n ⟨[],0,hF,rfl,rfl⟩ ?_ ?_
 rintro _ _ ⟨l21,hF,rfl,rfl⟩
 unfold qbd at hF
 exact gx hF
 rintro (_|m2) _ _ ⟨l19,z20,hF,rfl,rfl⟩
 cases hF
 unfold q7z at hF
 refine go ?_
 refine cF hF (fun h22 hF=>?_) (fun h22 hF=>?_)
 refine go ?_
 refine WPU.block ?_
 obtain ⟨x23,h24,hF⟩:=q00 hF
 obtain ⟨r25,h26,hF⟩:=q00 hF
 refine go ?_
 refine RS.q rfl (q3t rfl rfl (q8m cS un80.h (q0r if9.h) (by decide) qg7 (vo rfl) h24)) ?_
 refine RS.q rfl (q5i cS (fun x=>.str x) un9.h rfl (fun _=>rfl) rfl rfl h24) (RS.cl rfl (pC (q7g n l19 x23 r25 h26) _) fn116 ?_)
 refine go ?_
 exact lC ⟨r25,(IntKind.i64.wrap (z20+1)),hF,rfl,rfl⟩
 refine go ?_
 exact xC ⟨l19,hF,rfl,rfl⟩
 rintro (_|m1) _ _ ⟨z10,l11,t12,hF,rfl,rfl⟩
 cases hF
 unfold q3f at hF
 refine go ?_
 refine cF hF (fun h27 hF=>?_) (fun h27 hF=>?_)
 refine go ?_
 refine WPU.block ?_
 obtain ⟨x28,h29,hF⟩:=q00 hF
 obtain ⟨r30,h31,hF⟩:=q00 hF
 obtain ⟨x32,h33,hF⟩:=q00 hF
 refine go ?_
 refine RS.q rfl (q3t rfl rfl (q8m cS un80.h (q0r if9.h) (by decide) qg7 (vo rfl) h29)) ?_
 refine RS.q rfl (q5i cS (fun x=>.str x) un9.h rfl (fun _=>rfl) rfl rfl h29) (RS.cl rfl (pC (q68 n p1 x28 r30 h31) _) fn148 ?_)
 refine RS.ix h33 ?_
 refine go ?_
 refine gS (l':=[(0,_),(5,_),(6,_),(7,_),(8,_)]) ?_
 refine z59 (fun m tm σ=>∃ z40:Int,∃ l41:List (List UInt8),∃ t42:Nat,q49 n z10 (q3f p1 n m1) x32 m z40 l41=some r∧tm=fr 66 [(0,.iM q01 p1),(5,.vl 0 t42 0 l41.length),(6,.i6 z10),(7,.iM cS x32.Supers),(8,.i6 z40)]∧σ=⟨[(0,.vec (List.map cS l41).flatten 9 1 t42)],1⟩) (fun tm σ=>∃ l43:List (List UInt8),∃ t44:Nat,qbe z10 (q3f p1 n m1) l43=some r∧tm=fr 66 [(0,.iM q01 p1),(5,.vl 0 t44 0 l43.length),(6,.i6 z10)]∧σ=⟨[(0,.vec (List.map cS l43).flatten 9 1 t44)],1⟩) n ⟨0,l11,t12,hF,rfl,rfl⟩ ?_ ?_
 rintro _ _ ⟨l43,t44,hF,rfl,rfl⟩
 unfold qbe at hF
 refine go ?_
 exact lC ⟨_,l43,t44,hF,rfl,rfl⟩
 rintro (_|m3) _ _ ⟨z40,l41,t42,hF,rfl,rfl⟩
 cases hF
 unfold q49 at hF
 refine go ?_
 refine cF hF (fun h45 hF=>?_) (fun h45 hF=>?_)
 refine go ?_
 refine WPU.block ?_
 obtain ⟨x46,h47,hF⟩:=q00 hF
 obtain ⟨r48,h49,hF⟩:=q00 hF
 refine go ?_
 refine RS.ix h47 ?_
 refine go ?_
 refine RS.cl rfl (vw (q20 n l41 x46 r48 h49) (z5c 0 1)) fn126 ?_
 refine gn ?_
 refine z5a (fun tm σ=>∃ l51:List (List UInt8),∃ t52:Nat,q7y z40 (q49 n z10 (q3f p1 n m1) x32 m3) l51=some r∧tm=fr 66 [(0,.iM q01 p1),(5,.vl 0 t52 0 l51.length),(6,.i6 z10),(7,.iM cS x32.Supers),(8,.i6 z40)]∧σ=⟨[(0,.vec (List.map cS l51).flatten 9 1 t52)],1⟩) ?_ ?_
 rintro _ _ ⟨l51,t52,hF,rfl,rfl⟩
 unfold q7y at hF
 refine go ?_
 exact lC ⟨_,l51,t52,hF,rfl,rfl⟩
 refine cF hF (fun h50 hF=>?_) (fun h50 hF=>?_)
 obtain ⟨x53,h54,hF⟩:=q00 hF
 obtain ⟨h55,hF⟩:=q06 hF
 refine go ?_
 refine RS.ix h54 ?_
 refine go ?_
 refine RS.g ?_
 refine RS.g ?_
 refine go ?_
 exact xC ⟨(l41++[x53]),(t42+1),hF,rfl,rfl⟩
 refine go ?_
 exact xC ⟨l41,t42,hF,rfl,rfl⟩
 refine go ?_
 exact xC ⟨l41,t42,hF,rfl,rfl⟩
 refine go ?_
 exact xC ⟨l11,t12,hF,rfl,rfl⟩
def q5s (z10:Int) (rc1:Int→(List (List UInt8))→Option ((List (List UInt8)))) (l32:List (List UInt8)):Option ((List (List UInt8))) :=
 rc1 (IntKind.i64.wrap (z10+1)) l32
def q91 (r3:(List (List UInt8))) (z10:Int) (l11:List (List UInt8)) (rc1:Int→(List (List UInt8))→Option ((List (List UInt8)))) (b30:Bool):Option ((List (List UInt8))) :=
 cond b30
  (q02 (q0j r3 z10) fun x34 =>
  q0z ((l11.length+1)*16≤140737488355328∧l11.length+1≤140737488355328) (
  q5s z10 rc1 (l11++[x34])))
  (q5s z10 rc1 l11)
def q5t (n:Nat) (r3:(List (List UInt8))) (z10:Int) (l11:List (List UInt8)) (rc1:Int→(List (List UInt8))→Option ((List (List UInt8)))) (r18:(List (List UInt8))):Nat→Bool→Int→Option ((List (List UInt8)))
 | 0,_,_=>none
 | m2+1,b28,z29 =>
  cond (decide (z29<(r3.length:Int)))
   (q02 (cond b28
    (cond (z29 == z10)
     (some true)
     (q02 (q0j r3 z29) fun x40 =>
     q02 (q2t n r18 x40) fun r42 =>
     some (!r42)))
    (some false)) fun b44 =>
   (q5t n r3 z10 l11 rc1 r18 m2) b44 (IntKind.i64.wrap (z29+1)))
   (q91 r3 z10 l11 rc1 b28)
def q90  (l13:List (List UInt8)):Option ((List (List UInt8))) :=
 some l13
def q2g (p1:List q04) (n:Nat) (r3:(List (List UInt8))):Nat→Int→(List (List UInt8))→Option ((List (List UInt8)))
 | 0,_,_=>none
 | m1+1,z10,l11 =>
  cond (decide (z10<(r3.length:Int)))
   (q02 (q0j r3 z10) fun x16 =>
   q02 (qgz n p1 x16) fun r18 =>
   q5t n r3 z10 l11 (q2g p1 n r3 m1) r18 n true 0)
   (q90 l11)
def q9k (n:Nat) (p1:List q04) (p2:List (List UInt8)):Option ((List (List UInt8))) :=
 q02 (qbl n p1 p2) fun r3 =>
 q2g p1 n r3 n 0 ([]:List (List UInt8))
theorem qf0 (n:Nat) (p1:List q04) (p2:List (List UInt8)) (r:(List (List UInt8))) (hF:q9k n p1 p2=some r):EvU Tryz.prog 131 [.isl false (List.map q01 p1),.isl false (List.map cS p2)] ⟨[],0⟩ (fun u _=>u = .isl false (List.map cS r)∧Bel 0 u):=by
 unfold q9k at hF
 refine bg2 56 fn131 ?_
 obtain ⟨r3,h4,hF⟩:=q00 hF
 refine go ?_
 refine RS.cl rfl (pC (qkm n p1 p2 r3 h4) _) fn150 ?_
 refine gr ?_
 refine WPU.ghost (tm':=fr 56 [(0,.iM q01 p1),(5,.vl 0 0 0 (([]:List (List UInt8)).length)),(6,.iM cS r3),(7,.i6 0)]) (σ':=⟨[(0,.vec (List.map cS ([]:List (List UInt8))).flatten 9 1 0)],1⟩) (Gh.trans (z5g 5 9 1 (by decide) NZ rfl rfl) (z5d ⟨rfl,rfl,rfl,rfl,trivial⟩ rfl)) NZ ?_
 refine gS (l':=[(0,_),(5,_),(6,_),(7,_)]) ?_
 refine z59 (fun m tm σ=>∃ z10:Int,∃ l11:List (List UInt8),∃ t12:Nat,q2g p1 n r3 m z10 l11=some r∧tm=fr 56 [(0,.iM q01 p1),(5,.vl 0 t12 0 l11.length),(6,.iM cS r3),(7,.i6 z10)]∧σ=⟨[(0,.vec (List.map cS l11).flatten 9 1 t12)],1⟩) (fun tm σ=>∃ l13:List (List UInt8),∃ t14:Nat,q90 l13=some r∧tm=fr 56 [(5,.vl 0 t14 0 l13.length)]∧σ=⟨[(0,.vec (List.map cS l13).flatten 9 1 t14)],1⟩) n ⟨0,([]:List (List UInt8)),0,hF,rfl,rfl⟩ ?_ ?_
 rintro _ _ ⟨l13,t14,hF,rfl,rfl⟩
 unfold q90 at hF
 refine go ?_
 obtain rfl:=sI hF
 exact rT (us:=[.vl 0 t14 0 l13.length]) (u:=.iM cS l13) (q28 rfl (q24)) (fR 0 1)
 rintro (_|m1) _ _ ⟨z10,l11,t12,hF,rfl,rfl⟩
 cases hF
 unfold q2g at hF
 refine go ?_
 refine cF hF (fun h15 hF=>?_) (fun h15 hF=>?_)
 refine go ?_
 refine WPU.block ?_
 obtain ⟨x16,h17,hF⟩:=q00 hF
 obtain ⟨r18,h19,hF⟩:=q00 hF
 refine go ?_
 refine RS.ix h17 ?_
 refine go ?_
 refine RS.cl rfl (pC (qp2 n p1 x16 r18 h19) _) fn151 ?_
 refine go ?_
 refine gS (l':=[(0,_),(5,_),(6,_),(7,_),(8,_),(9,_),(10,_)]) ?_
 refine z59 (fun m tm σ=>∃ b28:Bool,∃ z29:Int,q5t n r3 z10 l11 (q2g p1 n r3 m1) r18 m b28 z29=some r∧tm=fr 56 [(0,.iM q01 p1),(5,.vl 0 t12 0 l11.length),(6,.iM cS r3),(7,.i6 z10),(8,.iM cS r18),(9,.bool b28),(10,.i6 z29)]∧σ=⟨[(0,.vec (List.map cS l11).flatten 9 1 t12)],1⟩) (fun tm σ=>∃ b30:Bool,q91 r3 z10 l11 (q2g p1 n r3 m1) b30=some r∧tm=fr 56 [(0,.iM q01 p1),(5,.vl 0 t12 0 l11.length),(6,.iM cS r3),(7,.i6 z10),(9,.bool b30)]∧σ=⟨[(0,.vec (List.map cS l11).flatten 9 1 t12)],1⟩) n ⟨true,0,hF,rfl,rfl⟩ ?_ ?_
 rintro _ _ ⟨b30,hF,rfl,rfl⟩
 unfold q91 at hF
 refine gr ?_
 refine z5a (fun tm σ=>∃ l32:List (List UInt8),∃ t33:Nat,q5s z10 (q2g p1 n r3 m1) l32=some r∧tm=fr 56 [(0,.iM q01 p1),(5,.vl 0 t33 0 l32.length),(6,.iM cS r3),(7,.i6 z10)]∧σ=⟨[(0,.vec (List.map cS l32).flatten 9 1 t33)],1⟩) ?_ ?_
 rintro _ _ ⟨l32,t33,hF,rfl,rfl⟩
 unfold q5s at hF
 refine go ?_
 exact lC ⟨_,l32,t33,hF,rfl,rfl⟩
 refine cF hF (fun h31 hF=>?_) (fun h31 hF=>?_)
 obtain ⟨x34,h35,hF⟩:=q00 hF
 obtain ⟨h36,hF⟩:=q06 hF
 refine go ?_
 refine RS.ix h35 ?_
 refine go ?_
 refine RS.g ?_
 refine RS.g ?_
 refine go ?_
 exact xC ⟨(l11++[x34]),(t12+1),hF,rfl,rfl⟩
 refine go ?_
 exact xC ⟨l11,t12,hF,rfl,rfl⟩
 rintro (_|m2) _ _ ⟨b28,z29,hF,rfl,rfl⟩
 cases hF
 unfold q5t at hF
 refine go ?_
 refine cF hF (fun h37 hF=>?_) (fun h37 hF=>?_)
 refine go ?_
 refine WPU.block ?_
 obtain ⟨b44,h45,hF⟩:=q00 hF
 refine gn ?_
 refine z5a (fun tm σ=>tm=fr 56 [(0,.iM q01 p1),(5,.vl 0 t12 0 l11.length),(6,.iM cS r3),(7,.i6 z10),(8,.iM cS r18),(9,.bool b44),(10,.i6 z29)]∧σ=⟨[(0,.vec (List.map cS l11).flatten 9 1 t12)],1⟩) ?_ ?_
 rintro _ _ ⟨rfl,rfl⟩
 refine go ?_
 exact lC ⟨b44,(IntKind.i64.wrap (z29+1)),hF,rfl,rfl⟩
 rcases gB h45 with ⟨h38,h45⟩ | ⟨h38,h45⟩
 rcases gB h45 with ⟨h39,h45⟩ | ⟨h39,h45⟩
 exact gy h45
 obtain ⟨x40,h41,h45⟩:=q00 h45
 obtain ⟨r42,h43,h45⟩:=q00 h45
 obtain rfl:=sI h45
 refine go ?_
 refine RS.ix h41 ?_
 refine go ?_
 refine RS.cl rfl (pC (q20 n r18 x40 r42 h43) _) fn126 ?_
 refine go ?_
 exact xC ⟨rfl,rfl⟩
 obtain rfl:=sI h45
 refine go ?_
 repeat refine RS.no (qmo rfl rfl rfl) rfl rfl ?_
 refine go ?_
 exact xC ⟨rfl,rfl⟩
 refine go ?_
 exact xC ⟨b28,hF,rfl,rfl⟩
 refine go ?_
 exact xC ⟨l11,t12,hF,rfl,rfl⟩
def q9p (r17:(List (List UInt8))) (z23:Int) (rc2:(List UInt8)→Int→Option ((List UInt8))) (s27:List UInt8):Option ((List UInt8)) :=
 q02 (q0j r17 z23) fun x28 =>
 q0z (s27.length+x28.length≤9223372036854775807) (
 rc2 (s27++x28) (IntKind.i64.wrap (z23+1)))
def qdq  (s24:List UInt8):Option ((List UInt8)) :=
 some s24
def q59 (r17:(List (List UInt8))):Nat→(List UInt8)→Int→Option ((List UInt8))
 | 0,_,_=>none
 | m2+1,s22,z23 =>
  cond (decide (z23<(r17.length:Int)))
   (cond (decide (z23 > 0))
    (q0z (s22.length+([38]).length≤9223372036854775807) (
    q9p r17 z23 (q59 r17 m2) (s22++[38])))
    (q9p r17 z23 (q59 r17 m2) s22))
   (qdq s22)
def q9q (z12:Int) (rc1:Int→(List (List UInt8))→Option ((List UInt8))) (l43:List (List UInt8)):Option ((List UInt8)) :=
 rc1 (IntKind.i64.wrap (z12+1)) l43
def qdp (p1:List q04) (n:Nat) (l15:List (List UInt8)):Option ((List UInt8)) :=
 q02 (q9k n p1 l15) fun r17 =>
 q59 r17 n [] 0
def q58 (p1:List q04) (p2:List (List UInt8)) (p3:List (List Int)) (p4:List Int) (n:Nat):Nat→Int→(List (List UInt8))→Option ((List UInt8))
 | 0,_,_=>none
 | m1+1,z12,l13 =>
  cond (decide (z12<(p2.length:Int)))
   (q02 (q0j p3 z12) fun x33 =>
   q02 (qgw n x33 p4) fun r35 =>
   cond r35
    (q02 (q0j p2 z12) fun x38 =>
    some x38)
    (q02 (qid n p4 z12) fun r40 =>
    cond r40
     (q02 (q0j p2 z12) fun x45 =>
     q0z ((l13.length+1)*16≤140737488355328∧l13.length+1≤140737488355328) (
     q9q z12 (q58 p1 p2 p3 p4 n m1) (l13++[x45])))
     (q9q z12 (q58 p1 p2 p3 p4 n m1) l13)))
   (qdp p1 n l13)
def qjl (n:Nat) (p1:List q04) (p2:List (List UInt8)) (p3:List (List Int)) (p4:List Int):Option ((List UInt8)) :=
 q58 p1 p2 p3 p4 n n 0 ([]:List (List UInt8))
theorem qr7 (n:Nat) (p1:List q04) (p2:List (List UInt8)) (p3:List (List Int)) (p4:List Int) (r:(List UInt8)) (hF:qjl n p1 p2 p3 p4=some r):EvU Tryz.prog 98 [.isl false (List.map q01 p1),.isl false (List.map cS p2),.isl false (List.map (cL (cI .u64)) p3),.isl false (List.map (cI .u64) p4)] ⟨[],0⟩ (fun u _=>u = .str r∧Bel 0 u):=by
 unfold qjl at hF
 refine bg4 59 fn98 ?_
 refine gr ?_
 refine gr ?_
 refine gr ?_
 refine WPU.ghost (tm':=fr 59 [(0,.iM q01 p1),(1,.iM cS p2),(2,.iM (cL (cI .u64)) p3),(3,.iM (cI .u64) p4),(9,.vl 0 0 0 (([]:List (List UInt8)).length)),(10,.i6 0)]) (σ':=⟨[(0,.vec (List.map cS ([]:List (List UInt8))).flatten 9 1 0)],1⟩) (Gh.trans (z5g 9 9 1 (by decide) NZ rfl rfl) (z5d ⟨rfl,rfl,rfl,rfl,rfl,rfl,trivial⟩ rfl)) NZ ?_
 refine gS (l':=[(0,_),(1,_),(2,_),(3,_),(9,_),(10,_)]) ?_
 refine z59 (fun m tm σ=>∃ z12:Int,∃ l13:List (List UInt8),∃ t14:Nat,q58 p1 p2 p3 p4 n m z12 l13=some r∧tm=fr 59 [(0,.iM q01 p1),(1,.iM cS p2),(2,.iM (cL (cI .u64)) p3),(3,.iM (cI .u64) p4),(9,.vl 0 t14 0 l13.length),(10,.i6 z12)]∧σ=⟨[(0,.vec (List.map cS l13).flatten 9 1 t14)],1⟩) (fun tm σ=>∃ l15:List (List UInt8),∃ t16:Nat,qdp p1 n l15=some r∧tm=fr 59 [(0,.iM q01 p1),(9,.vl 0 t16 0 l15.length)]∧σ=⟨[(0,.vec (List.map cS l15).flatten 9 1 t16)],1⟩) n ⟨0,([]:List (List UInt8)),0,hF,rfl,rfl⟩ ?_ ?_
 rintro _ _ ⟨l15,t16,hF,rfl,rfl⟩
 unfold qdp at hF
 refine gn ?_
 refine WPU.ghost (tm':=fr 59 [(0,.iM q01 p1),(9,.iM cS l15)]) (σ':=⟨[],1⟩) (Gh.trans (Gh.sub (l':=[(0,.iM q01 p1),(9,.vl 0 t16 0 l15.length)]) ⟨rfl,rfl,trivial⟩) (z5o 0 1)) NZ ?_
 obtain ⟨r17,h18,hF⟩:=q00 hF
 refine go ?_
 refine RS.cl rfl (pC (qf0 n p1 l15 r17 h18) _) fn131 ?_
 refine go ?_
 refine gS (l':=[(9,_),(11,_),(12,_)]) ?_
 refine z59 (fun m tm σ=>∃ s22:List UInt8,∃ z23:Int,q59 r17 m s22 z23=some r∧tm=fr 59 [(9,.iM cS r17),(11,.str s22),(12,.i6 z23)]∧σ=⟨[],1⟩) (fun tm σ=>∃ s24:List UInt8,qdq s24=some r∧tm=fr 59 [(11,.str s24)]∧σ=⟨[],1⟩) n ⟨[],0,hF,rfl,rfl⟩ ?_ ?_
 rintro _ _ ⟨s24,hF,rfl,rfl⟩
 unfold qdq at hF
 exact gx hF
 rintro (_|m2) _ _ ⟨s22,z23,hF,rfl,rfl⟩
 cases hF
 unfold q59 at hF
 refine go ?_
 refine cF hF (fun h25 hF=>?_) (fun h25 hF=>?_)
 refine go ?_
 refine WPU.block ?_
 refine gr ?_
 refine z5a (fun tm σ=>∃ s27:List UInt8,q9p r17 z23 (q59 r17 m2) s27=some r∧tm=fr 59 [(9,.iM cS r17),(11,.str s27),(12,.i6 z23)]∧σ=⟨[],1⟩) ?_ ?_
 rintro _ _ ⟨s27,hF,rfl,rfl⟩
 unfold q9p at hF
 obtain ⟨x28,h29,hF⟩:=q00 hF
 obtain ⟨h30,hF⟩:=q06 hF
 refine go ?_
 refine RS.ix h29 ?_
 refine go ?_
 refine RS.q (u:=.str (s27++x28)) rfl (q97 rfl rfl (z3b h30) rfl) ?_
 refine go ?_
 exact lC ⟨(s27++x28),(IntKind.i64.wrap (z23+1)),hF,rfl,rfl⟩
 refine cF hF (fun h26 hF=>?_) (fun h26 hF=>?_)
 obtain ⟨h31,hF⟩:=q06 hF
 refine go ?_
 refine RS.q (u:=.str (s22++[38])) rfl (q97 rfl rfl (z3b h31) rfl) ?_
 refine go ?_
 exact xC ⟨(s22++[38]),hF,rfl,rfl⟩
 refine go ?_
 exact xC ⟨s22,hF,rfl,rfl⟩
 refine go ?_
 exact xC ⟨s22,hF,rfl,rfl⟩
 rintro (_|m1) _ _ ⟨z12,l13,t14,hF,rfl,rfl⟩
 cases hF
 unfold q58 at hF
 refine go ?_
 refine cF hF (fun h32 hF=>?_) (fun h32 hF=>?_)
 refine go ?_
 refine WPU.block ?_
 obtain ⟨x33,h34,hF⟩:=q00 hF
 obtain ⟨r35,h36,hF⟩:=q00 hF
 refine go ?_
 refine RS.ix h34 ?_
 refine go ?_
 refine RS.cl rfl (pC (qoz n x33 p4 r35 h36) _) fn129 ?_
 refine go ?_
 refine cF hF (fun h37 hF=>?_) (fun h37 hF=>?_)
 obtain ⟨x38,h39,hF⟩:=q00 hF
 refine go ?_
 refine RS.ix h39 ?_
 exact gx hF
 obtain ⟨r40,h41,hF⟩:=q00 hF
 refine go ?_
 refine RS.cl rfl (pC (qmb n p4 z12 r40 h41) _) fn130 ?_
 refine gn ?_
 refine z5a (fun tm σ=>∃ l43:List (List UInt8),∃ t44:Nat,q9q z12 (q58 p1 p2 p3 p4 n m1) l43=some r∧tm=fr 59 [(0,.iM q01 p1),(1,.iM cS p2),(2,.iM (cL (cI .u64)) p3),(3,.iM (cI .u64) p4),(9,.vl 0 t44 0 l43.length),(10,.i6 z12)]∧σ=⟨[(0,.vec (List.map cS l43).flatten 9 1 t44)],1⟩) ?_ ?_
 rintro _ _ ⟨l43,t44,hF,rfl,rfl⟩
 unfold q9q at hF
 refine go ?_
 exact lC ⟨_,l43,t44,hF,rfl,rfl⟩
 refine cF hF (fun h42 hF=>?_) (fun h42 hF=>?_)
 obtain ⟨x45,h46,hF⟩:=q00 hF
 obtain ⟨h47,hF⟩:=q06 hF
 refine go ?_
 refine RS.ix h46 ?_
 refine go ?_
 refine RS.g ?_
 refine RS.g ?_
 refine go ?_
 exact xC ⟨(l13++[x45]),(t14+1),hF,rfl,rfl⟩
 refine go ?_
 exact xC ⟨l13,t14,hF,rfl,rfl⟩
 refine go ?_
 exact xC ⟨l13,t14,hF,rfl,rfl⟩
def q9i (z6:Int) (rc1:Int→(List Int)→Option ((List Int))) (l15:List Int):Option ((List Int)) :=
 rc1 (IntKind.i64.wrap (z6+1)) l15
def qdh  (l9:List Int):Option ((List Int)) :=
 some l9
def q54 (p1:List Int) (n:Nat):Nat→Int→(List Int)→Option ((List Int))
 | 0,_,_=>none
 | m1+1,z6,l7 =>
  cond (decide (z6<(IntKind.i64.wrap (64*(p1.length:Int)))))
   (q02 (qid n p1 z6) fun r12 =>
   cond r12
    (q0z ((l7.length+1)*8≤140737488355328∧l7.length+1≤140737488355328) (
    q9i z6 (q54 p1 n m1) (l7++[z6])))
    (q9i z6 (q54 p1 n m1) l7))
   (qdh l7)
def qji (n:Nat) (p1:List Int):Option ((List Int)) :=
 q54 p1 n n 0 ([]:List Int)
theorem qr4 (n:Nat) (p1:List Int) (r:(List Int)) (hF:qji n p1=some r):EvU Tryz.prog 152 [.isl false (List.map (cI .u64) p1)] ⟨[],0⟩ (fun u _=>u = .isl false (List.map (cI .i64) r)∧Bel 0 u):=by
 unfold qji at hF
 refine bg1 20 fn152 ?_
 refine gr ?_
 refine gr ?_
 refine gr ?_
 refine WPU.ghost (tm':=fr 20 [(0,.iM (cI .u64) p1),(3,.vl 0 0 0 (([]:List Int).length)),(4,.i6 0)]) (σ':=⟨[(0,.vec (List.map (cI .i64) ([]:List Int)).flatten 3 1 0)],1⟩) (Gh.trans (z5g 3 3 1 (by decide) NZ rfl rfl) (z5d ⟨rfl,rfl,rfl,trivial⟩ rfl)) NZ ?_
 refine gS (l':=[(0,_),(3,_),(4,_)]) ?_
 refine z59 (fun m tm σ=>∃ z6:Int,∃ l7:List Int,∃ t8:Nat,q54 p1 n m z6 l7=some r∧tm=fr 20 [(0,.iM (cI .u64) p1),(3,.vl 0 t8 0 l7.length),(4,.i6 z6)]∧σ=⟨[(0,.vec (List.map (cI .i64) l7).flatten 3 1 t8)],1⟩) (fun tm σ=>∃ l9:List Int,∃ t10:Nat,qdh l9=some r∧tm=fr 20 [(3,.vl 0 t10 0 l9.length)]∧σ=⟨[(0,.vec (List.map (cI .i64) l9).flatten 3 1 t10)],1⟩) n ⟨0,([]:List Int),0,hF,rfl,rfl⟩ ?_ ?_
 rintro _ _ ⟨l9,t10,hF,rfl,rfl⟩
 unfold qdh at hF
 refine go ?_
 obtain rfl:=sI hF
 exact rT (us:=[.vl 0 t10 0 l9.length]) (u:=.iM (cI .i64) l9) (q28 rfl (q24)) (fR 0 1)
 rintro (_|m1) _ _ ⟨z6,l7,t8,hF,rfl,rfl⟩
 cases hF
 unfold q54 at hF
 refine go ?_
 refine cF hF (fun h11 hF=>?_) (fun h11 hF=>?_)
 refine go ?_
 refine WPU.block ?_
 obtain ⟨r12,h13,hF⟩:=q00 hF
 refine go ?_
 refine RS.cl rfl (pC (qmb n p1 z6 r12 h13) _) fn130 ?_
 refine gn ?_
 refine z5a (fun tm σ=>∃ l15:List Int,∃ t16:Nat,q9i z6 (q54 p1 n m1) l15=some r∧tm=fr 20 [(0,.iM (cI .u64) p1),(3,.vl 0 t16 0 l15.length),(4,.i6 z6)]∧σ=⟨[(0,.vec (List.map (cI .i64) l15).flatten 3 1 t16)],1⟩) ?_ ?_
 rintro _ _ ⟨l15,t16,hF,rfl,rfl⟩
 unfold q9i at hF
 refine go ?_
 exact lC ⟨_,l15,t16,hF,rfl,rfl⟩
 refine cF hF (fun h14 hF=>?_) (fun h14 hF=>?_)
 obtain ⟨h17,hF⟩:=q06 hF
 refine go ?_
 refine RS.g ?_
 refine RS.g ?_
 refine go ?_
 exact xC ⟨(l7++[z6]),(t8+1),hF,rfl,rfl⟩
 refine go ?_
 exact xC ⟨l7,t8,hF,rfl,rfl⟩
 refine go ?_
 exact xC ⟨l7,t8,hF,rfl,rfl⟩
def qdg (n:Nat) (p1:List Int):Option (Int) :=
 q02 (qji n p1) fun r2 =>
 some (r2.length:Int)
theorem qic (n:Nat) (p1:List Int) (r:Int) (hF:qdg n p1=some r):EvU Tryz.prog 132 [.isl false (List.map (cI .u64) p1)] ⟨[],0⟩ (fun u _=>u = .int .i64 r∧Bel 0 u):=by
 unfold qdg at hF
 refine bg1 6 fn132 ?_
 obtain ⟨r2,h3,hF⟩:=q00 hF
 refine go ?_
 refine RS.cl rfl (pC (qr4 n p1 r2 h3) _) fn152 ?_
 exact gx hF
def qf5 (n:Nat) (p1:q0o) (p2:q0o):Option (Bool) :=
 q02 (qdg n p1.Code) fun r3 =>
 q02 (qdg n p2.Code) fun r5 =>
 q02 (cond (decide (r3 > r5))
  (some true)
  (cond (r3 == r5)
   (some (q5z p1.Name p2.Name))
   (some false))) fun b9 =>
 some b9
theorem qn9 (n:Nat) (p1:q0o) (p2:q0o) (r:Bool) (hF:qf5 n p1 p2=some r):EvU Tryz.prog 99 [.agg (q09 p1),.agg (q09 p2)] ⟨[],0⟩ (fun u _=>u = .bool r∧Bel 0 u):=by
 unfold qf5 at hF
 refine bg2 28 fn99 ?_
 obtain ⟨r3,h4,hF⟩:=q00 hF
 refine go ?_
 refine RS.cl rfl (pC (qic n p1.Code r3 h4) _) fn132 ?_
 obtain ⟨r5,h6,hF⟩:=q00 hF
 refine go ?_
 refine RS.cl rfl (pC (qic n p2.Code r5 h6) _) fn132 ?_
 obtain ⟨b9,h10,hF⟩:=q00 hF
 refine gn ?_
 refine z5a (fun tm σ=>tm=fr 28 [(4,.bool b9)]∧σ=⟨[(1,.row (q09 p2) 105),(0,.row (q09 p1) 105)],2⟩) ?_ ?_
 rintro _ _ ⟨rfl,rfl⟩
 exact gx hF
 rcases gB h10 with ⟨h7,h10⟩ | ⟨h7,h10⟩
 obtain rfl:=sI h10
 refine go ?_
 repeat refine RS.no (qmo rfl rfl rfl) rfl rfl ?_
 refine go ?_
 exact xC ⟨rfl,rfl⟩
 rcases gB h10 with ⟨h8,h10⟩ | ⟨h8,h10⟩
 obtain rfl:=sI h10
 refine go ?_
 refine RS.w (u:=.bool (q5z p1.Name p2.Name)) rfl (q97 rfl rfl rfl rfl) ?_
 refine go ?_
 exact xC ⟨rfl,rfl⟩
 exact gy h10
def qbr (z27:Int) (l28:List q0o) (rc2:Int→(List q0o)→Option ((List q0o)×Int)) (r35:(List UInt8)) (x37:List Int) (z50:Int):Option ((List q0o)×Int) :=
 q0z ((0:Int)≤z50∧z50≤((l28.length:Nat):Int)) (
 q0z (0+z50.toNat≤l28.length) (
 q0z (((l28.drop 0).take z50.toNat).length*40≤140737488355328∧((l28.drop 0).take z50.toNat).length≤140737488355328) (
 q0z ((((l28.drop 0).take z50.toNat).length+1)*40≤140737488355328∧((l28.drop 0).take z50.toNat).length+1≤140737488355328) (
 q0z ((0:Int)≤z50∧z50≤((l28.length:Nat):Int)) (
 q0z ((0+z50.toNat)+(l28.length - z50.toNat)≤l28.length) (
 q0z (((((l28.drop 0).take z50.toNat)++[(q0o.mk r35 x37)]).length+((l28.drop (0+z50.toNat)).take (l28.length - z50.toNat)).length)*40≤140737488355328∧(((l28.drop 0).take z50.toNat)++[(q0o.mk r35 x37)]).length+((l28.drop (0+z50.toNat)).take (l28.length - z50.toNat)).length≤140737488355328) (
 rc2 (IntKind.i64.wrap (z27+1)) ((((l28.drop 0).take z50.toNat)++[(q0o.mk r35 x37)])++((l28.drop (0+z50.toNat)).take (l28.length - z50.toNat))))))))))
def q89 (n:Nat) (z27:Int) (l28:List q0o) (rc2:Int→(List q0o)→Option ((List q0o)×Int)) (r35:(List UInt8)) (x37:List Int):Nat→Int→Option ((List q0o)×Int)
 | 0,_=>none
 | m3+1,z49 =>
  q02 (cond (decide (z49 > 0))
   (q02 (q0j l28 (IntKind.i64.wrap (z49 - 1))) fun x59 =>
   q02 (qf5 n (q0o.mk r35 x37) x59) fun r61 =>
   some r61)
   (some false)) fun b63 =>
  cond b63
   ((q89 n z27 l28 rc2 r35 x37 m3) (IntKind.i64.wrap (z49 - 1)))
   (qbr z27 l28 rc2 r35 x37 z49)
def qbq  (l30:List q0o):Option ((List q0o)×Int) :=
 some (l30,0)
def q4c (p1:List q04) (n:Nat) (r5:(List (List UInt8))) (l15:List (List Int)) (r17:(List (List Int))):Nat→Int→(List q0o)→Option ((List q0o)×Int)
 | 0,_,_=>none
 | m2+1,z27,l28 =>
  cond (decide (z27<(r17.length:Int)))
   (q02 (q0j r17 z27) fun x33 =>
   q02 (qjl n p1 r5 l15 x33) fun r35 =>
   q02 (q0j r17 z27) fun x37 =>
   q89 n z27 l28 (q4c p1 n r5 l15 r17 m2) r35 x37 n (l28.length:Int))
   (qbq l28)
def qbp (p1:List q04) (n:Nat) (r5:(List (List UInt8))) (l15:List (List Int)):Option ((List q0o)×Int) :=
 q02 (qf6 n l15) fun r17 =>
 cond (decide ((r17.length:Int) > 256))
  (some ([],7))
  (q4c p1 n r5 l15 r17 n 0 ([]:List q0o))
def q88 (p1:List q04) (n:Nat) (r5:(List (List UInt8))):Nat→Int→(List (List Int))→Option ((List q0o)×Int)
 | 0,_,_=>none
 | m1+1,z12,l13 =>
  cond (decide (z12<(r5.length:Int)))
   (q02 (q0j r5 z12) fun x67 =>
   q02 (qjk n p1 r5 x67) fun r69 =>
   q0z ((l13.length+1)*24≤140737488355328∧l13.length+1≤140737488355328) (
   (q88 p1 n r5 m1) (IntKind.i64.wrap (z12+1)) (l13++[r69])))
   (qbp p1 n r5 l13)
def q7i (n:Nat) (p1:List q04):Option ((List q0o)×Int) :=
 q02 (qh1 n p1) fun r2 =>
 cond (r2 != 0)
  (some ([],r2))
  (q02 (qdk n p1) fun r5 =>
  q88 p1 n r5 n 0 ([]:List (List Int)))
theorem q9m (n:Nat) (p1:List q04) (r:(List q0o)×Int) (hF:q7i n p1=some r):EvU Tryz.prog 72 [.isl false (List.map q01 p1)] ⟨[],0⟩ (fun u _=>u = .tup [.isl false (List.map q09 r.1),.int .i64 r.2]∧Bel 0 u):=by
 unfold q7i at hF
 refine bg1 92 fn72 ?_
 obtain ⟨r2,h3,hF⟩:=q00 hF
 refine go ?_
 refine RS.cl rfl (pC (qp4 n p1 r2 h3) _) fn94 ?_
 refine go ?_
 refine cF hF (fun h4 hF=>?_) (fun h4 hF=>?_)
 refine go ?_
 obtain rfl:=sI hF
 exact rT (us:=[.nils,.i6 r2]) (u:=.tup [.isl false [],.i6 r2]) (q28 rfl (q28 rfl (q24))) wR
 obtain ⟨r5,h6,hF⟩:=q00 hF
 refine go ?_
 refine RS.cl rfl (pC (qie n p1 r5 h6) _) fn95 ?_
 refine gr ?_
 refine gr ?_
 refine WPU.ghost (tm':=fr 92 [(0,.iM q01 p1),(5,.iM cS r5),(6,.vl 0 0 0 (([]:List (List Int)).length)),(7,.i6 0)]) (σ':=⟨[(0,.vec (List.map (cL (cI .u64)) ([]:List (List Int))).flatten 103 1 0)],1⟩) (Gh.trans (z5g 6 103 1 (by decide) NZ rfl rfl) (z5d ⟨rfl,rfl,rfl,rfl,trivial⟩ rfl)) NZ ?_
 refine gS (l':=[(0,_),(5,_),(6,_),(7,_)]) ?_
 refine z59 (fun m tm σ=>∃ z12:Int,∃ l13:List (List Int),∃ t14:Nat,q88 p1 n r5 m z12 l13=some r∧tm=fr 92 [(0,.iM q01 p1),(5,.iM cS r5),(6,.vl 0 t14 0 l13.length),(7,.i6 z12)]∧σ=⟨[(0,.vec (List.map (cL (cI .u64)) l13).flatten 103 1 t14)],1⟩) (fun tm σ=>∃ l15:List (List Int),∃ t16:Nat,qbp p1 n r5 l15=some r∧tm=fr 92 [(0,.iM q01 p1),(5,.iM cS r5),(6,.vl 0 t16 0 l15.length)]∧σ=⟨[(0,.vec (List.map (cL (cI .u64)) l15).flatten 103 1 t16)],1⟩) n ⟨0,([]:List (List Int)),0,hF,rfl,rfl⟩ ?_ ?_
 rintro _ _ ⟨l15,t16,hF,rfl,rfl⟩
 unfold qbp at hF
 refine gn ?_
 refine WPU.ghost (tm':=fr 92 [(0,.iM q01 p1),(5,.iM cS r5),(6,.iM (cL (cI .u64)) l15)]) (σ':=⟨[],1⟩) (Gh.trans (Gh.sub (l':=[(0,.iM q01 p1),(5,.iM cS r5),(6,.vl 0 t16 0 l15.length)]) ⟨rfl,rfl,rfl,trivial⟩) (z5o 0 1)) NZ ?_
 obtain ⟨r17,h18,hF⟩:=q00 hF
 refine go ?_
 refine RS.cl rfl (pC (qna n l15 r17 h18) _) fn97 ?_
 refine go ?_
 refine cF hF (fun h19 hF=>?_) (fun h19 hF=>?_)
 refine go ?_
 obtain rfl:=sI hF
 exact rT (us:=[.nils,.i6 7]) (u:=.tup [.isl false [],.i6 7]) (q28 rfl (q28 rfl (q24))) wR
 refine gr ?_
 refine gr ?_
 refine WPU.ghost (tm':=fr 92 [(0,.iM q01 p1),(5,.iM cS r5),(6,.iM (cL (cI .u64)) l15),(8,.iM (cL (cI .u64)) r17),(9,.vl 1 0 0 (([]:List q0o).length)),(10,.i6 0)]) (σ':=⟨[(1,.vec (List.map q09 ([]:List q0o)).flatten 105 2 0)],2⟩) (Gh.trans (z5g 9 105 2 (by decide) NZ rfl rfl) (z5d ⟨rfl,rfl,rfl,rfl,rfl,rfl,trivial⟩ rfl)) NZ ?_
 refine gS (l':=[(0,_),(5,_),(6,_),(8,_),(9,_),(10,_)]) ?_
 refine z59 (fun m tm σ=>∃ z27:Int,∃ l28:List q0o,∃ t29:Nat,q4c p1 n r5 l15 r17 m z27 l28=some r∧tm=fr 92 [(0,.iM q01 p1),(5,.iM cS r5),(6,.iM (cL (cI .u64)) l15),(8,.iM (cL (cI .u64)) r17),(9,.vl 1 t29 0 l28.length),(10,.i6 z27)]∧σ=⟨[(1,.vec (List.map q09 l28).flatten 105 2 t29)],2⟩) (fun tm σ=>∃ l30:List q0o,∃ t31:Nat,qbq l30=some r∧tm=fr 92 [(9,.vl 1 t31 0 l30.length)]∧σ=⟨[(1,.vec (List.map q09 l30).flatten 105 2 t31)],2⟩) n ⟨0,([]:List q0o),0,hF,rfl,rfl⟩ ?_ ?_
 rintro _ _ ⟨l30,t31,hF,rfl,rfl⟩
 unfold qbq at hF
 refine go ?_
 obtain rfl:=sI hF
 exact rT (us:=[.vl 1 t31 0 l30.length,.i6 0]) (u:=.tup [.iM q09 l30,.i6 0]) (q28 rfl (q28 rfl (q24))) (fR 1 2)
 rintro (_|m2) _ _ ⟨z27,l28,t29,hF,rfl,rfl⟩
 cases hF
 unfold q4c at hF
 refine go ?_
 refine cF hF (fun h32 hF=>?_) (fun h32 hF=>?_)
 refine go ?_
 refine WPU.block ?_
 obtain ⟨x33,h34,hF⟩:=q00 hF
 obtain ⟨r35,h36,hF⟩:=q00 hF
 obtain ⟨x37,h38,hF⟩:=q00 hF
 refine go ?_
 refine z5b Tryz.tb_ok [(0,13),(1,13),(2,13),(3,13),(4,13),(5,13),(6,13),(8,13),(9,13),(10,13),(11,13),(12,13)] (by kernel_rfl) ?_
 refine gd ?_
 refine RD.ix h34 ?_
 refine gd ?_
 refine z5l rfl (pC (qr7 n p1 r5 l15 x33 r35 h36)) fn98 ?_
 refine gd ?_
 refine RD.ix h38 ?_
 refine gd ?_
 refine RD.g ?_
 refine RD.gz ?_
 refine RD.done ⟨by kernel_rfl,⟨q2f rfl,⟨q2f rfl,⟨q2f rfl,⟨q2f rfl,⟨q2f rfl,⟨q3t rfl rfl (qnu (cL (cI .u64)) un148.h (q0r if103.h) (qc8 (cI .u64)) h34 rfl),⟨qqn un103.h rfl rfl rfl,⟨q2f rfl,⟨q2f rfl,⟨q3t rfl rfl (qnu (cL (cI .u64)) un148.h (q0r if103.h) (qc8 (cI .u64)) h38 rfl),⟨qqn un103.h rfl rfl rfl,⟨z2x bd105.h rfl rfl rfl,trivial⟩⟩⟩⟩⟩⟩⟩⟩⟩⟩⟩⟩,?_⟩
 refine go ?_
 refine gS (l':=[(0,_),(5,_),(6,_),(8,_),(9,_),(10,_),(11,_),(12,_)]) ?_
 refine z59 (fun m tm σ=>∃ z49:Int,q89 n z27 l28 (q4c p1 n r5 l15 r17 m2) r35 x37 m z49=some r∧tm=fr 92 [(0,.iM q01 p1),(5,.iM cS r5),(6,.iM (cL (cI .u64)) l15),(8,.iM (cL (cI .u64)) r17),(9,.vl 1 t29 0 l28.length),(10,.i6 z27),(11,.ptr 2 0 0),(12,.i6 z49)]∧σ=⟨[(2,.row [.str r35,.iM (cI .u64) x37] 105),(1,.vec (List.map q09 l28).flatten 105 2 t29)],3⟩) (fun tm σ=>∃ z50:Int,qbr z27 l28 (q4c p1 n r5 l15 r17 m2) r35 x37 z50=some r∧tm=fr 92 [(0,.iM q01 p1),(5,.iM cS r5),(6,.iM (cL (cI .u64)) l15),(8,.iM (cL (cI .u64)) r17),(9,.vl 1 t29 0 l28.length),(10,.i6 z27),(11,.ptr 2 0 0),(12,.i6 z50)]∧σ=⟨[(2,.row [.str r35,.iM (cI .u64) x37] 105),(1,.vec (List.map q09 l28).flatten 105 2 t29)],3⟩) n ⟨(l28.length:Int),hF,rfl,rfl⟩ ?_ ?_
 rintro _ _ ⟨z50,hF,rfl,rfl⟩
 unfold qbr at hF
 obtain ⟨h51,hF⟩:=q06 hF
 obtain ⟨h52,hF⟩:=q06 hF
 obtain ⟨h53,hF⟩:=q06 hF
 refine go ?_
 refine RS.q (u:=.vl 1 t29 0 z50.toNat) rfl (qaw rfl qrq (z2b rfl) qrq (z1d q09 un99.h (q0r if105.h) q4t (vo rfl) (Nat.le_of_eq (Nat.zero_add _)) (qw6 h51.1 h51.2))) (RS.q (u:=.vl 3 0 0 (((l28.drop 0).take z50.toNat).length)) (σ':=⟨[(3,.vec (List.map q09 ((l28.drop 0).take z50.toNat)).flatten 105 2 0),(2,.row [.str r35,.iM (cI .u64) x37] 105),(1,.vec (List.map q09 l28).flatten 105 2 t29)],4⟩) rfl (qau rfl rfl rfl rfl (qrx q09 ((l28.drop 0).take z50.toNat) un99.h un99.h if105.h rfl (quq q09 q4t (vo rfl) h52) h53)) ?_)
 obtain ⟨h54,hF⟩:=q06 hF
 refine go ?_
 refine RS.g ?_
 refine RS.g ?_
 obtain ⟨h55,hF⟩:=q06 hF
 obtain ⟨h56,hF⟩:=q06 hF
 obtain ⟨h57,hF⟩:=q06 hF
 refine go ?_
 refine RS.q (u:=.vl 1 t29 (0+z50.toNat) (l28.length - z50.toNat)) rfl (qaw rfl (z2b rfl) qrq qrq (z1d q09 un99.h (q0r if105.h) q4t (vo rfl) (Nat.le_of_eq (Nat.zero_add _)) (qw7 h55.1 h55.2))) (RS.q (u:=.vl 3 2 0 (((((l28.drop 0).take z50.toNat)++[(q0o.mk r35 x37)])++((l28.drop (0+z50.toNat)).take (l28.length - z50.toNat))).length)) (σ':=⟨[(4,.row [.str r35,.iM (cI .u64) x37] 105),(3,.vec (List.map q09 ((((l28.drop 0).take z50.toNat)++[(q0o.mk r35 x37)])++((l28.drop (0+z50.toNat)).take (l28.length - z50.toNat)))).flatten 105 2 2),(2,.row [.str r35,.iM (cI .u64) x37] 105),(1,.vec (List.map q09 l28).flatten 105 2 t29)],5⟩) rfl (qau rfl rfl rfl rfl (ql9 q09 ((l28.drop (0+z50.toNat)).take (l28.length - z50.toNat)) un99.h un99.h if105.h rfl q4t rfl (quq q09 q4t (vo rfl) h56) h57)) ?_)
 refine go ?_
 exact ⟨m2,_,_,Nat.lt_succ_self _,⟨(IntKind.i64.wrap (z27+1)),((((l28.drop 0).take z50.toNat)++[(q0o.mk r35 x37)])++((l28.drop (0+z50.toNat)).take (l28.length - z50.toNat))),2,hF,rfl,rfl⟩,NZ,Gh.trans (Gh.sub (l':=[(0,.iM q01 p1),(5,.iM cS r5),(6,.iM (cL (cI .u64)) l15),(8,.iM (cL (cI .u64)) r17),(9,.vl 3 2 0 (((((l28.drop 0).take z50.toNat)++[(q0o.mk r35 x37)])++((l28.drop (0+z50.toNat)).take (l28.length - z50.toNat))).length)),(10,.i6 (IntKind.i64.wrap (z27+1)))]) ⟨rfl,rfl,rfl,rfl,rfl,rfl,trivial⟩) (Gh.trans (Gh.mv (l':=[(0,.iM q01 p1),(5,.iM cS r5),(6,.iM (cL (cI .u64)) l15),(8,.iM (cL (cI .u64)) r17),(9,.vl 1 2 0 (((((l28.drop 0).take z50.toNat)++[(q0o.mk r35 x37)])++((l28.drop (0+z50.toNat)).take (l28.length - z50.toNat))).length)),(10,.i6 (IntKind.i64.wrap (z27+1)))]) (h':=[(4,.row [.str r35,.iM (cI .u64) x37] 105),(1,.vec (List.map q09 ((((l28.drop 0).take z50.toNat)++[(q0o.mk r35 x37)])++((l28.drop (0+z50.toNat)).take (l28.length - z50.toNat)))).flatten 105 2 2),(2,.row [.str r35,.iM (cI .u64) x37] 105)]) 1 3 NZ rfl rfl (by simp only [rS,rU,rUL,qey,mvN,Nat.beq,cond_true,cond_false]) rfl (by simp only [avH,rB,qo0,rUL,rU,qey,qu8,mvN,Nat.beq,cond_true,cond_false,and_self])) (Gh.toC (n1:=2) ⟨rfl,rfl,rfl,rfl,rfl,rfl,trivial⟩ rfl NZ (by simp)))⟩
 rintro (_|m3) _ _ ⟨z49,hF,rfl,rfl⟩
 cases hF
 unfold q89 at hF
 obtain ⟨b63,h64,hF⟩:=q00 hF
 refine gn ?_
 refine z5a (fun tm σ=>tm=fr 92 [(0,.iM q01 p1),(5,.iM cS r5),(6,.iM (cL (cI .u64)) l15),(8,.iM (cL (cI .u64)) r17),(9,.vl 1 t29 0 l28.length),(10,.i6 z27),(11,.ptr 2 0 0),(12,.i6 z49),(73,.bool b63)]∧σ=⟨[(2,.row [.str r35,.iM (cI .u64) x37] 105),(1,.vec (List.map q09 l28).flatten 105 2 t29)],3⟩) ?_ ?_
 rintro _ _ ⟨rfl,rfl⟩
 refine go ?_
 refine cF hF (fun h65 hF=>?_) (fun h65 hF=>?_)
 refine go ?_
 refine WPU.block ?_
 refine go ?_
 exact lC ⟨_,hF,rfl,rfl⟩
 refine go ?_
 exact xC ⟨z49,hF,rfl,rfl⟩
 rcases gB h64 with ⟨h58,h64⟩ | ⟨h58,h64⟩
 obtain ⟨x59,h60,h64⟩:=q00 h64
 obtain ⟨r61,h62,h64⟩:=q00 h64
 obtain rfl:=sI h64
 refine z5b Tryz.tb_ok [] (by kernel_rfl) ?_
 refine gd ?_
 refine RD.w rfl (q3t rfl rfl (q8m q09 un99.h (q0r if105.h) (by decide) q4t (vo rfl) h60)) ?_
 refine RD.w (u:=.agg (q09 x59)) rfl (z2s q09 un105.h rfl (q0r if105.h) q4t rfl rfl h60 rfl) (z5l rfl (pC (qn9 n (q0o.mk r35 x37) x59 r61 h62)) fn99 ?_)
 refine gd ?_
 refine RD.done ⟨by kernel_rfl,trivial,?_⟩
 refine go ?_
 exact xC ⟨rfl,rfl⟩
 obtain rfl:=sI h64
 refine z5b Tryz.tb_ok [] (by kernel_rfl) ?_
 refine gd ?_
 refine RD.done ⟨by kernel_rfl,trivial,?_⟩
 refine go ?_
 exact xC ⟨rfl,rfl⟩
 refine go ?_
 exact xC ⟨l28,t29,hF,rfl,rfl⟩
 rintro (_|m1) _ _ ⟨z12,l13,t14,hF,rfl,rfl⟩
 cases hF
 unfold q88 at hF
 refine go ?_
 refine cF hF (fun h66 hF=>?_) (fun h66 hF=>?_)
 refine go ?_
 refine WPU.block ?_
 obtain ⟨x67,h68,hF⟩:=q00 hF
 obtain ⟨r69,h70,hF⟩:=q00 hF
 obtain ⟨h71,hF⟩:=q06 hF
 refine go ?_
 refine RS.ix h68 ?_
 refine go ?_
 refine RS.cl rfl (pC (qr6 n p1 r5 x67 r69 h70) _) fn96 ?_
 refine RS.g ?_
 refine RS.g ?_
 refine go ?_
 exact lC ⟨_,(l13++[r69]),(t14+1),hF,rfl,rfl⟩
 refine go ?_
 exact xC ⟨l13,t14,hF,rfl,rfl⟩
def qc0   : Option ((List UInt8)×Bool) :=
 some ([],false)
def q8e (p1:q04) (p2:List UInt8):Nat→Int→Option ((List UInt8)×Bool)
 | 0,_=>none
 | m1+1,z8 =>
  cond (decide (z8<(p1.Feats.length:Int)))
   (q02 (q0j p1.Feats z8) fun x10 =>
   cond (q1c x10.Feat p2)
    (q02 (q0j p1.Feats z8) fun x13 =>
    some (x13.Value,true))
    ((q8e p1 p2 m1) (IntKind.i64.wrap (z8+1))))
   (qc0)
def qdu (n:Nat) (p1:q04) (p2:List UInt8):Option ((List UInt8)×Bool) :=
 q8e p1 p2 n 0
theorem qih (n:Nat) (p1:q04) (p2:List UInt8) (r:(List UInt8)×Bool) (hF:qdu n p1 p2=some r):EvU Tryz.prog 117 [.agg (q01 p1),.str p2] ⟨[],0⟩ (fun u _=>u = .tup [.str r.1,.bool r.2]∧Bel 0 u):=by
 unfold qdu at hF
 refine bg2 28 fn117 ?_
 refine go ?_
 refine gS (l':=[(1,_),(2,_),(6,_)]) ?_
 refine z59 (fun m tm σ=>∃ z8:Int,q8e p1 p2 m z8=some r∧tm=fr 28 [(1,.str p2),(2,.ptr 0 0 0),(6,.i6 z8)]∧σ=⟨[(0,.row (q01 p1) 127)],1⟩) (fun tm σ=>qc0=some r∧tm=fr 28 []∧σ=⟨[(0,.row (q01 p1) 127)],1⟩) n ⟨0,hF,rfl,rfl⟩ ?_ ?_
 rintro _ _ ⟨hF,rfl,rfl⟩
 unfold qc0 at hF
 refine go ?_
 obtain rfl:=sI hF
 exact rt2 rfl rfl rfl rfl rfl
 rintro (_|m1) _ _ ⟨z8,hF,rfl,rfl⟩
 cases hF
 unfold q8e at hF
 refine go ?_
 refine cF hF (fun h9 hF=>?_) (fun h9 hF=>?_)
 refine go ?_
 refine WPU.block ?_
 obtain ⟨x10,h11,hF⟩:=q00 hF
 refine go ?_
 refine RS.ix h11 ?_
 refine go ?_
 refine RS.q (u:=.bool (q1c x10.Feat p2)) rfl (q97 rfl rfl rfl rfl) ?_
 refine go ?_
 refine cF hF (fun h12 hF=>?_) (fun h12 hF=>?_)
 obtain ⟨x13,h14,hF⟩:=q00 hF
 refine go ?_
 refine RS.ix h14 ?_
 refine go ?_
 obtain rfl:=sI hF
 exact rt2 rfl rfl rfl rfl rfl
 refine go ?_
 exact lC ⟨_,hF,rfl,rfl⟩
 refine go ?_
 exact xC ⟨hF,rfl,rfl⟩
def q8d (z8:Int) (rc1:(List (List UInt8))→Int→Option ((List UInt8)×Bool)) (l21:List (List UInt8)):Option ((List UInt8)×Bool) :=
 rc1 l21 (IntKind.i64.wrap (z8+1))
def qby (p1:List q04) (n:Nat) (l9:List (List UInt8)):Option ((List UInt8)×Bool) :=
 q02 (q9k n p1 l9) fun r10 =>
 cond ((r10.length:Int) != 1)
  (some ([],false))
  (q02 (q0j r10 0) fun x13 =>
  some (x13,true))
def q4g (p1:List q04) (p2:List UInt8) (n:Nat):Nat→(List (List UInt8))→Int→Option ((List UInt8)×Bool)
 | 0,_,_=>none
 | m1+1,l7,z8 =>
  cond (decide (z8<(p1.length:Int)))
   (q02 (q0j p1 z8) fun x16 =>
   q02 (qdu n x16 p2) fun r18 =>
   cond r18.2
    (q02 (q0j p1 z8) fun x22 =>
    q02 (q8s n l7 x22.Name) fun r24 =>
    q8d z8 (q4g p1 p2 n m1) r24)
    (q8d z8 (q4g p1 p2 n m1) l7))
   (qby p1 n l7)
def qdt (n:Nat) (p1:List q04) (p2:List UInt8):Option ((List UInt8)×Bool) :=
 q4g p1 p2 n n [] 0
theorem qig (n:Nat) (p1:List q04) (p2:List UInt8) (r:(List UInt8)×Bool) (hF:qdt n p1 p2=some r):EvU Tryz.prog 101 [.isl false (List.map q01 p1),.str p2] ⟨[],0⟩ (fun u _=>u = .tup [.str r.1,.bool r.2]∧Bel 0 u):=by
 unfold qdt at hF
 refine bg2 43 fn101 ?_
 refine gr ?_
 refine gr ?_
 refine gr ?_
 refine WPU.ghost (tm':=fr 43 [(0,.iM q01 p1),(1,.str p2),(6,.iM cS []),(7,.i6 0)]) (Gh.trans (Gh.sub (l':=[(0,.iM q01 p1),(1,.str p2),(6,.nils),(7,.i6 0)]) ⟨rfl,rfl,rfl,rfl,trivial⟩) (Gh.wkS (l':=[(0,.iM q01 p1),(1,.str p2),(6,.iM cS []),(7,.i6 0)]) (.cons (.refl _) (.cons (.refl _) (.cons (.nil false) (.cons (.refl _) .nil)))))) NZ ?_
 refine gS (l':=[(0,_),(1,_),(6,_),(7,_)]) ?_
 refine z59 (fun m tm σ=>∃ l7:List (List UInt8),∃ z8:Int,q4g p1 p2 n m l7 z8=some r∧tm=fr 43 [(0,.iM q01 p1),(1,.str p2),(6,.iM cS l7),(7,.i6 z8)]∧σ=⟨[],0⟩) (fun tm σ=>∃ l9:List (List UInt8),qby p1 n l9=some r∧tm=fr 43 [(0,.iM q01 p1),(6,.iM cS l9)]∧σ=⟨[],0⟩) n ⟨[],0,hF,rfl,rfl⟩ ?_ ?_
 rintro _ _ ⟨l9,hF,rfl,rfl⟩
 unfold qby at hF
 obtain ⟨r10,h11,hF⟩:=q00 hF
 refine go ?_
 refine RS.cl rfl (pC (qf0 n p1 l9 r10 h11) _) fn131 ?_
 refine go ?_
 refine cF hF (fun h12 hF=>?_) (fun h12 hF=>?_)
 refine go ?_
 obtain rfl:=sI hF
 exact rt2 rfl rfl rfl rfl rfl
 obtain ⟨x13,h14,hF⟩:=q00 hF
 refine go ?_
 refine RS.ix h14 ?_
 refine go ?_
 obtain rfl:=sI hF
 exact rt2 rfl rfl rfl rfl rfl
 rintro (_|m1) _ _ ⟨l7,z8,hF,rfl,rfl⟩
 cases hF
 unfold q4g at hF
 refine go ?_
 refine cF hF (fun h15 hF=>?_) (fun h15 hF=>?_)
 refine go ?_
 refine WPU.block ?_
 obtain ⟨x16,h17,hF⟩:=q00 hF
 obtain ⟨r18,h19,hF⟩:=q00 hF
 refine go ?_
 refine RS.ix h17 ?_
 refine go ?_
 refine RS.cl rfl (pC (qih n x16 p2 r18 h19) _) fn117 ?_
 refine gr ?_
 refine z5a (fun tm σ=>∃ l21:List (List UInt8),q8d z8 (q4g p1 p2 n m1) l21=some r∧tm=fr 43 [(0,.iM q01 p1),(1,.str p2),(6,.iM cS l21),(7,.i6 z8)]∧σ=⟨[],0⟩) ?_ ?_
 rintro _ _ ⟨l21,hF,rfl,rfl⟩
 unfold q8d at hF
 refine go ?_
 exact lC ⟨l21,(IntKind.i64.wrap (z8+1)),hF,rfl,rfl⟩
 refine cF hF (fun h20 hF=>?_) (fun h20 hF=>?_)
 obtain ⟨x22,h23,hF⟩:=q00 hF
 obtain ⟨r24,h25,hF⟩:=q00 hF
 refine go ?_
 refine RS.ix h23 ?_
 refine go ?_
 refine RS.cl rfl (pC (q7g n l7 x22.Name r24 h25) _) fn116 ?_
 refine go ?_
 exact xC ⟨r24,hF,rfl,rfl⟩
 refine go ?_
 exact xC ⟨l7,hF,rfl,rfl⟩
 refine go ?_
 exact xC ⟨l7,hF,rfl,rfl⟩
def q4w (n:Nat) (r2:(List (List UInt8))) (x9:q04) (z16:Int) (rc2:Int→Option (Int))  : Option (Int) :=
 q02 (q0j x9.Feats z16) fun x30 =>
 q02 (q2t n r2 x30.Value) fun r32 =>
 cond (!r32)
  (some 5)
  (rc2 (IntKind.i64.wrap (z16+1)))
def q39 (n:Nat) (r2:(List (List UInt8))) (x9:q04) (z16:Int) (rc2:Int→Option (Int)):Nat→Int→Option (Int)
 | 0,_=>none
 | m3+1,z29 =>
  cond (decide (z29<z16))
   (q02 (q0j x9.Feats z29) fun x36 =>
   q02 (q0j x9.Feats z16) fun x38 =>
   cond (q1c x36.Feat x38.Feat)
    (some 4)
    ((q39 n r2 x9 z16 rc2 m3) (IntKind.i64.wrap (z29+1))))
   (q4w n r2 x9 z16 rc2)
def q4v (z7:Int) (rc1:Int→Option (Int))  : Option (Int) :=
 rc1 (IntKind.i64.wrap (z7+1))
def q1t (n:Nat) (r2:(List (List UInt8))) (z7:Int) (rc1:Int→Option (Int)) (x9:q04):Nat→Int→Option (Int)
 | 0,_=>none
 | m2+1,z16 =>
  cond (decide (z16<(x9.Feats.length:Int)))
   (q02 (q0j x9.Feats z16) fun x18 =>
   q02 (qdb n x18.Feat) fun r20 =>
   cond (!r20)
    (some 1)
    (q39 n r2 x9 z16 (q1t n r2 z7 rc1 x9 m2) n 0))
   (q4v z7 rc1)
def q4u   : Option (Int) :=
 some 0
def q13 (p1:List q04) (n:Nat) (r2:(List (List UInt8))):Nat→Int→Option (Int)
 | 0,_=>none
 | m1+1,z7 =>
  cond (decide (z7<(p1.length:Int)))
   (q02 (q0j p1 z7) fun x9 =>
   q1t n r2 z7 (q13 p1 n r2 m1) x9 n 0)
   (q4u)
def q6t (n:Nat) (p1:List q04):Option (Int) :=
 q02 (qdk n p1) fun r2 =>
 q13 p1 n r2 n 0
theorem qg0 (n:Nat) (p1:List q04) (r:Int) (hF:q6t n p1=some r):EvU Tryz.prog 115 [.isl false (List.map q01 p1)] ⟨[],0⟩ (fun u _=>u = .int .i64 r∧Bel 0 u):=by
 unfold q6t at hF
 refine bg1 58 fn115 ?_
 obtain ⟨r2,h3,hF⟩:=q00 hF
 refine go ?_
 refine RS.cl rfl (pC (qie n p1 r2 h3) _) fn95 ?_
 refine go ?_
 refine gS (l':=[(0,_),(3,_),(4,_)]) ?_
 refine z59 (fun m tm σ=>∃ z7:Int,q13 p1 n r2 m z7=some r∧tm=fr 58 [(0,.iM q01 p1),(3,.iM cS r2),(4,.i6 z7)]∧σ=⟨[],0⟩) (fun tm σ=>q4u=some r∧tm=fr 58 []∧σ=⟨[],0⟩) n ⟨0,hF,rfl,rfl⟩ ?_ ?_
 rintro _ _ ⟨hF,rfl,rfl⟩
 unfold q4u at hF
 exact gx hF
 rintro (_|m1) _ _ ⟨z7,hF,rfl,rfl⟩
 cases hF
 unfold q13 at hF
 refine go ?_
 refine cF hF (fun h8 hF=>?_) (fun h8 hF=>?_)
 refine go ?_
 refine WPU.block ?_
 obtain ⟨x9,h10,hF⟩:=q00 hF
 refine go ?_
 refine RS.ix h10 ?_
 refine go ?_
 refine gS (l':=[(0,_),(3,_),(4,_),(5,_),(6,_)]) ?_
 refine z59 (fun m tm σ=>∃ z16:Int,q1t n r2 z7 (q13 p1 n r2 m1) x9 m z16=some r∧tm=fr 58 [(0,.iM q01 p1),(3,.iM cS r2),(4,.i6 z7),(5,.iM q0d x9.Feats),(6,.i6 z16)]∧σ=⟨[],0⟩) (fun tm σ=>q4v z7 (q13 p1 n r2 m1)=some r∧tm=fr 58 [(0,.iM q01 p1),(3,.iM cS r2),(4,.i6 z7)]∧σ=⟨[],0⟩) n ⟨0,hF,rfl,rfl⟩ ?_ ?_
 rintro _ _ ⟨hF,rfl,rfl⟩
 unfold q4v at hF
 refine go ?_
 exact lC ⟨_,hF,rfl,rfl⟩
 rintro (_|m2) _ _ ⟨z16,hF,rfl,rfl⟩
 cases hF
 unfold q1t at hF
 refine go ?_
 refine cF hF (fun h17 hF=>?_) (fun h17 hF=>?_)
 refine go ?_
 refine WPU.block ?_
 obtain ⟨x18,h19,hF⟩:=q00 hF
 obtain ⟨r20,h21,hF⟩:=q00 hF
 refine go ?_
 refine RS.ix h19 ?_
 refine go ?_
 refine RS.cl rfl (pC (qm9 n x18.Feat r20 h21) _) fn57 ?_
 refine go ?_
 refine cF hF (fun h22 hF=>?_) (fun h22 hF=>?_)
 exact gx hF
 refine go ?_
 refine gS (l':=[(0,_),(3,_),(4,_),(5,_),(6,_),(7,_)]) ?_
 refine z59 (fun m tm σ=>∃ z29:Int,q39 n r2 x9 z16 (q1t n r2 z7 (q13 p1 n r2 m1) x9 m2) m z29=some r∧tm=fr 58 [(0,.iM q01 p1),(3,.iM cS r2),(4,.i6 z7),(5,.iM q0d x9.Feats),(6,.i6 z16),(7,.i6 z29)]∧σ=⟨[],0⟩) (fun tm σ=>q4w n r2 x9 z16 (q1t n r2 z7 (q13 p1 n r2 m1) x9 m2)=some r∧tm=fr 58 [(0,.iM q01 p1),(3,.iM cS r2),(4,.i6 z7),(5,.iM q0d x9.Feats),(6,.i6 z16)]∧σ=⟨[],0⟩) n ⟨0,hF,rfl,rfl⟩ ?_ ?_
 rintro _ _ ⟨hF,rfl,rfl⟩
 unfold q4w at hF
 obtain ⟨x30,h31,hF⟩:=q00 hF
 obtain ⟨r32,h33,hF⟩:=q00 hF
 refine go ?_
 refine RS.ix h31 ?_
 refine go ?_
 refine RS.cl rfl (pC (q20 n r2 x30.Value r32 h33) _) fn126 ?_
 refine go ?_
 refine cF hF (fun h34 hF=>?_) (fun h34 hF=>?_)
 exact gx hF
 refine go ?_
 exact lC ⟨_,hF,rfl,rfl⟩
 rintro (_|m3) _ _ ⟨z29,hF,rfl,rfl⟩
 cases hF
 unfold q39 at hF
 refine go ?_
 refine cF hF (fun h35 hF=>?_) (fun h35 hF=>?_)
 refine go ?_
 refine WPU.block ?_
 obtain ⟨x36,h37,hF⟩:=q00 hF
 obtain ⟨x38,h39,hF⟩:=q00 hF
 refine go ?_
 refine z5b Tryz.tb_ok [] (by kernel_rfl) ?_
 refine gd ?_
 refine RD.ix h37 ?_
 refine gd ?_
 refine RD.ix h39 ?_
 refine gd ?_
 refine RD.q (u:=.bool (q1c x36.Feat x38.Feat)) rfl (q97 rfl rfl rfl rfl) ?_
 refine RD.done ⟨by kernel_rfl,trivial,?_⟩
 refine go ?_
 refine cF hF (fun h40 hF=>?_) (fun h40 hF=>?_)
 exact gx hF
 refine go ?_
 exact lC ⟨_,hF,rfl,rfl⟩
 refine go ?_
 exact xC ⟨hF,rfl,rfl⟩
 refine go ?_
 exact xC ⟨hF,rfl,rfl⟩
 refine go ?_
 exact xC ⟨hF,rfl,rfl⟩
def qbx (z6:Int) (rc1:(List (List UInt8))→Int→Option ((List (List UInt8)))) (l15:List (List UInt8)):Option ((List (List UInt8))) :=
 rc1 l15 (IntKind.i64.wrap (z6+1))
def q8c (p1:List q04) (n:Nat) (z6:Int) (rc1:(List (List UInt8))→Int→Option ((List (List UInt8)))):Nat→(List (List UInt8))→Int→Option ((List (List UInt8)))
 | 0,_,_=>none
 | m2+1,l13,z14 =>
  q02 (q0j p1 z6) fun x16 =>
  cond (decide (z14<(x16.Feats.length:Int)))
   (q02 (q0j p1 z6) fun x19 =>
   q02 (q0j x19.Feats z14) fun x21 =>
   q02 (q8s n l13 x21.Feat) fun r23 =>
   (q8c p1 n z6 rc1 m2) r23 (IntKind.i64.wrap (z14+1)))
   (qbx z6 rc1 l13)
def qbw  (l7:List (List UInt8)):Option ((List (List UInt8))) :=
 some l7
def q4f (p1:List q04) (n:Nat):Nat→(List (List UInt8))→Int→Option ((List (List UInt8)))
 | 0,_,_=>none
 | m1+1,l5,z6 =>
  cond (decide (z6<(p1.length:Int)))
   (q8c p1 n z6 (q4f p1 n m1) n l5 0)
   (qbw l5)
def qaj (n:Nat) (p1:List q04):Option ((List (List UInt8))) :=
 q4f p1 n n [] 0
theorem qds (n:Nat) (p1:List q04) (r:(List (List UInt8))) (hF:qaj n p1=some r):EvU Tryz.prog 91 [.isl false (List.map q01 p1)] ⟨[],0⟩ (fun u _=>u = .isl false (List.map cS r)∧Bel 0 u):=by
 unfold qaj at hF
 refine bg1 34 fn91 ?_
 refine gr ?_
 refine gr ?_
 refine gr ?_
 refine WPU.ghost (tm':=fr 34 [(0,.iM q01 p1),(3,.iM cS []),(4,.i6 0)]) (Gh.trans (Gh.sub (l':=[(0,.iM q01 p1),(3,.nils),(4,.i6 0)]) ⟨rfl,rfl,rfl,trivial⟩) (Gh.wkS (l':=[(0,.iM q01 p1),(3,.iM cS []),(4,.i6 0)]) (.cons (.refl _) (.cons (.nil false) (.cons (.refl _) .nil))))) NZ ?_
 refine gS (l':=[(0,_),(3,_),(4,_)]) ?_
 refine z59 (fun m tm σ=>∃ l5:List (List UInt8),∃ z6:Int,q4f p1 n m l5 z6=some r∧tm=fr 34 [(0,.iM q01 p1),(3,.iM cS l5),(4,.i6 z6)]∧σ=⟨[],0⟩) (fun tm σ=>∃ l7:List (List UInt8),qbw l7=some r∧tm=fr 34 [(3,.iM cS l7)]∧σ=⟨[],0⟩) n ⟨[],0,hF,rfl,rfl⟩ ?_ ?_
 rintro _ _ ⟨l7,hF,rfl,rfl⟩
 unfold qbw at hF
 exact gx hF
 rintro (_|m1) _ _ ⟨l5,z6,hF,rfl,rfl⟩
 cases hF
 unfold q4f at hF
 refine go ?_
 refine cF hF (fun h8 hF=>?_) (fun h8 hF=>?_)
 refine go ?_
 refine WPU.block ?_
 refine go ?_
 refine gS (l':=[(0,_),(3,_),(4,_),(5,_)]) ?_
 refine z59 (fun m tm σ=>∃ l13:List (List UInt8),∃ z14:Int,q8c p1 n z6 (q4f p1 n m1) m l13 z14=some r∧tm=fr 34 [(0,.iM q01 p1),(3,.iM cS l13),(4,.i6 z6),(5,.i6 z14)]∧σ=⟨[],0⟩) (fun tm σ=>∃ l15:List (List UInt8),qbx z6 (q4f p1 n m1) l15=some r∧tm=fr 34 [(0,.iM q01 p1),(3,.iM cS l15),(4,.i6 z6)]∧σ=⟨[],0⟩) n ⟨l5,0,hF,rfl,rfl⟩ ?_ ?_
 rintro _ _ ⟨l15,hF,rfl,rfl⟩
 unfold qbx at hF
 refine go ?_
 exact lC ⟨l15,(IntKind.i64.wrap (z6+1)),hF,rfl,rfl⟩
 rintro (_|m2) _ _ ⟨l13,z14,hF,rfl,rfl⟩
 cases hF
 unfold q8c at hF
 obtain ⟨x16,h17,hF⟩:=q00 hF
 refine go ?_
 refine RS.ix h17 ?_
 refine go ?_
 refine cF hF (fun h18 hF=>?_) (fun h18 hF=>?_)
 refine go ?_
 refine WPU.block ?_
 obtain ⟨x19,h20,hF⟩:=q00 hF
 obtain ⟨x21,h22,hF⟩:=q00 hF
 obtain ⟨r23,h24,hF⟩:=q00 hF
 refine go ?_
 refine RS.ix h20 ?_
 refine go ?_
 refine RS.ix h22 ?_
 refine go ?_
 refine RS.cl rfl (pC (q7g n l13 x21.Feat r23 h24) _) fn116 ?_
 refine go ?_
 exact lC ⟨r23,(IntKind.i64.wrap (z14+1)),hF,rfl,rfl⟩
 refine go ?_
 exact xC ⟨l13,hF,rfl,rfl⟩
 refine go ?_
 exact xC ⟨l5,hF,rfl,rfl⟩
def q4d (n:Nat) (p1:List q0o) (p2:Int) (p3:Int):Option (Bool) :=
 q02 (q0j p1 p3) fun x4 =>
 q02 (q0j p1 p2) fun x6 =>
 q02 (q8r n x4.Code x6.Code) fun r8 =>
 some r8
theorem q42 (n:Nat) (p1:List q0o) (p2:Int) (p3:Int) (r:Bool) (hF:q4d n p1 p2 p3=some r):EvU Tryz.prog 100 [.isl false (List.map q09 p1),.int .i64 p2,.int .i64 p3] ⟨[],0⟩ (fun u _=>u = .bool r∧Bel 0 u):=by
 unfold q4d at hF
 refine bg3 18 fn100 ?_
 obtain ⟨x4,h5,hF⟩:=q00 hF
 obtain ⟨x6,h7,hF⟩:=q00 hF
 obtain ⟨r8,h9,hF⟩:=q00 hF
 refine go ?_
 refine z5b Tryz.tb_ok [] (by kernel_rfl) ?_
 refine gd ?_
 refine RD.ix h5 ?_
 refine gd ?_
 refine RD.ix h7 ?_
 refine gd ?_
 refine z5l rfl (pC (q7x n x4.Code x6.Code r8 h9)) fn133 ?_
 refine gd ?_
 refine RD.done ⟨by kernel_rfl,trivial,?_⟩
 exact gx hF
def qak   : Option (Int) :=
 some (-1)
def q6w (p1:List q0o) (p2:List UInt8):Nat→Int→Option (Int)
 | 0,_=>none
 | m1+1,z6 =>
  cond (decide (z6<(p1.length:Int)))
   (q02 (q0j p1 z6) fun x8 =>
   cond (q1c x8.Name p2)
    (some z6)
    ((q6w p1 p2 m1) (IntKind.i64.wrap (z6+1))))
   (qak)
def q8t (n:Nat) (p1:List q0o) (p2:List UInt8):Option (Int) :=
 q6w p1 p2 n 0
theorem qbz (n:Nat) (p1:List q0o) (p2:List UInt8) (r:Int) (hF:q8t n p1 p2=some r):EvU Tryz.prog 102 [.isl false (List.map q09 p1),.str p2] ⟨[],0⟩ (fun u _=>u = .int .i64 r∧Bel 0 u):=by
 unfold q8t at hF
 refine bg2 20 fn102 ?_
 refine go ?_
 refine gS (l':=[(0,_),(1,_),(5,_)]) ?_
 refine z59 (fun m tm σ=>∃ z6:Int,q6w p1 p2 m z6=some r∧tm=fr 20 [(0,.iM q09 p1),(1,.str p2),(5,.i6 z6)]∧σ=⟨[],0⟩) (fun tm σ=>qak=some r∧tm=fr 20 []∧σ=⟨[],0⟩) n ⟨0,hF,rfl,rfl⟩ ?_ ?_
 rintro _ _ ⟨hF,rfl,rfl⟩
 unfold qak at hF
 exact gx hF
 rintro (_|m1) _ _ ⟨z6,hF,rfl,rfl⟩
 cases hF
 unfold q6w at hF
 refine go ?_
 refine cF hF (fun h7 hF=>?_) (fun h7 hF=>?_)
 refine go ?_
 refine WPU.block ?_
 obtain ⟨x8,h9,hF⟩:=q00 hF
 refine go ?_
 refine RS.ix h9 ?_
 refine go ?_
 refine RS.q (u:=.bool (q1c x8.Name p2)) rfl (q97 rfl rfl rfl rfl) ?_
 refine go ?_
 refine cF hF (fun h10 hF=>?_) (fun h10 hF=>?_)
 exact gx hF
 refine go ?_
 exact lC ⟨_,hF,rfl,rfl⟩
 refine go ?_
 exact xC ⟨hF,rfl,rfl⟩
def q6v  (b17:Bool) (l18:List Int):Option ((List Int)×Bool) :=
 some (l18,b17)
def q3a (p1:List q04) (p2:List q0o) (p3:Int) (p4:List UInt8) (n:Nat):Nat→Bool→(List Int)→Int→Option ((List Int)×Bool)
 | 0,_,_,_=>none
 | m1+1,b14,l15,z16 =>
  cond (decide (z16<(p1.length:Int)))
   (q02 (q0j p1 z16) fun x20 =>
   q02 (qdu n x20 p4) fun r22 =>
   q02 (cond (!r22.2)
    (some true)
    (q02 (q0j p1 z16) fun x25 =>
    q02 (q8t n p2 x25.Name) fun r27 =>
    q02 (q4d n p2 r27 p3) fun r29 =>
    some (!r29))) fun b31 =>
   cond b31
    ((q3a p1 p2 p3 p4 n m1) b14 l15 (IntKind.i64.wrap (z16+1)))
    (q02 (q8t n p2 r22.1) fun r34 =>
    q02 (q0j p2 r34) fun x36 =>
    q02 (qib n l15 x36.Code) fun r38 =>
    (q3a p1 p2 p3 p4 n m1) true r38 (IntKind.i64.wrap (z16+1))))
   (q6v b14 l15)
def q6u (n:Nat) (p1:List q04) (p2:List q0o) (p3:Int) (p4:List UInt8):Option ((List Int)×Bool) :=
 q02 (q0j p2 0) fun x5 =>
 q3a p1 p2 p3 p4 n n false x5.Code 0
theorem qce (n:Nat) (p1:List q04) (p2:List q0o) (p3:Int) (p4:List UInt8) (r:(List Int)×Bool) (hF:q6u n p1 p2 p3 p4=some r):EvU Tryz.prog 92 [.isl false (List.map q01 p1),.isl false (List.map q09 p2),.int .i64 p3,.str p4] ⟨[],0⟩ (fun u _=>u = .tup [.isl false (List.map (cI .u64) r.1),.bool r.2]∧Bel 0 u):=by
 unfold q6u at hF
 refine bg4 60 fn92 ?_
 obtain ⟨x5,h6,hF⟩:=q00 hF
 refine go ?_
 refine RS.ix h6 ?_
 refine go ?_
 refine gS (l':=[(0,_),(1,_),(2,_),(3,_),(10,_),(11,_),(12,_)]) ?_
 refine z59 (fun m tm σ=>∃ b14:Bool,∃ l15:List Int,∃ z16:Int,q3a p1 p2 p3 p4 n m b14 l15 z16=some r∧tm=fr 60 [(0,.iM q01 p1),(1,.iM q09 p2),(2,.i6 p3),(3,.str p4),(10,.bool b14),(11,.iM (cI .u64) l15),(12,.i6 z16)]∧σ=⟨[],0⟩) (fun tm σ=>∃ b17:Bool,∃ l18:List Int,q6v b17 l18=some r∧tm=fr 60 [(10,.bool b17),(11,.iM (cI .u64) l18)]∧σ=⟨[],0⟩) n ⟨false,x5.Code,0,hF,rfl,rfl⟩ ?_ ?_
 rintro _ _ ⟨b17,l18,hF,rfl,rfl⟩
 unfold q6v at hF
 refine go ?_
 obtain rfl:=sI hF
 exact rt2 rfl rfl rfl rfl rfl
 rintro (_|m1) _ _ ⟨b14,l15,z16,hF,rfl,rfl⟩
 cases hF
 unfold q3a at hF
 refine go ?_
 refine cF hF (fun h19 hF=>?_) (fun h19 hF=>?_)
 refine go ?_
 refine WPU.block ?_
 obtain ⟨x20,h21,hF⟩:=q00 hF
 obtain ⟨r22,h23,hF⟩:=q00 hF
 refine go ?_
 refine RS.ix h21 ?_
 refine go ?_
 refine RS.cl rfl (pC (qih n x20 p4 r22 h23) _) fn117 ?_
 obtain ⟨b31,h32,hF⟩:=q00 hF
 refine gn ?_
 refine z5a (fun tm σ=>tm=fr 60 [(0,.iM q01 p1),(1,.iM q09 p2),(2,.i6 p3),(3,.str p4),(10,.bool b14),(11,.iM (cI .u64) l15),(12,.i6 z16),(13,.str r22.1),(48,.bool b31)]∧σ=⟨[],0⟩) ?_ ?_
 rintro _ _ ⟨rfl,rfl⟩
 refine go ?_
 refine cF hF (fun h33 hF=>?_) (fun h33 hF=>?_)
 refine go ?_
 exact lC ⟨b14,l15,(IntKind.i64.wrap (z16+1)),hF,rfl,rfl⟩
 obtain ⟨r34,h35,hF⟩:=q00 hF
 obtain ⟨x36,h37,hF⟩:=q00 hF
 obtain ⟨r38,h39,hF⟩:=q00 hF
 refine go ?_
 refine RS.cl rfl (pC (qbz n p2 r22.1 r34 h35) _) fn102 ?_
 refine RS.ix h37 ?_
 refine go ?_
 refine RS.cl rfl (pC (qma n l15 x36.Code r38 h39) _) fn118 ?_
 refine go ?_
 exact lC ⟨true,r38,(IntKind.i64.wrap (z16+1)),hF,rfl,rfl⟩
 rcases gB h32 with ⟨h24,h32⟩ | ⟨h24,h32⟩
 exact gy h32
 obtain ⟨x25,h26,h32⟩:=q00 h32
 obtain ⟨r27,h28,h32⟩:=q00 h32
 obtain ⟨r29,h30,h32⟩:=q00 h32
 obtain rfl:=sI h32
 refine go ?_
 refine RS.ix h26 ?_
 refine go ?_
 refine RS.cl rfl (pC (qbz n p2 x25.Name r27 h28) _) fn102 ?_
 refine go ?_
 refine RS.cl rfl (pC (q42 n p2 r27 p3 r29 h30) _) fn100 ?_
 refine go ?_
 exact xC ⟨rfl,rfl⟩
 refine go ?_
 exact xC ⟨b14,l15,hF,rfl,rfl⟩
def qbu (z20:Int) (rc2:Int→Option (Int))  : Option (Int) :=
 rc2 (IntKind.i64.wrap (z20+1))
def q8b (p1:List q04) (n:Nat) (r2:(List q0o)×Int) (r5:(List (List UInt8))) (z20:Int) (rc2:Int→Option (Int)):Nat→Int→Option (Int)
 | 0,_=>none
 | m3+1,z27 =>
  cond (decide (z27<(r5.length:Int)))
   (q02 (q0j r5 z27) fun x29 =>
   q02 (q6u n p1 r2.1 z20 x29) fun r31 =>
   q02 (cond r31.2
    (some ((r31.1.length:Int) == 0))
    (some false)) fun b34 =>
   cond b34
    (some 11)
    ((q8b p1 n r2 r5 z20 rc2 m3) (IntKind.i64.wrap (z27+1))))
   (qbu z20 rc2)
def qbt   : Option (Int) :=
 some 0
def q4e (p1:List q04) (n:Nat) (r2:(List q0o)×Int) (r5:(List (List UInt8))):Nat→Int→Option (Int)
 | 0,_=>none
 | m2+1,z20 =>
  cond (decide (z20<(r2.1.length:Int)))
   (q8b p1 n r2 r5 z20 (q4e p1 n r2 r5 m2) n 0)
   (qbt)
def qbs (p1:List q04) (n:Nat) (r2:(List q0o)×Int) (r5:(List (List UInt8)))  : Option (Int) :=
 q4e p1 n r2 r5 n 0
def q8a (p1:List q04) (n:Nat) (r2:(List q0o)×Int) (r5:(List (List UInt8))):Nat→Int→Option (Int)
 | 0,_=>none
 | m1+1,z15 =>
  cond (decide (z15<(r5.length:Int)))
   (q02 (q0j r5 z15) fun x38 =>
   q02 (qdt n p1 x38) fun r40 =>
   cond (!r40.2)
    (some 10)
    ((q8a p1 n r2 r5 m1) (IntKind.i64.wrap (z15+1))))
   (qbs p1 n r2 r5)
def qdr (n:Nat) (p1:List q04):Option (Int) :=
 q02 (q7i n p1) fun r2 =>
 cond (r2.2 != 0)
  (some r2.2)
  (q02 (qaj n p1) fun r5 =>
  cond (decide ((r5.length:Int) > 64))
   (some 7)
   (q02 (q6t n p1) fun r8 =>
   cond (r8 != 0)
    (some r8)
    (q8a p1 n r2 r5 n 0)))
theorem qif (n:Nat) (p1:List q04) (r:Int) (hF:qdr n p1=some r):EvU Tryz.prog 90 [.isl false (List.map q01 p1)] ⟨[],0⟩ (fun u _=>u = .int .i64 r∧Bel 0 u):=by
 unfold qdr at hF
 refine bg1 78 fn90 ?_
 obtain ⟨r2,h3,hF⟩:=q00 hF
 refine go ?_
 refine RS.cl rfl (pC (q9m n p1 r2 h3) _) fn72 ?_
 refine go ?_
 refine cF hF (fun h4 hF=>?_) (fun h4 hF=>?_)
 exact gx hF
 obtain ⟨r5,h6,hF⟩:=q00 hF
 refine go ?_
 refine RS.cl rfl (pC (qds n p1 r5 h6) _) fn91 ?_
 refine go ?_
 refine cF hF (fun h7 hF=>?_) (fun h7 hF=>?_)
 exact gx hF
 obtain ⟨r8,h9,hF⟩:=q00 hF
 refine go ?_
 refine RS.cl rfl (pC (qg0 n p1 r8 h9) _) fn115 ?_
 refine go ?_
 refine cF hF (fun h10 hF=>?_) (fun h10 hF=>?_)
 exact gx hF
 refine go ?_
 refine gS (l':=[(0,_),(3,_),(5,_),(7,_)]) ?_
 refine z59 (fun m tm σ=>∃ z15:Int,q8a p1 n r2 r5 m z15=some r∧tm=fr 78 [(0,.iM q01 p1),(3,.iM q09 r2.1),(5,.iM cS r5),(7,.i6 z15)]∧σ=⟨[],0⟩) (fun tm σ=>qbs p1 n r2 r5=some r∧tm=fr 78 [(0,.iM q01 p1),(3,.iM q09 r2.1),(5,.iM cS r5)]∧σ=⟨[],0⟩) n ⟨0,hF,rfl,rfl⟩ ?_ ?_
 rintro _ _ ⟨hF,rfl,rfl⟩
 unfold qbs at hF
 refine go ?_
 refine gS (l':=[(0,_),(3,_),(5,_),(10,_)]) ?_
 refine z59 (fun m tm σ=>∃ z20:Int,q4e p1 n r2 r5 m z20=some r∧tm=fr 78 [(0,.iM q01 p1),(3,.iM q09 r2.1),(5,.iM cS r5),(10,.i6 z20)]∧σ=⟨[],0⟩) (fun tm σ=>qbt=some r∧tm=fr 78 []∧σ=⟨[],0⟩) n ⟨0,hF,rfl,rfl⟩ ?_ ?_
 rintro _ _ ⟨hF,rfl,rfl⟩
 unfold qbt at hF
 exact gx hF
 rintro (_|m2) _ _ ⟨z20,hF,rfl,rfl⟩
 cases hF
 unfold q4e at hF
 refine go ?_
 refine cF hF (fun h21 hF=>?_) (fun h21 hF=>?_)
 refine go ?_
 refine WPU.block ?_
 refine go ?_
 refine gS (l':=[(0,_),(3,_),(5,_),(10,_),(11,_)]) ?_
 refine z59 (fun m tm σ=>∃ z27:Int,q8b p1 n r2 r5 z20 (q4e p1 n r2 r5 m2) m z27=some r∧tm=fr 78 [(0,.iM q01 p1),(3,.iM q09 r2.1),(5,.iM cS r5),(10,.i6 z20),(11,.i6 z27)]∧σ=⟨[],0⟩) (fun tm σ=>qbu z20 (q4e p1 n r2 r5 m2)=some r∧tm=fr 78 [(0,.iM q01 p1),(3,.iM q09 r2.1),(5,.iM cS r5),(10,.i6 z20)]∧σ=⟨[],0⟩) n ⟨0,hF,rfl,rfl⟩ ?_ ?_
 rintro _ _ ⟨hF,rfl,rfl⟩
 unfold qbu at hF
 refine go ?_
 exact lC ⟨_,hF,rfl,rfl⟩
 rintro (_|m3) _ _ ⟨z27,hF,rfl,rfl⟩
 cases hF
 unfold q8b at hF
 refine go ?_
 refine cF hF (fun h28 hF=>?_) (fun h28 hF=>?_)
 refine go ?_
 refine WPU.block ?_
 obtain ⟨x29,h30,hF⟩:=q00 hF
 obtain ⟨r31,h32,hF⟩:=q00 hF
 refine go ?_
 refine RS.ix h30 ?_
 refine go ?_
 refine RS.cl rfl (pC (qce n p1 r2.1 z20 x29 r31 h32) _) fn92 ?_
 obtain ⟨b34,h35,hF⟩:=q00 hF
 refine gn ?_
 refine z5a (fun tm σ=>tm=fr 78 [(0,.iM q01 p1),(3,.iM q09 r2.1),(5,.iM cS r5),(10,.i6 z20),(11,.i6 z27),(77,.bool b34)]∧σ=⟨[],0⟩) ?_ ?_
 rintro _ _ ⟨rfl,rfl⟩
 refine go ?_
 refine cF hF (fun h36 hF=>?_) (fun h36 hF=>?_)
 exact gx hF
 refine go ?_
 exact lC ⟨_,hF,rfl,rfl⟩
 rcases gB h35 with ⟨h33,h35⟩ | ⟨h33,h35⟩
 exact gy h35
 exact gy h35
 refine go ?_
 exact xC ⟨hF,rfl,rfl⟩
 refine go ?_
 exact xC ⟨hF,rfl,rfl⟩
 rintro (_|m1) _ _ ⟨z15,hF,rfl,rfl⟩
 cases hF
 unfold q8a at hF
 refine go ?_
 refine cF hF (fun h37 hF=>?_) (fun h37 hF=>?_)
 refine go ?_
 refine WPU.block ?_
 obtain ⟨x38,h39,hF⟩:=q00 hF
 obtain ⟨r40,h41,hF⟩:=q00 hF
 refine go ?_
 refine RS.ix h39 ?_
 refine go ?_
 refine RS.cl rfl (pC (qig n p1 x38 r40 h41) _) fn101 ?_
 refine go ?_
 refine cF hF (fun h42 hF=>?_) (fun h42 hF=>?_)
 exact gx hF
 refine go ?_
 exact lC ⟨_,hF,rfl,rfl⟩
 refine go ?_
 exact xC ⟨hF,rfl,rfl⟩
def qdm   : Option (Int) :=
 some (-1)
def q9n (p1:List q0o) (n:Nat) (r3:(List Int)):Nat→Int→Option (Int)
 | 0,_=>none
 | m1+1,z8 =>
  cond (decide (z8<(p1.length:Int)))
   (q02 (q0j p1 z8) fun x10 =>
   q02 (qfn n x10.Code r3) fun r12 =>
   cond r12
    (some z8)
    ((q9n p1 n r3 m1) (IntKind.i64.wrap (z8+1))))
   (qdm)
def qjj (n:Nat) (p1:List q0o) (p2:List Int):Option (Int) :=
 q02 (q66 n p2) fun r3 =>
 q9n p1 n r3 n 0
theorem qr5 (n:Nat) (p1:List q0o) (p2:List Int) (r:Int) (hF:qjj n p1 p2=some r):EvU Tryz.prog 93 [.isl false (List.map q09 p1),.isl false (List.map (cI .u64) p2)] ⟨[],0⟩ (fun u _=>u = .int .i64 r∧Bel 0 u):=by
 unfold qjj at hF
 refine bg2 23 fn93 ?_
 obtain ⟨r3,h4,hF⟩:=q00 hF
 refine go ?_
 refine RS.cl rfl (pC (q7v n p2 r3 h4) _) fn119 ?_
 refine go ?_
 refine gS (l':=[(0,_),(5,_),(6,_)]) ?_
 refine z59 (fun m tm σ=>∃ z8:Int,q9n p1 n r3 m z8=some r∧tm=fr 23 [(0,.iM q09 p1),(5,.iM (cI .u64) r3),(6,.i6 z8)]∧σ=⟨[],0⟩) (fun tm σ=>qdm=some r∧tm=fr 23 []∧σ=⟨[],0⟩) n ⟨0,hF,rfl,rfl⟩ ?_ ?_
 rintro _ _ ⟨hF,rfl,rfl⟩
 unfold qdm at hF
 exact gx hF
 rintro (_|m1) _ _ ⟨z8,hF,rfl,rfl⟩
 cases hF
 unfold q9n at hF
 refine go ?_
 refine cF hF (fun h9 hF=>?_) (fun h9 hF=>?_)
 refine go ?_
 refine WPU.block ?_
 obtain ⟨x10,h11,hF⟩:=q00 hF
 obtain ⟨r12,h13,hF⟩:=q00 hF
 refine go ?_
 refine RS.ix h11 ?_
 refine go ?_
 refine RS.cl rfl (pC (qk6 n x10.Code r3 r12 h13) _) fn120 ?_
 refine go ?_
 refine cF hF (fun h14 hF=>?_) (fun h14 hF=>?_)
 exact gx hF
 refine go ?_
 exact lC ⟨_,hF,rfl,rfl⟩
 refine go ?_
 exact xC ⟨hF,rfl,rfl⟩
def q6s (z30:Int) (rc2:Int→(List q0v)→Option ((List (List q0v))×Int)) (l42:List q0v):Option ((List (List q0v))×Int) :=
 rc2 (IntKind.i64.wrap (z30+1)) l42
def qai (z15:Int) (l16:List (List q0v)) (rc1:Int→(List (List q0v))→Option ((List (List q0v))×Int)) (l33:List q0v):Option ((List (List q0v))×Int) :=
 q0z ((l16.length+1)*24≤140737488355328∧l16.length+1≤140737488355328) (
 rc1 (IntKind.i64.wrap (z15+1)) (l16++[l33]))
def q3p (p1:List q04) (n:Nat) (r5:(List q0o)×Int) (r7:(List (List UInt8))) (z15:Int) (l16:List (List q0v)) (rc1:Int→(List (List q0v))→Option ((List (List q0v))×Int)):Nat→Int→(List q0v)→Option ((List (List q0v))×Int)
 | 0,_,_=>none
 | m2+1,z30,l31 =>
  cond (decide (z30<(r7.length:Int)))
   (q02 (q0j r7 z30) fun x37 =>
   q02 (q6u n p1 r5.1 z15 x37) fun r39 =>
   cond r39.2
    (q02 (qjj n r5.1 r39.1) fun r44 =>
    q0z ((l31.length+1)*16≤140737488355328∧l31.length+1≤140737488355328) (
    q6s z30 (q3p p1 n r5 r7 z15 l16 rc1 m2) (l31++[(q0v.mk z30 r44)])))
    (q6s z30 (q3p p1 n r5 r7 z15 l16 rc1 m2) l31))
   (qai z15 l16 rc1 l31)
def qah  (l18:List (List q0v)):Option ((List (List q0v))×Int) :=
 some (l18,0)
def q2w (p1:List q04) (n:Nat) (r5:(List q0o)×Int) (r7:(List (List UInt8))):Nat→Int→(List (List q0v))→Option ((List (List q0v))×Int)
 | 0,_,_=>none
 | m1+1,z15,l16 =>
  cond (decide (z15<(r5.1.length:Int)))
   (q3p p1 n r5 r7 z15 l16 (q2w p1 n r5 r7 m1) n 0 ([]:List q0v))
   (qah l16)
def qf7 (n:Nat) (p1:List q04):Option ((List (List q0v))×Int) :=
 q02 (qdr n p1) fun r2 =>
 cond (r2 != 0)
  (some ([],r2))
  (q02 (q7i n p1) fun r5 =>
  q02 (qaj n p1) fun r7 =>
  q2w p1 n r5 r7 n 0 ([]:List (List q0v)))
theorem qnb (n:Nat) (p1:List q04) (r:(List (List q0v))×Int) (hF:qf7 n p1=some r):EvU Tryz.prog 71 [.isl false (List.map q01 p1)] ⟨[],0⟩ (fun u _=>u = .tup [.isl false (List.map (cL q1o) r.1),.int .i64 r.2]∧Bel 0 u):=by
 unfold qf7 at hF
 refine bg1 63 fn71 ?_
 obtain ⟨r2,h3,hF⟩:=q00 hF
 refine go ?_
 refine RS.cl rfl (pC (qif n p1 r2 h3) _) fn90 ?_
 refine go ?_
 refine cF hF (fun h4 hF=>?_) (fun h4 hF=>?_)
 refine go ?_
 obtain rfl:=sI hF
 exact rT (us:=[.nils,.i6 r2]) (u:=.tup [.isl false [],.i6 r2]) (q28 rfl (q28 rfl (q24))) wR
 obtain ⟨r5,h6,hF⟩:=q00 hF
 refine go ?_
 refine RS.cl rfl (pC (q9m n p1 r5 h6) _) fn72 ?_
 obtain ⟨r7,h8,hF⟩:=q00 hF
 refine go ?_
 refine RS.cl rfl (pC (qds n p1 r7 h8) _) fn91 ?_
 refine gr ?_
 refine gr ?_
 refine WPU.ghost (tm':=fr 63 [(0,.iM q01 p1),(5,.iM q09 r5.1),(7,.iM cS r7),(8,.vl 0 0 0 (([]:List (List q0v)).length)),(9,.i6 0)]) (σ':=⟨[(0,.vec (List.map (cL q1o) ([]:List (List q0v))).flatten 107 1 0)],1⟩) (Gh.trans (z5g 8 107 1 (by decide) NZ rfl rfl) (z5d ⟨rfl,rfl,rfl,rfl,rfl,trivial⟩ rfl)) NZ ?_
 refine gS (l':=[(0,_),(5,_),(7,_),(8,_),(9,_)]) ?_
 refine z59 (fun m tm σ=>∃ z15:Int,∃ l16:List (List q0v),∃ t17:Nat,q2w p1 n r5 r7 m z15 l16=some r∧tm=fr 63 [(0,.iM q01 p1),(5,.iM q09 r5.1),(7,.iM cS r7),(8,.vl 0 t17 0 l16.length),(9,.i6 z15)]∧σ=⟨[(0,.vec (List.map (cL q1o) l16).flatten 107 1 t17)],1⟩) (fun tm σ=>∃ l18:List (List q0v),∃ t19:Nat,qah l18=some r∧tm=fr 63 [(8,.vl 0 t19 0 l18.length)]∧σ=⟨[(0,.vec (List.map (cL q1o) l18).flatten 107 1 t19)],1⟩) n ⟨0,([]:List (List q0v)),0,hF,rfl,rfl⟩ ?_ ?_
 rintro _ _ ⟨l18,t19,hF,rfl,rfl⟩
 unfold qah at hF
 refine go ?_
 obtain rfl:=sI hF
 exact rT (us:=[.vl 0 t19 0 l18.length,.i6 0]) (u:=.tup [.iM (cL q1o) l18,.i6 0]) (q28 rfl (q28 rfl (q24))) (fR 0 1)
 rintro (_|m1) _ _ ⟨z15,l16,t17,hF,rfl,rfl⟩
 cases hF
 unfold q2w at hF
 refine go ?_
 refine cF hF (fun h20 hF=>?_) (fun h20 hF=>?_)
 refine go ?_
 refine WPU.block ?_
 refine gr ?_
 refine gr ?_
 refine WPU.ghost (tm':=fr 63 [(0,.iM q01 p1),(5,.iM q09 r5.1),(7,.iM cS r7),(8,.vl 0 t17 0 l16.length),(9,.i6 z15),(10,.vl 1 0 0 (([]:List q0v).length)),(11,.i6 0)]) (σ':=⟨[(1,.vec (List.map q1o ([]:List q0v)).flatten 147 2 0),(0,.vec (List.map (cL q1o) l16).flatten 107 1 t17)],2⟩) (Gh.trans (z5g 10 147 2 (by decide) NZ rfl rfl) (z5d ⟨rfl,rfl,rfl,rfl,rfl,rfl,rfl,trivial⟩ rfl)) NZ ?_
 refine gS (l':=[(0,_),(5,_),(7,_),(8,_),(9,_),(10,_),(11,_)]) ?_
 refine z59 (fun m tm σ=>∃ z30:Int,∃ l31:List q0v,∃ t32:Nat,q3p p1 n r5 r7 z15 l16 (q2w p1 n r5 r7 m1) m z30 l31=some r∧tm=fr 63 [(0,.iM q01 p1),(5,.iM q09 r5.1),(7,.iM cS r7),(8,.vl 0 t17 0 l16.length),(9,.i6 z15),(10,.vl 1 t32 0 l31.length),(11,.i6 z30)]∧σ=⟨[(1,.vec (List.map q1o l31).flatten 147 2 t32),(0,.vec (List.map (cL q1o) l16).flatten 107 1 t17)],2⟩) (fun tm σ=>∃ l33:List q0v,∃ t34:Nat,qai z15 l16 (q2w p1 n r5 r7 m1) l33=some r∧tm=fr 63 [(0,.iM q01 p1),(5,.iM q09 r5.1),(7,.iM cS r7),(8,.vl 0 t17 0 l16.length),(9,.i6 z15),(10,.vl 1 t34 0 l33.length)]∧σ=⟨[(1,.vec (List.map q1o l33).flatten 147 2 t34),(0,.vec (List.map (cL q1o) l16).flatten 107 1 t17)],2⟩) n ⟨0,([]:List q0v),0,hF,rfl,rfl⟩ ?_ ?_
 rintro _ _ ⟨l33,t34,hF,rfl,rfl⟩
 unfold qai at hF
 refine gn ?_
 refine WPU.ghost (tm':=fr 63 [(0,.iM q01 p1),(5,.iM q09 r5.1),(7,.iM cS r7),(8,.vl 0 t17 0 l16.length),(9,.i6 z15),(10,.iM q1o l33)]) (σ':=⟨[(0,.vec (List.map (cL q1o) l16).flatten 107 1 t17)],2⟩) (Gh.trans (Gh.sub (l':=[(0,.iM q01 p1),(5,.iM q09 r5.1),(7,.iM cS r7),(8,.vl 0 t17 0 l16.length),(9,.i6 z15),(10,.vl 1 t34 0 l33.length)]) ⟨rfl,rfl,rfl,rfl,rfl,rfl,trivial⟩) (z5o 1 2)) NZ ?_
 obtain ⟨h35,hF⟩:=q06 hF
 refine go ?_
 refine RS.g ?_
 refine RS.g ?_
 refine go ?_
 exact lC ⟨_,(l16++[l33]),(t17+1),hF,rfl,rfl⟩
 rintro (_|m2) _ _ ⟨z30,l31,t32,hF,rfl,rfl⟩
 cases hF
 unfold q3p at hF
 refine go ?_
 refine cF hF (fun h36 hF=>?_) (fun h36 hF=>?_)
 refine go ?_
 refine WPU.block ?_
 obtain ⟨x37,h38,hF⟩:=q00 hF
 obtain ⟨r39,h40,hF⟩:=q00 hF
 refine go ?_
 refine RS.ix h38 ?_
 refine go ?_
 refine RS.cl rfl (pC (qce n p1 r5.1 z15 x37 r39 h40) _) fn92 ?_
 refine gr ?_
 refine z5a (fun tm σ=>∃ l42:List q0v,∃ t43:Nat,q6s z30 (q3p p1 n r5 r7 z15 l16 (q2w p1 n r5 r7 m1) m2) l42=some r∧tm=fr 63 [(0,.iM q01 p1),(5,.iM q09 r5.1),(7,.iM cS r7),(8,.vl 0 t17 0 l16.length),(9,.i6 z15),(10,.vl 1 t43 0 l42.length),(11,.i6 z30)]∧σ=⟨[(1,.vec (List.map q1o l42).flatten 147 2 t43),(0,.vec (List.map (cL q1o) l16).flatten 107 1 t17)],2⟩) ?_ ?_
 rintro _ _ ⟨l42,t43,hF,rfl,rfl⟩
 unfold q6s at hF
 refine go ?_
 exact lC ⟨_,l42,t43,hF,rfl,rfl⟩
 refine cF hF (fun h41 hF=>?_) (fun h41 hF=>?_)
 obtain ⟨r44,h45,hF⟩:=q00 hF
 obtain ⟨h46,hF⟩:=q06 hF
 refine go ?_
 refine RS.cl rfl (pC (qr5 n r5.1 r39.1 r44 h45) _) fn93 ?_
 refine go ?_
 refine RS.g ?_
 refine RS.g ?_
 refine go ?_
 exact xC ⟨(l31++[(q0v.mk z30 r44)]),(t32+1),hF,rfl,rfl⟩
 refine go ?_
 exact xC ⟨l31,t32,hF,rfl,rfl⟩
 refine go ?_
 exact xC ⟨l31,t32,hF,rfl,rfl⟩
 refine go ?_
 exact xC ⟨l16,t17,hF,rfl,rfl⟩
def q6p (z8:Int) (rc1:Int→(List Int)→Option ((List Int))) (l31:List Int):Option ((List Int)) :=
 rc1 (IntKind.i64.wrap (z8+1)) l31
def qae (z8:Int) (l9:List Int) (rc1:Int→(List Int)→Option ((List Int))) (b29:Bool):Option ((List Int)) :=
 cond b29
  (q0z ((l9.length+1)*8≤140737488355328∧l9.length+1≤140737488355328) (
  q6p z8 rc1 (l9++[z8])))
  (q6p z8 rc1 l9)
def q6q (p1:List q0o) (p2:Int) (n:Nat) (z8:Int) (l9:List Int) (rc1:Int→(List Int)→Option ((List Int))):Nat→Bool→Int→Option ((List Int))
 | 0,_,_=>none
 | m2+1,b27,z28 =>
  cond (decide (z28<(p1.length:Int)))
   (q02 (cond b27
    (cond (z28 == p2)
     (some true)
     (cond (z28 == z8)
      (some true)
      (q02 (q4d n p1 z8 z28) fun r38 =>
      cond (!r38)
       (some true)
       (q02 (q4d n p1 z28 p2) fun r41 =>
       some (!r41)))))
    (some false)) fun b43 =>
   (q6q p1 p2 n z8 l9 rc1 m2) b43 (IntKind.i64.wrap (z28+1)))
   (qae z8 l9 rc1 b27)
def qad  (l11:List Int):Option ((List Int)) :=
 some l11
def q2d (p1:List q0o) (p2:Int) (n:Nat):Nat→Int→(List Int)→Option ((List Int))
 | 0,_,_=>none
 | m1+1,z8,l9 =>
  cond (decide (z8<(p1.length:Int)))
   (q02 (cond (z8 == p2)
    (some true)
    (q02 (q4d n p1 z8 p2) fun r15 =>
    some (!r15))) fun b17 =>
   cond b17
    ((q2d p1 p2 n m1) (IntKind.i64.wrap (z8+1)) l9)
    (q6q p1 p2 n z8 l9 (q2d p1 p2 n m1) n true 0))
   (qad l9)
def qf4 (n:Nat) (p1:List q0o) (p2:Int):Option ((List Int)) :=
 q2d p1 p2 n n 0 ([]:List Int)
theorem qn8 (n:Nat) (p1:List q0o) (p2:Int) (r:(List Int)) (hF:qf4 n p1 p2=some r):EvU Tryz.prog 73 [.isl false (List.map q09 p1),.int .i64 p2] ⟨[],0⟩ (fun u _=>u = .isl false (List.map (cI .i64) r)∧Bel 0 u):=by
 unfold qf4 at hF
 refine bg2 62 fn73 ?_
 refine gr ?_
 refine gr ?_
 refine gr ?_
 refine WPU.ghost (tm':=fr 62 [(0,.iM q09 p1),(1,.i6 p2),(5,.vl 0 0 0 (([]:List Int).length)),(6,.i6 0)]) (σ':=⟨[(0,.vec (List.map (cI .i64) ([]:List Int)).flatten 3 1 0)],1⟩) (Gh.trans (z5g 5 3 1 (by decide) NZ rfl rfl) (z5d ⟨rfl,rfl,rfl,rfl,trivial⟩ rfl)) NZ ?_
 refine gS (l':=[(0,_),(1,_),(5,_),(6,_)]) ?_
 refine z59 (fun m tm σ=>∃ z8:Int,∃ l9:List Int,∃ t10:Nat,q2d p1 p2 n m z8 l9=some r∧tm=fr 62 [(0,.iM q09 p1),(1,.i6 p2),(5,.vl 0 t10 0 l9.length),(6,.i6 z8)]∧σ=⟨[(0,.vec (List.map (cI .i64) l9).flatten 3 1 t10)],1⟩) (fun tm σ=>∃ l11:List Int,∃ t12:Nat,qad l11=some r∧tm=fr 62 [(5,.vl 0 t12 0 l11.length)]∧σ=⟨[(0,.vec (List.map (cI .i64) l11).flatten 3 1 t12)],1⟩) n ⟨0,([]:List Int),0,hF,rfl,rfl⟩ ?_ ?_
 rintro _ _ ⟨l11,t12,hF,rfl,rfl⟩
 unfold qad at hF
 refine go ?_
 obtain rfl:=sI hF
 exact rT (us:=[.vl 0 t12 0 l11.length]) (u:=.iM (cI .i64) l11) (q28 rfl (q24)) (fR 0 1)
 rintro (_|m1) _ _ ⟨z8,l9,t10,hF,rfl,rfl⟩
 cases hF
 unfold q2d at hF
 refine go ?_
 refine cF hF (fun h13 hF=>?_) (fun h13 hF=>?_)
 refine go ?_
 refine WPU.block ?_
 obtain ⟨b17,h18,hF⟩:=q00 hF
 refine gn ?_
 refine z5a (fun tm σ=>tm=fr 62 [(0,.iM q09 p1),(1,.i6 p2),(5,.vl 0 t10 0 l9.length),(6,.i6 z8),(24,.bool b17)]∧σ=⟨[(0,.vec (List.map (cI .i64) l9).flatten 3 1 t10)],1⟩) ?_ ?_
 rintro _ _ ⟨rfl,rfl⟩
 refine go ?_
 refine cF hF (fun h19 hF=>?_) (fun h19 hF=>?_)
 refine go ?_
 exact lC ⟨_,l9,t10,hF,rfl,rfl⟩
 refine go ?_
 refine gS (l':=[(0,_),(1,_),(5,_),(6,_),(7,_),(8,_)]) ?_
 refine z59 (fun m tm σ=>∃ b27:Bool,∃ z28:Int,q6q p1 p2 n z8 l9 (q2d p1 p2 n m1) m b27 z28=some r∧tm=fr 62 [(0,.iM q09 p1),(1,.i6 p2),(5,.vl 0 t10 0 l9.length),(6,.i6 z8),(7,.bool b27),(8,.i6 z28)]∧σ=⟨[(0,.vec (List.map (cI .i64) l9).flatten 3 1 t10)],1⟩) (fun tm σ=>∃ b29:Bool,qae z8 l9 (q2d p1 p2 n m1) b29=some r∧tm=fr 62 [(0,.iM q09 p1),(1,.i6 p2),(5,.vl 0 t10 0 l9.length),(6,.i6 z8),(7,.bool b29)]∧σ=⟨[(0,.vec (List.map (cI .i64) l9).flatten 3 1 t10)],1⟩) n ⟨true,0,hF,rfl,rfl⟩ ?_ ?_
 rintro _ _ ⟨b29,hF,rfl,rfl⟩
 unfold qae at hF
 refine gr ?_
 refine z5a (fun tm σ=>∃ l31:List Int,∃ t32:Nat,q6p z8 (q2d p1 p2 n m1) l31=some r∧tm=fr 62 [(0,.iM q09 p1),(1,.i6 p2),(5,.vl 0 t32 0 l31.length),(6,.i6 z8)]∧σ=⟨[(0,.vec (List.map (cI .i64) l31).flatten 3 1 t32)],1⟩) ?_ ?_
 rintro _ _ ⟨l31,t32,hF,rfl,rfl⟩
 unfold q6p at hF
 refine go ?_
 exact lC ⟨_,l31,t32,hF,rfl,rfl⟩
 refine cF hF (fun h30 hF=>?_) (fun h30 hF=>?_)
 obtain ⟨h33,hF⟩:=q06 hF
 refine go ?_
 refine RS.g ?_
 refine RS.g ?_
 refine go ?_
 exact xC ⟨(l9++[z8]),(t10+1),hF,rfl,rfl⟩
 refine go ?_
 exact xC ⟨l9,t10,hF,rfl,rfl⟩
 rintro (_|m2) _ _ ⟨b27,z28,hF,rfl,rfl⟩
 cases hF
 unfold q6q at hF
 refine go ?_
 refine cF hF (fun h34 hF=>?_) (fun h34 hF=>?_)
 refine go ?_
 refine WPU.block ?_
 obtain ⟨b43,h44,hF⟩:=q00 hF
 refine gn ?_
 refine z5a (fun tm σ=>tm=fr 62 [(0,.iM q09 p1),(1,.i6 p2),(5,.vl 0 t10 0 l9.length),(6,.i6 z8),(7,.bool b43),(8,.i6 z28)]∧σ=⟨[(0,.vec (List.map (cI .i64) l9).flatten 3 1 t10)],1⟩) ?_ ?_
 rintro _ _ ⟨rfl,rfl⟩
 refine go ?_
 exact lC ⟨b43,(IntKind.i64.wrap (z28+1)),hF,rfl,rfl⟩
 rcases gB h44 with ⟨h35,h44⟩ | ⟨h35,h44⟩
 rcases gB h44 with ⟨h36,h44⟩ | ⟨h36,h44⟩
 exact gy h44
 rcases gB h44 with ⟨h37,h44⟩ | ⟨h37,h44⟩
 exact gy h44
 obtain ⟨r38,h39,h44⟩:=q00 h44
 rcases gB h44 with ⟨h40,h44⟩ | ⟨h40,h44⟩
 obtain rfl:=sI h44
 refine go ?_
 refine RS.cl rfl (pC (q42 n p1 z8 z28 r38 h39) _) fn100 ?_
 refine go ?_
 exact xC ⟨rfl,rfl⟩
 obtain ⟨r41,h42,h44⟩:=q00 h44
 obtain rfl:=sI h44
 refine go ?_
 refine RS.cl rfl (pC (q42 n p1 z8 z28 r38 h39) _) fn100 ?_
 refine go ?_
 refine RS.cl rfl (pC (q42 n p1 z28 p2 r41 h42) _) fn100 ?_
 refine go ?_
 exact xC ⟨rfl,rfl⟩
 obtain rfl:=sI h44
 refine go ?_
 repeat refine RS.no (qmo rfl rfl rfl) rfl rfl ?_
 refine go ?_
 repeat refine RS.no (qmo rfl rfl rfl) rfl rfl ?_
 refine go ?_
 repeat refine RS.no (qmo rfl rfl rfl) rfl rfl ?_
 refine go ?_
 exact xC ⟨rfl,rfl⟩
 refine go ?_
 exact xC ⟨b27,hF,rfl,rfl⟩
 rcases gB h18 with ⟨h14,h18⟩ | ⟨h14,h18⟩
 exact gy h18
 obtain ⟨r15,h16,h18⟩:=q00 h18
 obtain rfl:=sI h18
 refine go ?_
 refine RS.cl rfl (pC (q42 n p1 z8 p2 r15 h16) _) fn100 ?_
 refine go ?_
 exact xC ⟨rfl,rfl⟩
 refine go ?_
 exact xC ⟨l9,t10,hF,rfl,rfl⟩
def q7j  (l18:List q1n):Option ((List q1n)×Int) :=
 some (l18,0)
def q5a (p1:List q04) (n:Nat) (r5:(List q0o)×Int) (r7:(List (List UInt8))):Nat→Int→(List q1n)→Option ((List q1n)×Int)
 | 0,_,_=>none
 | m1+1,z15,l16 =>
  cond (decide (z15<(r7.length:Int)))
   (q02 (q0j r7 z15) fun x21 =>
   q02 (qdt n p1 x21) fun r23 =>
   q02 (q0j r7 z15) fun x25 =>
   q02 (q8t n r5.1 r23.1) fun r27 =>
   q0z ((l16.length+1)*24≤140737488355328∧l16.length+1≤140737488355328) (
   (q5a p1 n r5 r7 m1) (IntKind.i64.wrap (z15+1)) (l16++[(q1n.mk x25 r27)])))
   (q7j l16)
def qbv (n:Nat) (p1:List q04):Option ((List q1n)×Int) :=
 q02 (qdr n p1) fun r2 =>
 cond (r2 != 0)
  (some ([],r2))
  (q02 (q7i n p1) fun r5 =>
  q02 (qaj n p1) fun r7 =>
  q5a p1 n r5 r7 n 0 ([]:List q1n))
theorem qkn (n:Nat) (p1:List q04) (r:(List q1n)×Int) (hF:qbv n p1=some r):EvU Tryz.prog 74 [.isl false (List.map q01 p1)] ⟨[],0⟩ (fun u _=>u = .tup [.isl false (List.map q2s r.1),.int .i64 r.2]∧Bel 0 u):=by
 unfold qbv at hF
 refine bg1 51 fn74 ?_
 obtain ⟨r2,h3,hF⟩:=q00 hF
 refine go ?_
 refine RS.cl rfl (pC (qif n p1 r2 h3) _) fn90 ?_
 refine go ?_
 refine cF hF (fun h4 hF=>?_) (fun h4 hF=>?_)
 refine go ?_
 obtain rfl:=sI hF
 exact rT (us:=[.nils,.i6 r2]) (u:=.tup [.isl false [],.i6 r2]) (q28 rfl (q28 rfl (q24))) wR
 obtain ⟨r5,h6,hF⟩:=q00 hF
 refine go ?_
 refine RS.cl rfl (pC (q9m n p1 r5 h6) _) fn72 ?_
 obtain ⟨r7,h8,hF⟩:=q00 hF
 refine go ?_
 refine RS.cl rfl (pC (qds n p1 r7 h8) _) fn91 ?_
 refine gr ?_
 refine gr ?_
 refine WPU.ghost (tm':=fr 51 [(0,.iM q01 p1),(5,.iM q09 r5.1),(7,.iM cS r7),(8,.vl 0 0 0 (([]:List q1n).length)),(9,.i6 0)]) (σ':=⟨[(0,.vec (List.map q2s ([]:List q1n)).flatten 82 2 0)],1⟩) (Gh.trans (z5g 8 82 2 (by decide) NZ rfl rfl) (z5d ⟨rfl,rfl,rfl,rfl,rfl,trivial⟩ rfl)) NZ ?_
 refine gS (l':=[(0,_),(5,_),(7,_),(8,_),(9,_)]) ?_
 refine z59 (fun m tm σ=>∃ z15:Int,∃ l16:List q1n,∃ t17:Nat,q5a p1 n r5 r7 m z15 l16=some r∧tm=fr 51 [(0,.iM q01 p1),(5,.iM q09 r5.1),(7,.iM cS r7),(8,.vl 0 t17 0 l16.length),(9,.i6 z15)]∧σ=⟨[(0,.vec (List.map q2s l16).flatten 82 2 t17)],1⟩) (fun tm σ=>∃ l18:List q1n,∃ t19:Nat,q7j l18=some r∧tm=fr 51 [(8,.vl 0 t19 0 l18.length)]∧σ=⟨[(0,.vec (List.map q2s l18).flatten 82 2 t19)],1⟩) n ⟨0,([]:List q1n),0,hF,rfl,rfl⟩ ?_ ?_
 rintro _ _ ⟨l18,t19,hF,rfl,rfl⟩
 unfold q7j at hF
 refine go ?_
 obtain rfl:=sI hF
 exact rT (us:=[.vl 0 t19 0 l18.length,.i6 0]) (u:=.tup [.iM q2s l18,.i6 0]) (q28 rfl (q28 rfl (q24))) (fR 0 2)
 rintro (_|m1) _ _ ⟨z15,l16,t17,hF,rfl,rfl⟩
 cases hF
 unfold q5a at hF
 refine go ?_
 refine cF hF (fun h20 hF=>?_) (fun h20 hF=>?_)
 refine go ?_
 refine WPU.block ?_
 obtain ⟨x21,h22,hF⟩:=q00 hF
 obtain ⟨r23,h24,hF⟩:=q00 hF
 refine go ?_
 refine RS.ix h22 ?_
 refine go ?_
 refine RS.cl rfl (pC (qig n p1 x21 r23 h24) _) fn101 ?_
 obtain ⟨x25,h26,hF⟩:=q00 hF
 obtain ⟨r27,h28,hF⟩:=q00 hF
 obtain ⟨h29,hF⟩:=q06 hF
 refine go ?_
 refine z5b Tryz.tb_ok [(0,9)] (by kernel_rfl) ?_
 refine gd ?_
 refine RD.ix h26 ?_
 refine gd ?_
 refine z5l rfl (pC (qbz n r5.1 r23.1 r27 h28)) fn102 ?_
 refine gd ?_
 refine RD.g ?_
 refine RD.g ?_
 refine gd ?_
 refine RD.done ⟨by kernel_rfl,⟨q2f rfl,trivial⟩,?_⟩
 refine go ?_
 exact lC ⟨_,(l16++[(q1n.mk x25 r27)]),(t17+1),hF,rfl,rfl⟩
 refine go ?_
 exact xC ⟨l16,t17,hF,rfl,rfl⟩
def q92 (p1:List q04) (n:Nat) (l16:List qgc):Option (q0q×Int) :=
 q02 (qbv n p1) fun r18 =>
 some ((q0q.mk l16 r18.1),0)
def q5u (p1:List q04) (n:Nat) (r2:(List (List q0v))×Int) (r5:(List q0o)×Int):Nat→Int→(List qgc)→Option (q0q×Int)
 | 0,_,_=>none
 | m1+1,z13,l14 =>
  cond (decide (z13<(r5.1.length:Int)))
   (q02 (q0j r5.1 z13) fun x21 =>
   q02 (q0j r5.1 z13) fun x23 =>
   q02 (qf4 n r5.1 z13) fun r25 =>
   q02 (q0j r2.1 z13) fun x27 =>
   q0z ((l14.length+1)*88≤140737488355328∧l14.length+1≤140737488355328) (
   (q5u p1 n r2 r5 m1) (IntKind.i64.wrap (z13+1)) (l14++[(qgc.mk x21.Name x23.Code r25 x27)])))
   (q92 p1 n l14)
def qdv (n:Nat) (p1:List q04):Option (q0q×Int) :=
 q02 (qf7 n p1) fun r2 =>
 cond (r2.2 != 0)
  (some ((q0q.mk [] []),r2.2))
  (q02 (q7i n p1) fun r5 =>
  q5u p1 n r2 r5 n 0 ([]:List qgc))
theorem qmc (n:Nat) (p1:List q04) (r:q0q×Int) (hF:qdv n p1=some r):EvU Tryz.prog 51 [.isl false (List.map q01 p1)] ⟨[],0⟩ (fun u _=>u = .tup [.agg (q0h r.1),.int .i64 r.2]∧Bel 0 u):=by
 unfold qdv at hF
 refine bg1 63 fn51 ?_
 obtain ⟨r2,h3,hF⟩:=q00 hF
 refine go ?_
 refine RS.cl rfl (pC (qnb n p1 r2 h3) _) fn71 ?_
 refine go ?_
 refine cF hF (fun h4 hF=>?_) (fun h4 hF=>?_)
 refine go ?_
 obtain rfl:=sI hF
 exact rT (us:=[.agg [.nils,.nils],.i6 r2.2]) (u:=.tup [.agg [.isl false [],.isl false []],.i6 r2.2]) (qg1 (q78 un43.h rfl (q0r if43.h) rfl rfl rfl) (q28 rfl (q24))) wR
 obtain ⟨r5,h6,hF⟩:=q00 hF
 refine go ?_
 refine RS.cl rfl (pC (q9m n p1 r5 h6) _) fn72 ?_
 refine gr ?_
 refine gr ?_
 refine WPU.ghost (tm':=fr 63 [(0,.iM q01 p1),(2,.ptr 0 0 0),(4,.iM (cL q1o) r2.1),(6,.iM q09 r5.1),(8,.ptr 1 0 0),(9,.i6 0)]) (σ':=⟨[(2,.vec (List.map qef ([]:List qgc)).flatten 109 4 0),(1,.row [.vl 2 0 0 (([]:List qgc).length),.nils] 43),(0,.row [.nils,.nils] 43)],3⟩) (Gh.trans (z5k 1 0 109 4 (by decide) NZ rfl rfl) (z5d ⟨rfl,rfl,rfl,rfl,rfl,rfl,trivial⟩ rfl)) NZ ?_
 refine gS (l':=[(0,_),(2,_),(4,_),(6,_),(8,_),(9,_)]) ?_
 refine z59 (fun m tm σ=>∃ z13:Int,∃ l14:List qgc,∃ t15:Nat,q5u p1 n r2 r5 m z13 l14=some r∧tm=fr 63 [(0,.iM q01 p1),(2,.ptr 0 0 0),(4,.iM (cL q1o) r2.1),(6,.iM q09 r5.1),(8,.ptr 1 0 0),(9,.i6 z13)]∧σ=⟨[(2,.vec (List.map qef l14).flatten 109 4 t15),(1,.row [.vl 2 t15 0 l14.length,.nils] 43),(0,.row [.nils,.nils] 43)],3⟩) (fun tm σ=>∃ l16:List qgc,∃ t17:Nat,q92 p1 n l16=some r∧tm=fr 63 [(0,.iM q01 p1),(2,.ptr 0 0 0),(8,.ptr 1 0 0)]∧σ=⟨[(2,.vec (List.map qef l16).flatten 109 4 t17),(1,.row [.vl 2 t17 0 l16.length,.nils] 43),(0,.row [.nils,.nils] 43)],3⟩) n ⟨0,([]:List qgc),0,hF,rfl,rfl⟩ ?_ ?_
 rintro _ _ ⟨l16,t17,hF,rfl,rfl⟩
 unfold q92 at hF
 obtain ⟨r18,h19,hF⟩:=q00 hF
 refine go ?_
 refine RS.cl rfl (pC (qkn n p1 r18 h19) _) fn74 ?_
 refine go ?_
 obtain rfl:=sI hF
 exact rT (us:=[.agg [.vl 2 t17 0 l16.length,.iM q2s r18.1],.i6 0]) (u:=.tup [.agg [.iM qef l16,.iM q2s r18.1],.i6 0]) (qg1 (q78 un43.h rfl (q0r if43.h) rfl rfl rfl) (q28 rfl (q24))) (fR 2 4)
 rintro (_|m1) _ _ ⟨z13,l14,t15,hF,rfl,rfl⟩
 cases hF
 unfold q5u at hF
 refine go ?_
 refine cF hF (fun h20 hF=>?_) (fun h20 hF=>?_)
 refine go ?_
 refine WPU.block ?_
 obtain ⟨x21,h22,hF⟩:=q00 hF
 obtain ⟨x23,h24,hF⟩:=q00 hF
 obtain ⟨r25,h26,hF⟩:=q00 hF
 obtain ⟨x27,h28,hF⟩:=q00 hF
 obtain ⟨h29,hF⟩:=q06 hF
 refine go ?_
 refine z5b Tryz.tb_ok [(0,20),(1,20)] (by kernel_rfl) ?_
 refine gd ?_
 refine RD.ix h22 ?_
 refine gd ?_
 refine RD.ix h24 ?_
 refine gd ?_
 refine z5l rfl (pC (qn8 n r5.1 z13 r25 h26)) fn73 ?_
 refine gd ?_
 refine RD.ix h28 ?_
 refine gd ?_
 refine RD.g ?_
 refine RD.g ?_
 refine gd ?_
 refine RD.gz ?_
 refine RD.done ⟨by kernel_rfl,⟨qeb un43.h rfl (q0r if40.h) rfl rfl rfl,⟨qen un40.h rfl rfl rfl rfl,trivial⟩⟩,?_⟩
 refine go ?_
 exact lC ⟨_,(l14++[(qgc.mk x21.Name x23.Code r25 x27)]),(t15+1),hF,rfl,rfl⟩
 refine go ?_
 exact xC ⟨l14,t15,hF,rfl,rfl⟩
def qdx (p1:List UInt8) (p2:List UInt8) (l15:List q15):Option (q04) :=
 some (q04.mk p1 ([p2]) l15)
def q9r (p1:List UInt8) (p2:List UInt8) (p3:List (List UInt8)):Nat→Int→(List q15)→Option (q04)
 | 0,_,_=>none
 | m1+1,z12,l13 =>
  cond (decide ((IntKind.i64.wrap (z12+1))<(p3.length:Int)))
   (q02 (q0j p3 z12) fun x18 =>
   q02 (q0j p3 (IntKind.i64.wrap (z12+1))) fun x20 =>
   q0z ((l13.length+1)*32≤140737488355328∧l13.length+1≤140737488355328) (
   (q9r p1 p2 p3 m1) (IntKind.i64.wrap (z12+2)) (l13++[(q15.mk x18 x20)])))
   (qdx p1 p2 l13)
def qdy (p1:List UInt8) (l32:List q15):Option (q04) :=
 some (q04.mk p1 [] l32)
def q9s (p1:List UInt8) (p3:List (List UInt8)):Nat→Int→(List q15)→Option (q04)
 | 0,_,_=>none
 | m2+1,z29,l30 =>
  cond (decide ((IntKind.i64.wrap (z29+1))<(p3.length:Int)))
   (q02 (q0j p3 z29) fun x35 =>
   q02 (q0j p3 (IntKind.i64.wrap (z29+1))) fun x37 =>
   q0z ((l30.length+1)*32≤140737488355328∧l30.length+1≤140737488355328) (
   (q9s p1 p3 m2) (IntKind.i64.wrap (z29+2)) (l30++[(q15.mk x35 x37)])))
   (qdy p1 l30)
def q2a (n:Nat) (p1:List UInt8) (p2:List UInt8) (p3:List (List UInt8)):Option (q04) :=
 cond (!q1c p2 [])
  (q9r p1 p2 p3 n 0 ([]:List q15))
  (q9s p1 p3 n 0 ([]:List q15))
theorem q1u (n:Nat) (p1:List UInt8) (p2:List UInt8) (p3:List (List UInt8)) (r:q04) (hF:q2a n p1 p2 p3=some r):EvU Tryz.prog 82 [.str p1,.str p2,.isl false (List.map cS p3)] ⟨[],0⟩ (fun u _=>u = .agg (q01 r)∧Bel 0 u):=by
 unfold q2a at hF
 refine bg3 39 fn82 ?_
 refine go ?_
 refine RS.q (u:=.bool (!q1c p2 [])) rfl (q97 rfl rfl rfl rfl) ?_
 refine go ?_
 refine cF hF (fun h4 hF=>?_) (fun h4 hF=>?_)
 refine go ?_
 refine RS.g ?_
 refine gr ?_
 refine WPU.ghost (tm':=fr 39 [(2,.iM cS p3),(6,.ptr 0 0 0),(7,.ptr 1 0 0),(8,.i6 0)]) (σ':=⟨[(3,.vec (List.map q0d ([]:List q15)).flatten 162 2 0),(2,.row [.str p2] 9),(1,.row [.str p1,.sl 2 0 1 1,.vl 3 0 0 (([]:List q15).length)] 127),(0,.row [.str [],.nils,.nils] 127)],4⟩) (Gh.trans (z5k 1 2 162 2 (by decide) NZ rfl rfl) (z5d ⟨rfl,rfl,rfl,rfl,trivial⟩ rfl)) NZ ?_
 refine gS (l':=[(2,_),(6,_),(7,_),(8,_)]) ?_
 refine z59 (fun m tm σ=>∃ z12:Int,∃ l13:List q15,∃ t14:Nat,q9r p1 p2 p3 m z12 l13=some r∧tm=fr 39 [(2,.iM cS p3),(6,.ptr 0 0 0),(7,.ptr 1 0 0),(8,.i6 z12)]∧σ=⟨[(3,.vec (List.map q0d l13).flatten 162 2 t14),(2,.row [.str p2] 9),(1,.row [.str p1,.sl 2 0 1 1,.vl 3 t14 0 l13.length] 127),(0,.row [.str [],.nils,.nils] 127)],4⟩) (fun tm σ=>∃ l15:List q15,∃ t16:Nat,qdx p1 p2 l15=some r∧tm=fr 39 [(6,.ptr 0 0 0),(7,.ptr 1 0 0)]∧σ=⟨[(3,.vec (List.map q0d l15).flatten 162 2 t16),(2,.row [.str p2] 9),(1,.row [.str p1,.sl 2 0 1 1,.vl 3 t16 0 l15.length] 127),(0,.row [.str [],.nils,.nils] 127)],4⟩) n ⟨0,([]:List q15),0,hF,rfl,rfl⟩ ?_ ?_
 rintro _ _ ⟨l15,t16,hF,rfl,rfl⟩
 unfold qdx at hF
 refine go ?_
 obtain rfl:=sI hF
 exact ⟨.inr rfl,[.agg [.str p1,.sl 2 0 1 1,.vl 3 t16 0 l15.length]],qg1 (q78 un127.h rfl (q0r if127.h) rfl rfl rfl) (q24),.agg [.str p1,.iM cS ([p2]),.iM q0d l15],⟨[],0⟩,Nat.le_refl _,Gh.trans (z5c 2 1) (Gh.trans (z5c 3 2) (z5j (.agg [.str p1,.iM cS ([p2]),.iM q0d l15]) rfl)),rfl,BU.h⟩
 rintro (_|m1) _ _ ⟨z12,l13,t14,hF,rfl,rfl⟩
 cases hF
 unfold q9r at hF
 refine go ?_
 refine cF hF (fun h17 hF=>?_) (fun h17 hF=>?_)
 refine go ?_
 refine WPU.block ?_
 obtain ⟨x18,h19,hF⟩:=q00 hF
 obtain ⟨x20,h21,hF⟩:=q00 hF
 obtain ⟨h22,hF⟩:=q06 hF
 refine go ?_
 refine z5b Tryz.tb_ok [(0,12),(1,12)] (by kernel_rfl) ?_
 refine gd ?_
 refine RD.ix h19 ?_
 refine gd ?_
 refine RD.ix h21 ?_
 refine gd ?_
 refine RD.g ?_
 refine RD.g ?_
 refine gd ?_
 refine RD.gz ?_
 refine RD.done ⟨by kernel_rfl,⟨qeb un127.h rfl (q0r if125.h) rfl rfl rfl,⟨qen un125.h rfl rfl rfl rfl,trivial⟩⟩,?_⟩
 refine go ?_
 exact lC ⟨_,(l13++[(q15.mk x18 x20)]),(t14+1),hF,rfl,rfl⟩
 refine go ?_
 exact xC ⟨l13,t14,hF,rfl,rfl⟩
 refine gr ?_
 refine WPU.ghost (tm':=fr 39 [(2,.iM cS p3),(6,.ptr 0 0 0),(7,.ptr 1 0 0),(8,.i6 0)]) (σ':=⟨[(2,.vec (List.map q0d ([]:List q15)).flatten 162 2 0),(1,.row [.str p1,.nils,.vl 2 0 0 (([]:List q15).length)] 127),(0,.row [.str [],.nils,.nils] 127)],3⟩) (Gh.trans (z5k 1 2 162 2 (by decide) NZ rfl rfl) (z5d ⟨rfl,rfl,rfl,rfl,trivial⟩ rfl)) NZ ?_
 refine gS (l':=[(2,_),(6,_),(7,_),(8,_)]) ?_
 refine z59 (fun m tm σ=>∃ z29:Int,∃ l30:List q15,∃ t31:Nat,q9s p1 p3 m z29 l30=some r∧tm=fr 39 [(2,.iM cS p3),(6,.ptr 0 0 0),(7,.ptr 1 0 0),(8,.i6 z29)]∧σ=⟨[(2,.vec (List.map q0d l30).flatten 162 2 t31),(1,.row [.str p1,.nils,.vl 2 t31 0 l30.length] 127),(0,.row [.str [],.nils,.nils] 127)],3⟩) (fun tm σ=>∃ l32:List q15,∃ t33:Nat,qdy p1 l32=some r∧tm=fr 39 [(6,.ptr 0 0 0),(7,.ptr 1 0 0)]∧σ=⟨[(2,.vec (List.map q0d l32).flatten 162 2 t33),(1,.row [.str p1,.nils,.vl 2 t33 0 l32.length] 127),(0,.row [.str [],.nils,.nils] 127)],3⟩) n ⟨0,([]:List q15),0,hF,rfl,rfl⟩ ?_ ?_
 rintro _ _ ⟨l32,t33,hF,rfl,rfl⟩
 unfold qdy at hF
 refine go ?_
 obtain rfl:=sI hF
 exact ⟨.inr rfl,[.agg [.str p1,.nils,.vl 2 t33 0 l32.length]],qg1 (q78 un127.h rfl (q0r if127.h) rfl rfl rfl) (q24),.agg [.str p1,.isl false [],.iM q0d l32],⟨[],0⟩,Nat.le_refl _,Gh.trans (z5c 2 2) (Gh.trans (Gh.wk (.cons (.agg (.cons (.refl _) (.cons (.nil false) (.cons (.refl _) .nil)))) .nil)) (z5j (.agg [.str p1,.isl false [],.iM q0d l32]) rfl)),rfl,BU.h⟩
 rintro (_|m2) _ _ ⟨z29,l30,t31,hF,rfl,rfl⟩
 cases hF
 unfold q9s at hF
 refine go ?_
 refine cF hF (fun h34 hF=>?_) (fun h34 hF=>?_)
 refine go ?_
 refine WPU.block ?_
 obtain ⟨x35,h36,hF⟩:=q00 hF
 obtain ⟨x37,h38,hF⟩:=q00 hF
 obtain ⟨h39,hF⟩:=q06 hF
 refine go ?_
 refine z5b Tryz.tb_ok [(0,12),(1,12)] (by kernel_rfl) ?_
 refine gd ?_
 refine RD.ix h36 ?_
 refine gd ?_
 refine RD.ix h38 ?_
 refine gd ?_
 refine RD.g ?_
 refine RD.g ?_
 refine gd ?_
 refine RD.gz ?_
 refine RD.done ⟨by kernel_rfl,⟨qeb un127.h rfl (q0r if125.h) rfl rfl rfl,⟨qen un125.h rfl rfl rfl rfl,trivial⟩⟩,?_⟩
 refine go ?_
 exact lC ⟨_,(l30++[(q15.mk x35 x37)]),(t31+1),hF,rfl,rfl⟩
 refine go ?_
 exact xC ⟨l30,t31,hF,rfl,rfl⟩
def qdw (n:Nat)  : Option ((List q04)) :=
 q02 (q2a n ([116,111,112]) [] []) fun r1 =>
 q02 (q2a n ([108,105,115,116]) ([116,111,112]) []) fun r3 =>
 q02 (q2a n ([99,111,110,115]) ([108,105,115,116]) ([[70,73,82,83,84],[116,111,112],[82,69,83,84],[108,105,115,116]])) fun r5 =>
 q02 (q2a n ([110,117,108,108]) ([108,105,115,116]) []) fun r7 =>
 q02 (q2a n ([100,108,105,115,116]) ([116,111,112]) ([[76,73,83,84],[108,105,115,116],[76,65,83,84],[108,105,115,116]])) fun r9 =>
 q02 (q2a n ([105,110,100,101,120]) ([116,111,112]) []) fun r11 =>
 q02 (q2a n ([104,97,110,100,108,101]) ([105,110,100,101,120]) []) fun r13 =>
 q02 (q2a n ([101,118,101,110,116]) ([105,110,100,101,120]) []) fun r15 =>
 q02 (q2a n ([101,110,116,105,116,121]) ([105,110,100,101,120]) []) fun r17 =>
 q02 (q2a n ([114,101,108]) ([116,111,112]) ([[76,65,66,69,76],[104,97,110,100,108,101]])) fun r19 =>
 q02 (q2a n ([113,101,113]) ([116,111,112]) ([[72,73,71,72],[104,97,110,100,108,101],[76,79,87],[104,97,110,100,108,101]])) fun r21 =>
 q02 (q2a n ([115,101,109]) ([116,111,112]) ([[84,79,80],[104,97,110,100,108,101],[73,78,68,69,88],[105,110,100,101,120],[82,69,76,83],[100,108,105,115,116],[67,79,78,83],[100,108,105,115,116]])) fun r23 =>
 q02 (q2a n ([115,105,103,110]) ([116,111,112]) ([[83,69,77],[115,101,109],[65,82,71,83],[108,105,115,116]])) fun r25 =>
 some ([r1,r3,r5,r7,r9,r11,r13,r15,r17,r19,r21,r23,r25])
theorem qmd (n:Nat)  (r:(List q04)) (hF:qdw n  = some r):EvU Tryz.prog 60 [] ⟨[],0⟩ (fun u _=>u = .isl false (List.map q01 r)∧Bel 0 u):=by
 unfold qdw at hF
 refine bg0 21 fn60 ?_
 obtain ⟨r1,h2,hF⟩:=q00 hF
 obtain ⟨r3,h4,hF⟩:=q00 hF
 obtain ⟨r5,h6,hF⟩:=q00 hF
 obtain ⟨r7,h8,hF⟩:=q00 hF
 obtain ⟨r9,h10,hF⟩:=q00 hF
 obtain ⟨r11,h12,hF⟩:=q00 hF
 obtain ⟨r13,h14,hF⟩:=q00 hF
 obtain ⟨r15,h16,hF⟩:=q00 hF
 obtain ⟨r17,h18,hF⟩:=q00 hF
 obtain ⟨r19,h20,hF⟩:=q00 hF
 obtain ⟨r21,h22,hF⟩:=q00 hF
 obtain ⟨r23,h24,hF⟩:=q00 hF
 obtain ⟨r25,h26,hF⟩:=q00 hF
 refine go ?_
 refine RS.cl rfl (z5h (args':=[.str ([116,111,112]),.str [],.isl false []]) (.cons (.refl _) (.cons (.refl _) (.cons (.nil false) .nil))) (pC (q1u n ([116,111,112]) [] [] r1 h2)) _) fn82 (RS.cl rfl (z5h (args':=[.str ([108,105,115,116]),.str ([116,111,112]),.isl false []]) (.cons (.refl _) (.cons (.refl _) (.cons (.nil false) .nil))) (pC (q1u n ([108,105,115,116]) ([116,111,112]) [] r3 h4)) _) fn82 ?_)
 refine RS.g ?_
 refine z5f rfl (z5c 0 1) (pC (q1u n ([99,111,110,115]) ([108,105,115,116]) ([[70,73,82,83,84],[116,111,112],[82,69,83,84],[108,105,115,116]]) r5 h6) _) fn82 (RS.cl rfl (z5h (args':=[.str ([110,117,108,108]),.str ([108,105,115,116]),.isl false []]) (.cons (.refl _) (.cons (.refl _) (.cons (.nil false) .nil))) (pC (q1u n ([110,117,108,108]) ([108,105,115,116]) [] r7 h8)) _) fn82 ?_)
 refine RS.g ?_
 refine z5f rfl (z5c 1 1) (pC (q1u n ([100,108,105,115,116]) ([116,111,112]) ([[76,73,83,84],[108,105,115,116],[76,65,83,84],[108,105,115,116]]) r9 h10) _) fn82 (RS.cl rfl (z5h (args':=[.str ([105,110,100,101,120]),.str ([116,111,112]),.isl false []]) (.cons (.refl _) (.cons (.refl _) (.cons (.nil false) .nil))) (pC (q1u n ([105,110,100,101,120]) ([116,111,112]) [] r11 h12)) _) fn82 (RS.cl rfl (z5h (args':=[.str ([104,97,110,100,108,101]),.str ([105,110,100,101,120]),.isl false []]) (.cons (.refl _) (.cons (.refl _) (.cons (.nil false) .nil))) (pC (q1u n ([104,97,110,100,108,101]) ([105,110,100,101,120]) [] r13 h14)) _) fn82 (RS.cl rfl (z5h (args':=[.str ([101,118,101,110,116]),.str ([105,110,100,101,120]),.isl false []]) (.cons (.refl _) (.cons (.refl _) (.cons (.nil false) .nil))) (pC (q1u n ([101,118,101,110,116]) ([105,110,100,101,120]) [] r15 h16)) _) fn82 (RS.cl rfl (z5h (args':=[.str ([101,110,116,105,116,121]),.str ([105,110,100,101,120]),.isl false []]) (.cons (.refl _) (.cons (.refl _) (.cons (.nil false) .nil))) (pC (q1u n ([101,110,116,105,116,121]) ([105,110,100,101,120]) [] r17 h18)) _) fn82 ?_))))
 refine RS.g ?_
 refine z5f rfl (z5c 2 1) (pC (q1u n ([114,101,108]) ([116,111,112]) ([[76,65,66,69,76],[104,97,110,100,108,101]]) r19 h20) _) fn82 ?_
 refine RS.g ?_
 refine z5f rfl (z5c 3 1) (pC (q1u n ([113,101,113]) ([116,111,112]) ([[72,73,71,72],[104,97,110,100,108,101],[76,79,87],[104,97,110,100,108,101]]) r21 h22) _) fn82 (RS.q (u:=.sl 4 0 8 8) (σ':=⟨[(4,.row [.str ([84,79,80]),.str ([104,97,110,100,108,101]),.str ([73,78,68,69,88]),.str ([105,110,100,101,120]),.str ([82,69,76,83]),.str ([100,108,105,115,116]),.str ([67,79,78,83]),.str ([100,108,105,115,116])] 9)],5⟩) rfl (q6h un80.h if9.h rfl rfl rfl rfl rfl rfl rfl) (z5f rfl (z5c 4 1) (pC (q1u n ([115,101,109]) ([116,111,112]) ([[84,79,80],[104,97,110,100,108,101],[73,78,68,69,88],[105,110,100,101,120],[82,69,76,83],[100,108,105,115,116],[67,79,78,83],[100,108,105,115,116]]) r23 h24) _) fn82 ?_))
 refine RS.g ?_
 refine z5f rfl (z5c 5 1) (pC (q1u n ([115,105,103,110]) ([116,111,112]) ([[83,69,77],[115,101,109],[65,82,71,83],[108,105,115,116]]) r25 h26) _) fn82 (RS.q (u:=.sl 6 0 13 13) (σ':=⟨[(6,.row [.str r1.Name,.iM cS r1.Supers,.iM q0d r1.Feats,.str r3.Name,.iM cS r3.Supers,.iM q0d r3.Feats,.str r5.Name,.iM cS r5.Supers,.iM q0d r5.Feats,.str r7.Name,.iM cS r7.Supers,.iM q0d r7.Feats,.str r9.Name,.iM cS r9.Supers,.iM q0d r9.Feats,.str r11.Name,.iM cS r11.Supers,.iM q0d r11.Feats,.str r13.Name,.iM cS r13.Supers,.iM q0d r13.Feats,.str r15.Name,.iM cS r15.Supers,.iM q0d r15.Feats,.str r17.Name,.iM cS r17.Supers,.iM q0d r17.Feats,.str r19.Name,.iM cS r19.Supers,.iM q0d r19.Feats,.str r21.Name,.iM cS r21.Supers,.iM q0d r21.Feats,.str r23.Name,.iM cS r23.Supers,.iM q0d r23.Feats,.str r25.Name,.iM cS r25.Supers,.iM q0d r25.Feats] 127)],7⟩) rfl (q6h un38.h if127.h rfl rfl rfl rfl rfl rfl rfl) ?_)
 refine go ?_
 obtain rfl:=sI hF
 exact rT (us:=[.sl 6 0 13 13]) (u:=.iM q01 ([r1,r3,r5,r7,r9,r11,r13,r15,r17,r19,r21,r23,r25])) (q28 rfl (q24)) (fR 6 3)
def qcr (n:Nat)  : Option (q0q) :=
 q02 (qdw n) fun r1 =>
 q02 (qdv n r1) fun r3 =>
 some (q0q.mk r3.1.Types r3.1.Feats)
theorem qlv (n:Nat)  (r:q0q) (hF:qcr n  = some r):EvU Tryz.prog 31 [] ⟨[],0⟩ (fun u _=>u = .agg (q0h r)∧Bel 0 u):=by
 unfold qcr at hF
 refine bg0 9 fn31 ?_
 obtain ⟨r1,h2,hF⟩:=q00 hF
 obtain ⟨r3,h4,hF⟩:=q00 hF
 refine go ?_
 refine RS.cl rfl (pC (qmd n r1 h2) _) fn60 (RS.cl rfl (pC (qmc n r1 r3 h4) _) fn51 ?_)
 refine go ?_
 obtain rfl:=sI hF
 exact rT (qg1 (q78 un43.h rfl (q0r if43.h) rfl rfl rfl) (q24)) (z5j _ rfl)
def q7o   : Option (Bool) :=
 some true
def q46 (p1:List Int) (p2:List Int):Nat→Int→Option (Bool)
 | 0,_=>none
 | m1+1,z7 =>
  cond (decide (z7<(p1.length:Int)))
   (q02 (q0j p1 z7) fun x9 =>
   q02 (q0j p2 z7) fun x11 =>
   cond (x9 != x11)
    (q02 (q0j p1 z7) fun x14 =>
    q02 (q0j p2 z7) fun x16 =>
    some (decide (x14<x16)))
    ((q46 p1 p2 m1) (IntKind.i64.wrap (z7+1))))
   (q7o)
def qa5 (n:Nat) (p1:List Int) (p2:List Int):Option (Bool) :=
 q46 p1 p2 n 0
theorem qom (n:Nat) (p1:List Int) (p2:List Int) (r:Bool) (hF:qa5 n p1 p2=some r):EvU Tryz.prog 38 [.isl false (List.map (cI .i64) p1),.isl false (List.map (cI .i64) p2)] ⟨[],0⟩ (fun u _=>u = .bool r∧Bel 0 u):=by
 unfold qa5 at hF
 refine bg2 30 fn38 ?_
 refine go ?_
 refine gS (l':=[(0,_),(1,_),(7,_),(8,_)]) ?_
 refine z59 (fun m tm σ=>∃ z7:Int,q46 p1 p2 m z7=some r∧tm=fr 30 [(0,.iM (cI .i64) p1),(1,.iM (cI .i64) p2),(7,.i6 (p1.length:Int)),(8,.i6 z7)]∧σ=⟨[],0⟩) (fun tm σ=>q7o=some r∧tm=fr 30 []∧σ=⟨[],0⟩) n ⟨0,hF,rfl,rfl⟩ ?_ ?_
 rintro _ _ ⟨hF,rfl,rfl⟩
 unfold q7o at hF
 exact gx hF
 rintro (_|m1) _ _ ⟨z7,hF,rfl,rfl⟩
 cases hF
 unfold q46 at hF
 refine go ?_
 refine cF hF (fun h8 hF=>?_) (fun h8 hF=>?_)
 refine go ?_
 refine WPU.block ?_
 obtain ⟨x9,h10,hF⟩:=q00 hF
 obtain ⟨x11,h12,hF⟩:=q00 hF
 refine go ?_
 refine z5b Tryz.tb_ok [] (by kernel_rfl) ?_
 refine gd ?_
 refine RD.ix h10 ?_
 refine gd ?_
 refine RD.ix h12 ?_
 refine gd ?_
 refine RD.done ⟨by kernel_rfl,trivial,?_⟩
 refine go ?_
 refine cF hF (fun h13 hF=>?_) (fun h13 hF=>?_)
 obtain ⟨x14,h15,hF⟩:=q00 hF
 obtain ⟨x16,h17,hF⟩:=q00 hF
 refine go ?_
 refine z5b Tryz.tb_ok [] (by kernel_rfl) ?_
 refine gd ?_
 refine RD.ix h15 ?_
 refine gd ?_
 refine RD.ix h17 ?_
 refine gd ?_
 refine RD.done ⟨by kernel_rfl,trivial,?_⟩
 exact gx hF
 refine go ?_
 exact lC ⟨_,hF,rfl,rfl⟩
 refine go ?_
 exact xC ⟨hF,rfl,rfl⟩
def qi1 (n:Nat) (p1:List q0b):Option (GFS) :=
 some (GFS.mk p1)
theorem q63 (n:Nat) (p1:List q0b) (r:GFS) (hF:qi1 n p1=some r):EvU Tryz.prog 43 [.isl false (List.map q03 p1)] ⟨[],0⟩ (fun u _=>u = .agg [.isl false (List.map q03 r.Nodes)]∧Bel 0 u):=by
 unfold qi1 at hF
 refine bg1 5 fn43 ?_
 refine go ?_
 obtain rfl:=sI hF
 exact rT (qg1 (q78 un24.h rfl (q0r if24.h) rfl rfl rfl) (q24)) (z5j _ rfl)
def qcq (p1:Int) (l12:List q0c):Option (q0b) :=
 some (q0b.mk p1 l12)
def q9a (p1:Int) (p2:List Int):Nat→Int→(List q0c)→Option (q0b)
 | 0,_,_=>none
 | m1+1,z9,l10 =>
  cond (decide ((IntKind.i64.wrap (z9+1))<(p2.length:Int)))
   (q02 (q0j p2 z9) fun x15 =>
   q02 (q0j p2 (IntKind.i64.wrap (z9+1))) fun x17 =>
   q0z ((l10.length+1)*16≤140737488355328∧l10.length+1≤140737488355328) (
   (q9a p1 p2 m1) (IntKind.i64.wrap (z9+2)) (l10++[(q0c.mk x15 x17)])))
   (qcq p1 l10)
def q50 (n:Nat) (p1:Int) (p2:List Int):Option (q0b) :=
 q9a p1 p2 n 0 ([]:List q0c)
theorem q0m (n:Nat) (p1:Int) (p2:List Int) (r:q0b) (hF:q50 n p1 p2=some r):EvU Tryz.prog 44 [.int .i64 p1,.isl false (List.map (cI .i64) p2)] ⟨[],0⟩ (fun u _=>u = .agg (q03 r)∧Bel 0 u):=by
 unfold q50 at hF
 refine bg2 32 fn44 ?_
 refine gr ?_
 refine gr ?_
 refine gr ?_
 refine WPU.ghost (tm':=fr 32 [(1,.iM (cI .i64) p2),(4,.ptr 0 0 0),(5,.ptr 1 0 0),(6,.i6 0)]) (σ':=⟨[(2,.vec (List.map q07 ([]:List q0c)).flatten 66 2 0),(1,.row [.i6 p1,.vl 2 0 0 (([]:List q0c).length)] 54),(0,.row [.i6 0,.nils] 54)],3⟩) (Gh.trans (z5k 1 1 66 2 (by decide) NZ rfl rfl) (z5d ⟨rfl,rfl,rfl,rfl,trivial⟩ rfl)) NZ ?_
 refine gS (l':=[(1,_),(4,_),(5,_),(6,_)]) ?_
 refine z59 (fun m tm σ=>∃ z9:Int,∃ l10:List q0c,∃ t11:Nat,q9a p1 p2 m z9 l10=some r∧tm=fr 32 [(1,.iM (cI .i64) p2),(4,.ptr 0 0 0),(5,.ptr 1 0 0),(6,.i6 z9)]∧σ=⟨[(2,.vec (List.map q07 l10).flatten 66 2 t11),(1,.row [.i6 p1,.vl 2 t11 0 l10.length] 54),(0,.row [.i6 0,.nils] 54)],3⟩) (fun tm σ=>∃ l12:List q0c,∃ t13:Nat,qcq p1 l12=some r∧tm=fr 32 [(4,.ptr 0 0 0),(5,.ptr 1 0 0)]∧σ=⟨[(2,.vec (List.map q07 l12).flatten 66 2 t13),(1,.row [.i6 p1,.vl 2 t13 0 l12.length] 54),(0,.row [.i6 0,.nils] 54)],3⟩) n ⟨0,([]:List q0c),0,hF,rfl,rfl⟩ ?_ ?_
 rintro _ _ ⟨l12,t13,hF,rfl,rfl⟩
 unfold qcq at hF
 refine go ?_
 obtain rfl:=sI hF
 exact rT (us:=[.agg [.i6 p1,.vl 2 t13 0 l12.length]]) (u:=.agg [.i6 p1,.iM q07 l12]) (qg1 (q78 un54.h rfl (q0r if54.h) rfl rfl rfl) (q24)) (fR 2 2)
 rintro (_|m1) _ _ ⟨z9,l10,t11,hF,rfl,rfl⟩
 cases hF
 unfold q9a at hF
 refine go ?_
 refine cF hF (fun h14 hF=>?_) (fun h14 hF=>?_)
 refine go ?_
 refine WPU.block ?_
 obtain ⟨x15,h16,hF⟩:=q00 hF
 obtain ⟨x17,h18,hF⟩:=q00 hF
 obtain ⟨h19,hF⟩:=q06 hF
 refine go ?_
 refine z5b Tryz.tb_ok [(0,12),(1,12)] (by kernel_rfl) ?_
 refine gd ?_
 refine RD.ix h16 ?_
 refine gd ?_
 refine RD.ix h18 ?_
 refine gd ?_
 refine RD.g ?_
 refine RD.g ?_
 refine gd ?_
 refine RD.gz ?_
 refine RD.done ⟨by kernel_rfl,⟨qeb un54.h rfl (q0r if52.h) rfl rfl rfl,⟨qen un52.h rfl rfl rfl rfl,trivial⟩⟩,?_⟩
 refine go ?_
 exact lC ⟨_,(l10++[(q0c.mk x15 x17)]),(t11+1),hF,rfl,rfl⟩
 refine go ?_
 exact xC ⟨l10,t11,hF,rfl,rfl⟩
def qjm (n:Nat) (p1:Int):Option (GFS) :=
 some (GFS.mk ([(q0b.mk p1 [])]))
theorem q69 (n:Nat) (p1:Int) (r:GFS) (hF:qjm n p1=some r):EvU Tryz.prog 45 [.int .i64 p1] ⟨[],0⟩ (fun u _=>u = .agg [.isl false (List.map q03 r.Nodes)]∧Bel 0 u):=by
 unfold qjm at hF
 refine bg1 7 fn45 ?_
 refine go ?_
 refine RS.g ?_
 refine go ?_
 obtain rfl:=sI hF
 exact ⟨.inr rfl,[.agg [.sl 1 0 1 1]],qg1 (q78 un24.h rfl (q0r if24.h) rfl rfl rfl) (q24),.agg [.iM q03 ([(q0b.mk p1 [])])],⟨[],0⟩,Nat.le_refl _,Gh.trans (Gh.trans (z5v 1) (z5c 1 2)) (z5j (.agg [.iM q03 ([(q0b.mk p1 [])])]) rfl),rfl,BU.h⟩
def q2e (n:Nat)  : Option (Bool) :=
 q02 (q50 n 1 ([0,1,1,2])) fun r1 =>
 q02 (q50 n 3 ([0,2])) fun r3 =>
 q02 (q50 n 2 []) fun r5 =>
 q02 (qi1 n ([r1,r3,r5])) fun r7 =>
 q02 (q02 (q7c n r7) fun r9 =>
 q02 (qa8 n r9 ([[],[0],[1]])) fun r11 =>
 cond (!r11)
  (some true)
  (q02 (qd5 n r7) fun r14 =>
  q02 (q5x n r14 ([(q0g.mk ([1]) ([0,0]))])) fun r16 =>
  cond (!r16)
   (some true)
   (q02 (q50 n 1 ([5,0])) fun r19 =>
   q02 (qi1 n ([r19])) fun r21 =>
   q02 (qd5 n r21) fun r23 =>
   q02 (q5x n r23 ([(q0g.mk [] ([5]))])) fun r25 =>
   some (!r25)))) fun b27 =>
 cond b27
  (some false)
  (q02 (qm7 n r7 ([0,0])) fun r30 =>
  q02 (qet n r7 ([0,1])) fun r32 =>
  q02 (qcr n) fun r34 =>
  q02 (qcb n r34 ([82,69,83,84,46,70,73,82,83,84])) fun r36 =>
  q02 (qcb n r34 ([70,46])) fun r38 =>
  q02 (qcb n r34 ([70,73,82,83,84,46,71])) fun r40 =>
  q02 (cond (r30.1 == 2)
   (cond r30.2
    (cond (!r32.2)
     (q02 (qjm n 7) fun r45 =>
     q02 (qjd n ([3,4]) r45) fun r47 =>
     q02 (q50 n 0 ([3,1])) fun r49 =>
     q02 (q50 n 0 ([4,2])) fun r51 =>
     q02 (q50 n 7 []) fun r53 =>
     q02 (qi1 n ([r49,r51,r53])) fun r55 =>
     q02 (q60 n r47 r55) fun r57 =>
     cond r57
      (cond (r36.2 == 0)
       (q02 (q7w n r36.1 ([10,2])) fun r61 =>
       cond r61
        (q02 (qjc n r34 r36.1) fun r64 =>
        cond (q1c r64 ([82,69,83,84,46,70,73,82,83,84]))
         (cond (r38.2 == 8)
          (some (r40.2 == 5))
          (some false))
         (some false))
        (some false))
       (some false))
      (some false))
     (some false))
    (some false))
   (some false)) fun b68 =>
  some b68)
theorem q96 (n:Nat)  (r:Bool) (hF:q2e n  = some r):EvU Tryz.prog 13 [] ⟨[],0⟩ (fun u _=>u = .bool r∧Bel 0 u):=by
 unfold q2e at hF
 refine bg0 122 fn13 ?_
 obtain ⟨r1,h2,hF⟩:=q00 hF
 obtain ⟨r3,h4,hF⟩:=q00 hF
 obtain ⟨r5,h6,hF⟩:=q00 hF
 obtain ⟨r7,h8,hF⟩:=q00 hF
 refine go ?_
 refine RS.g ?_
 refine z5f rfl (z5c 0 1) (pC (q0m n 1 ([0,1,1,2]) r1 h2) _) fn44 ?_
 refine RS.g ?_
 refine z5f rfl (z5c 1 1) (pC (q0m n 3 ([0,2]) r3 h4) _) fn44 (RS.cl rfl (z5h (args':=[.i6 2,.isl false []]) (.cons (.refl _) (.cons (.nil false) .nil)) (pC (q0m n 2 [] r5 h6)) _) fn44 (RS.q (u:=.sl 2 0 3 3) (σ':=⟨[(2,.row [.i6 r1.Typex,.iM q07 r1.Arcs,.i6 r3.Typex,.iM q07 r3.Arcs,.i6 r5.Typex,.iM q07 r5.Arcs] 54)],3⟩) rfl (q6h un22.h if54.h rfl rfl rfl rfl rfl rfl rfl) (z5f rfl (z5c 2 2) (pC (q63 n ([r1,r3,r5]) r7 h8) _) fn43 ?_)))
 obtain ⟨b27,h28,hF⟩:=q00 hF
 refine gn ?_
 refine z5a (fun tm σ=>tm=fr 122 [(1,.ptr 3 0 0),(48,.bool b27)]∧σ=⟨[(6,.row [.nils,.sl 4 0 1 1,.sl 5 0 1 1] 33),(5,.row [.i6 1] 3),(4,.row [.i6 0] 3),(3,.row [.iM q03 r7.Nodes] 24)],7⟩) ?_ ?_
 rintro _ _ ⟨rfl,rfl⟩
 refine go ?_
 refine cF hF (fun h29 hF=>?_) (fun h29 hF=>?_)
 exact gx hF
 obtain ⟨r30,h31,hF⟩:=q00 hF
 refine go ?_
 refine RS.g ?_
 refine RS.cl rfl (z5u (qsn n r7 ([0,0]) r30 h31) BUL.h (by simp only [toV,qng,okL,okC,cond_true]<;>rfl) (fun m=>by simp [ren,q0l]) (z5c 7 1)) fn36 ?_
 obtain ⟨r32,h33,hF⟩:=q00 hF
 refine go ?_
 refine RS.g ?_
 refine RS.cl rfl (z5u (qeu n r7 ([0,1]) r32 h33) BUL.h (by simp only [toV,qng,okL,okC,cond_true]<;>rfl) (fun m=>by simp [ren,q0l]) (z5c 8 1)) fn30 ?_
 obtain ⟨r34,h35,hF⟩:=q00 hF
 refine go ?_
 refine RS.cl rfl (pC (qlv n r34 h35) _) fn31 ?_
 obtain ⟨r36,h37,hF⟩:=q00 hF
 refine go ?_
 refine RS.cl rfl (pC (qev n r34 ([82,69,83,84,46,70,73,82,83,84]) r36 h37) _) fn26 ?_
 obtain ⟨r38,h39,hF⟩:=q00 hF
 refine go ?_
 refine RS.cl rfl (pC (qev n r34 ([70,46]) r38 h39) _) fn26 ?_
 obtain ⟨r40,h41,hF⟩:=q00 hF
 refine go ?_
 refine RS.cl rfl (pC (qev n r34 ([70,73,82,83,84,46,71]) r40 h41) _) fn26 ?_
 obtain ⟨b68,h69,hF⟩:=q00 hF
 refine gn ?_
 refine z5a (fun tm σ=>tm=fr 122 [(0,.bool b68)]∧σ=⟨[(9,.row (q0h r34) 43),(8,.row [.i6 0,.i6 1] 3),(7,.row [.i6 0,.i6 0] 3),(6,.row [.nils,.sl 4 0 1 1,.sl 5 0 1 1] 33),(5,.row [.i6 1] 3),(4,.row [.i6 0] 3),(3,.row [.iM q03 r7.Nodes] 24)],10⟩) ?_ ?_
 rintro _ _ ⟨rfl,rfl⟩
 exact gx hF
 rcases gB h69 with ⟨h42,h69⟩ | ⟨h42,h69⟩
 rcases gB h69 with ⟨h43,h69⟩ | ⟨h43,h69⟩
 rcases gB h69 with ⟨h44,h69⟩ | ⟨h44,h69⟩
 obtain ⟨r45,h46,h69⟩:=q00 h69
 obtain ⟨r47,h48,h69⟩:=q00 h69
 obtain ⟨r49,h50,h69⟩:=q00 h69
 obtain ⟨r51,h52,h69⟩:=q00 h69
 obtain ⟨r53,h54,h69⟩:=q00 h69
 obtain ⟨r55,h56,h69⟩:=q00 h69
 obtain ⟨r57,h58,h69⟩:=q00 h69
 rcases gB h69 with ⟨h59,h69⟩ | ⟨h59,h69⟩
 rcases gB h69 with ⟨h60,h69⟩ | ⟨h60,h69⟩
 obtain ⟨r61,h62,h69⟩:=q00 h69
 rcases gB h69 with ⟨h63,h69⟩ | ⟨h63,h69⟩
 obtain ⟨r64,h65,h69⟩:=q00 h69
 rcases gB h69 with ⟨h66,h69⟩ | ⟨h66,h69⟩
 rcases gB h69 with ⟨h67,h69⟩ | ⟨h67,h69⟩
 obtain rfl:=sI h69
 refine go ?_
 refine RS.g ?_
 refine RS.cl rfl (pC (q69 n 7 r45 h46) _) fn45 (z5f rfl (z5c 10 1) (pC (q64 n ([3,4]) r45 r47 h48) _) fn22 ?_)
 refine RS.g ?_
 refine z5f rfl (z5c 11 1) (pC (q0m n 0 ([3,1]) r49 h50) _) fn44 ?_
 refine RS.g ?_
 refine z5f rfl (z5c 12 1) (pC (q0m n 0 ([4,2]) r51 h52) _) fn44 (RS.cl rfl (z5h (args':=[.i6 7,.isl false []]) (.cons (.refl _) (.cons (.nil false) .nil)) (pC (q0m n 7 [] r53 h54)) _) fn44 (RS.w (u:=.sl 13 0 3 3) (σ':=⟨[(13,.row [.i6 r49.Typex,.iM q07 r49.Arcs,.i6 r51.Typex,.iM q07 r51.Arcs,.i6 r53.Typex,.iM q07 r53.Arcs] 54),(9,.row (q0h r34) 43),(8,.row [.i6 0,.i6 1] 3),(7,.row [.i6 0,.i6 0] 3),(6,.row [.nils,.sl 4 0 1 1,.sl 5 0 1 1] 33),(5,.row [.i6 1] 3),(4,.row [.i6 0] 3),(3,.row [.iM q03 r7.Nodes] 24)],14⟩) rfl (q6h un22.h if54.h rfl rfl rfl rfl rfl rfl rfl) (z5f rfl (z5c 13 2) (pC (q63 n ([r49,r51,r53]) r55 h56) _) fn43 (RS.cl rfl (pC (q2l n r47 r55 r57 h58) _) fn21 ?_))))
 refine go ?_
 refine RS.g ?_
 refine RS.cl rfl (vw (q41 n r36.1 ([10,2]) r61 h62) (z5c 14 1)) fn28 ?_
 refine go ?_
 refine RS.cl rfl (pC (qew n r34 r36.1 r64 h65) _) fn25 (RS.w (u:=.bool (q1c r64 ([82,69,83,84,46,70,73,82,83,84]))) rfl (q97 rfl rfl rfl rfl) ?_)
 refine go ?_
 exact xC ⟨rfl,rfl⟩
 obtain rfl:=sI h69
 refine go ?_
 refine RS.g ?_
 refine RS.cl rfl (pC (q69 n 7 r45 h46) _) fn45 (z5f rfl (z5c 10 1) (pC (q64 n ([3,4]) r45 r47 h48) _) fn22 ?_)
 refine RS.g ?_
 refine z5f rfl (z5c 11 1) (pC (q0m n 0 ([3,1]) r49 h50) _) fn44 ?_
 refine RS.g ?_
 refine z5f rfl (z5c 12 1) (pC (q0m n 0 ([4,2]) r51 h52) _) fn44 (RS.cl rfl (z5h (args':=[.i6 7,.isl false []]) (.cons (.refl _) (.cons (.nil false) .nil)) (pC (q0m n 7 [] r53 h54)) _) fn44 (RS.w (u:=.sl 13 0 3 3) (σ':=⟨[(13,.row [.i6 r49.Typex,.iM q07 r49.Arcs,.i6 r51.Typex,.iM q07 r51.Arcs,.i6 r53.Typex,.iM q07 r53.Arcs] 54),(9,.row (q0h r34) 43),(8,.row [.i6 0,.i6 1] 3),(7,.row [.i6 0,.i6 0] 3),(6,.row [.nils,.sl 4 0 1 1,.sl 5 0 1 1] 33),(5,.row [.i6 1] 3),(4,.row [.i6 0] 3),(3,.row [.iM q03 r7.Nodes] 24)],14⟩) rfl (q6h un22.h if54.h rfl rfl rfl rfl rfl rfl rfl) (z5f rfl (z5c 13 2) (pC (q63 n ([r49,r51,r53]) r55 h56) _) fn43 (RS.cl rfl (pC (q2l n r47 r55 r57 h58) _) fn21 ?_))))
 refine go ?_
 refine RS.g ?_
 refine RS.cl rfl (vw (q41 n r36.1 ([10,2]) r61 h62) (z5c 14 1)) fn28 ?_
 refine go ?_
 refine RS.cl rfl (pC (qew n r34 r36.1 r64 h65) _) fn25 (RS.w (u:=.bool (q1c r64 ([82,69,83,84,46,70,73,82,83,84]))) rfl (q97 rfl rfl rfl rfl) ?_)
 refine go ?_
 exact xC ⟨rfl,rfl⟩
 obtain rfl:=sI h69
 refine go ?_
 refine RS.g ?_
 refine RS.cl rfl (pC (q69 n 7 r45 h46) _) fn45 (z5f rfl (z5c 10 1) (pC (q64 n ([3,4]) r45 r47 h48) _) fn22 ?_)
 refine RS.g ?_
 refine z5f rfl (z5c 11 1) (pC (q0m n 0 ([3,1]) r49 h50) _) fn44 ?_
 refine RS.g ?_
 refine z5f rfl (z5c 12 1) (pC (q0m n 0 ([4,2]) r51 h52) _) fn44 (RS.cl rfl (z5h (args':=[.i6 7,.isl false []]) (.cons (.refl _) (.cons (.nil false) .nil)) (pC (q0m n 7 [] r53 h54)) _) fn44 (RS.w (u:=.sl 13 0 3 3) (σ':=⟨[(13,.row [.i6 r49.Typex,.iM q07 r49.Arcs,.i6 r51.Typex,.iM q07 r51.Arcs,.i6 r53.Typex,.iM q07 r53.Arcs] 54),(9,.row (q0h r34) 43),(8,.row [.i6 0,.i6 1] 3),(7,.row [.i6 0,.i6 0] 3),(6,.row [.nils,.sl 4 0 1 1,.sl 5 0 1 1] 33),(5,.row [.i6 1] 3),(4,.row [.i6 0] 3),(3,.row [.iM q03 r7.Nodes] 24)],14⟩) rfl (q6h un22.h if54.h rfl rfl rfl rfl rfl rfl rfl) (z5f rfl (z5c 13 2) (pC (q63 n ([r49,r51,r53]) r55 h56) _) fn43 (RS.cl rfl (pC (q2l n r47 r55 r57 h58) _) fn21 ?_))))
 refine go ?_
 refine RS.g ?_
 refine RS.cl rfl (vw (q41 n r36.1 ([10,2]) r61 h62) (z5c 14 1)) fn28 ?_
 refine go ?_
 refine RS.cl rfl (pC (qew n r34 r36.1 r64 h65) _) fn25 (RS.w (u:=.bool (q1c r64 ([82,69,83,84,46,70,73,82,83,84]))) rfl (q97 rfl rfl rfl rfl) ?_)
 refine go ?_
 exact xC ⟨rfl,rfl⟩
 obtain rfl:=sI h69
 refine go ?_
 refine RS.g ?_
 refine RS.cl rfl (pC (q69 n 7 r45 h46) _) fn45 (z5f rfl (z5c 10 1) (pC (q64 n ([3,4]) r45 r47 h48) _) fn22 ?_)
 refine RS.g ?_
 refine z5f rfl (z5c 11 1) (pC (q0m n 0 ([3,1]) r49 h50) _) fn44 ?_
 refine RS.g ?_
 refine z5f rfl (z5c 12 1) (pC (q0m n 0 ([4,2]) r51 h52) _) fn44 (RS.cl rfl (z5h (args':=[.i6 7,.isl false []]) (.cons (.refl _) (.cons (.nil false) .nil)) (pC (q0m n 7 [] r53 h54)) _) fn44 (RS.w (u:=.sl 13 0 3 3) (σ':=⟨[(13,.row [.i6 r49.Typex,.iM q07 r49.Arcs,.i6 r51.Typex,.iM q07 r51.Arcs,.i6 r53.Typex,.iM q07 r53.Arcs] 54),(9,.row (q0h r34) 43),(8,.row [.i6 0,.i6 1] 3),(7,.row [.i6 0,.i6 0] 3),(6,.row [.nils,.sl 4 0 1 1,.sl 5 0 1 1] 33),(5,.row [.i6 1] 3),(4,.row [.i6 0] 3),(3,.row [.iM q03 r7.Nodes] 24)],14⟩) rfl (q6h un22.h if54.h rfl rfl rfl rfl rfl rfl rfl) (z5f rfl (z5c 13 2) (pC (q63 n ([r49,r51,r53]) r55 h56) _) fn43 (RS.cl rfl (pC (q2l n r47 r55 r57 h58) _) fn21 ?_))))
 refine go ?_
 refine RS.g ?_
 refine RS.cl rfl (vw (q41 n r36.1 ([10,2]) r61 h62) (z5c 14 1)) fn28 ?_
 refine go ?_
 exact xC ⟨rfl,rfl⟩
 obtain rfl:=sI h69
 refine go ?_
 refine RS.g ?_
 refine RS.cl rfl (pC (q69 n 7 r45 h46) _) fn45 (z5f rfl (z5c 10 1) (pC (q64 n ([3,4]) r45 r47 h48) _) fn22 ?_)
 refine RS.g ?_
 refine z5f rfl (z5c 11 1) (pC (q0m n 0 ([3,1]) r49 h50) _) fn44 ?_
 refine RS.g ?_
 refine z5f rfl (z5c 12 1) (pC (q0m n 0 ([4,2]) r51 h52) _) fn44 (RS.cl rfl (z5h (args':=[.i6 7,.isl false []]) (.cons (.refl _) (.cons (.nil false) .nil)) (pC (q0m n 7 [] r53 h54)) _) fn44 (RS.w (u:=.sl 13 0 3 3) (σ':=⟨[(13,.row [.i6 r49.Typex,.iM q07 r49.Arcs,.i6 r51.Typex,.iM q07 r51.Arcs,.i6 r53.Typex,.iM q07 r53.Arcs] 54),(9,.row (q0h r34) 43),(8,.row [.i6 0,.i6 1] 3),(7,.row [.i6 0,.i6 0] 3),(6,.row [.nils,.sl 4 0 1 1,.sl 5 0 1 1] 33),(5,.row [.i6 1] 3),(4,.row [.i6 0] 3),(3,.row [.iM q03 r7.Nodes] 24)],14⟩) rfl (q6h un22.h if54.h rfl rfl rfl rfl rfl rfl rfl) (z5f rfl (z5c 13 2) (pC (q63 n ([r49,r51,r53]) r55 h56) _) fn43 (RS.cl rfl (pC (q2l n r47 r55 r57 h58) _) fn21 ?_))))
 refine go ?_
 exact xC ⟨rfl,rfl⟩
 obtain rfl:=sI h69
 refine go ?_
 refine RS.g ?_
 refine RS.cl rfl (pC (q69 n 7 r45 h46) _) fn45 (z5f rfl (z5c 10 1) (pC (q64 n ([3,4]) r45 r47 h48) _) fn22 ?_)
 refine RS.g ?_
 refine z5f rfl (z5c 11 1) (pC (q0m n 0 ([3,1]) r49 h50) _) fn44 ?_
 refine RS.g ?_
 refine z5f rfl (z5c 12 1) (pC (q0m n 0 ([4,2]) r51 h52) _) fn44 (RS.cl rfl (z5h (args':=[.i6 7,.isl false []]) (.cons (.refl _) (.cons (.nil false) .nil)) (pC (q0m n 7 [] r53 h54)) _) fn44 (RS.w (u:=.sl 13 0 3 3) (σ':=⟨[(13,.row [.i6 r49.Typex,.iM q07 r49.Arcs,.i6 r51.Typex,.iM q07 r51.Arcs,.i6 r53.Typex,.iM q07 r53.Arcs] 54),(9,.row (q0h r34) 43),(8,.row [.i6 0,.i6 1] 3),(7,.row [.i6 0,.i6 0] 3),(6,.row [.nils,.sl 4 0 1 1,.sl 5 0 1 1] 33),(5,.row [.i6 1] 3),(4,.row [.i6 0] 3),(3,.row [.iM q03 r7.Nodes] 24)],14⟩) rfl (q6h un22.h if54.h rfl rfl rfl rfl rfl rfl rfl) (z5f rfl (z5c 13 2) (pC (q63 n ([r49,r51,r53]) r55 h56) _) fn43 (RS.cl rfl (pC (q2l n r47 r55 r57 h58) _) fn21 ?_))))
 refine go ?_
 exact xC ⟨rfl,rfl⟩
 exact gy h69
 exact gy h69
 exact gy h69
 obtain ⟨r9,h10,h28⟩:=q00 h28
 obtain ⟨r11,h12,h28⟩:=q00 h28
 rcases gB h28 with ⟨h13,h28⟩ | ⟨h13,h28⟩
 obtain rfl:=sI h28
 refine go ?_
 refine RS.cl rfl (pC (q8o n r7 r9 h10) _) fn15 ?_
 refine RS.g ?_
 refine RS.g ?_
 refine RS.g ?_
 refine RS.cl rfl (vw (q7f n r9 ([[],[0],[1]]) r11 h12) (Gh.trans (z5c 4 1) (Gh.trans (z5c 5 1) (Gh.trans (z5v 6) (z5c 6 1))))) fn14 ?_
 refine go ?_
 exact xC ⟨rfl,rfl⟩
 obtain ⟨r14,h15,h28⟩:=q00 h28
 obtain ⟨r16,h17,h28⟩:=q00 h28
 rcases gB h28 with ⟨h18,h28⟩ | ⟨h18,h28⟩
 obtain rfl:=sI h28
 refine go ?_
 refine RS.cl rfl (pC (q8o n r7 r9 h10) _) fn15 ?_
 refine RS.g ?_
 refine RS.g ?_
 refine RS.g ?_
 refine RS.cl rfl (vw (q7f n r9 ([[],[0],[1]]) r11 h12) (Gh.trans (z5c 4 1) (Gh.trans (z5c 5 1) (Gh.trans (z5v 6) (z5c 6 1))))) fn14 ?_
 refine go ?_
 refine RS.cl rfl (pC (qd6 n r7 r14 h15) _) fn18 ?_
 refine RS.g ?_
 refine RS.g ?_
 refine go ?_
 refine RS.g ?_
 refine RS.cl rfl (vw (q71 n r14 ([(q0g.mk ([1]) ([0,0]))]) r16 h17) (Gh.trans (z5c 7 1) (Gh.trans (z5c 8 1) (z5c 9 2)))) fn17 ?_
 refine go ?_
 exact xC ⟨rfl,rfl⟩
 obtain ⟨r19,h20,h28⟩:=q00 h28
 obtain ⟨r21,h22,h28⟩:=q00 h28
 obtain ⟨r23,h24,h28⟩:=q00 h28
 obtain ⟨r25,h26,h28⟩:=q00 h28
 obtain rfl:=sI h28
 refine go ?_
 refine RS.cl rfl (pC (q8o n r7 r9 h10) _) fn15 ?_
 refine RS.g ?_
 refine RS.g ?_
 refine RS.g ?_
 refine RS.cl rfl (vw (q7f n r9 ([[],[0],[1]]) r11 h12) (Gh.trans (z5c 4 1) (Gh.trans (z5c 5 1) (Gh.trans (z5v 6) (z5c 6 1))))) fn14 ?_
 refine go ?_
 refine RS.cl rfl (pC (qd6 n r7 r14 h15) _) fn18 ?_
 refine RS.g ?_
 refine RS.g ?_
 refine go ?_
 refine RS.g ?_
 refine RS.cl rfl (vw (q71 n r14 ([(q0g.mk ([1]) ([0,0]))]) r16 h17) (Gh.trans (z5c 7 1) (Gh.trans (z5c 8 1) (z5c 9 2)))) fn17 ?_
 refine go ?_
 refine RS.g ?_
 refine z5f rfl (z5c 10 1) (pC (q0m n 1 ([5,0]) r19 h20) _) fn44 (RS.w (u:=.sl 11 0 1 1) (σ':=⟨[(11,.row (q03 r19) 54),(9,.row [.sl 7 0 1 1,.sl 8 0 2 2] 56),(8,.row [.i6 0,.i6 0] 3),(7,.row [.i6 1] 3),(6,.row [.nils,.sl 4 0 1 1,.sl 5 0 1 1] 33),(5,.row [.i6 1] 3),(4,.row [.i6 0] 3),(3,.row [.iM q03 r7.Nodes] 24)],12⟩) rfl (q6h un22.h if54.h rfl rfl rfl rfl rfl rfl rfl) (z5f rfl (z5c 11 2) (pC (q63 n ([r19]) r21 h22) _) fn43 (RS.cl rfl (pC (qd6 n r21 r23 h24) _) fn18 ?_)))
 refine RS.g ?_
 refine go ?_
 refine RS.g ?_
 refine RS.cl rfl (vw (q71 n r23 ([(q0g.mk [] ([5]))]) r25 h26) (Gh.trans (z5c 12 1) (Gh.trans (z5v 13) (z5c 13 2)))) fn17 ?_
 refine go ?_
 exact xC ⟨rfl,rfl⟩
def q3i (z19:Int) (rc1:Int→Option (Bool))  : Option (Bool) :=
 rc1 (IntKind.i64.wrap (z19+1))
def q1i (p1:GFS) (n:Nat) (r7:(List (List Int))) (z19:Int) (rc1:Int→Option (Bool)) (x31:q0b):Nat→Int→Option (Bool)
 | 0,_=>none
 | m2+1,z41 =>
  cond (decide (z41<(x31.Arcs.length:Int)))
   (q02 (q0j x31.Arcs z41) fun x43 =>
   q02 (q0j r7 z19) fun x45 =>
   q0z (x45.length*8≤140737488355328∧x45.length≤140737488355328) (
   q0z ((x45.length+([x43.Feat]).length)*8≤140737488355328∧x45.length+([x43.Feat]).length≤140737488355328) (
   q02 (qet n p1 (x45++[x43.Feat])) fun r49 =>
   q02 (q0j r7 z19) fun x51 =>
   q02 (qd1 n p1 x51) fun r53 =>
   q02 (qd1 n (GFS.mk r53.1.Nodes) ([x43.Feat])) fun r55 =>
   q02 (qd1 n p1 (x45++[x43.Feat])) fun r57 =>
   q02 (cond (r49.1 != x43.To)
    (some true)
    (cond (!r49.2)
     (some true)
     (cond (!r53.2)
      (some true)
      (cond (!r55.2)
       (some true)
       (cond (!r57.2)
        (some true)
        (q02 (q60 n (GFS.mk r55.1.Nodes) (GFS.mk r57.1.Nodes)) fun r64 =>
        cond (!r64)
         (some true)
         (q02 (q0j r7 x43.To) fun x67 =>
         some (decide ((x67.length:Int) > ((x45++[x43.Feat]).length:Int)))))))))) fun b69 =>
   cond b69
    (some false)
    (q02 (q02 (q0j r7 x43.To) fun x72 =>
    cond ((x72.length:Int) == ((x45++[x43.Feat]).length:Int))
     (q02 (q0j r7 x43.To) fun x75 =>
     q02 (qa5 n x75 (x45++[x43.Feat])) fun r77 =>
     some (!r77))
     (some false)) fun b79 =>
    cond b79
     (some false)
     ((q1i p1 n r7 z19 rc1 x31 m2) (IntKind.i64.wrap (z41+1)))))))
   (q3i z19 rc1)
def q3h (n:Nat)  : Option (Bool) :=
 q02 (q2e n) fun r20 =>
 some r20
def q0y (p1:GFS) (n:Nat) (r7:(List (List Int))):Nat→Int→Option (Bool)
 | 0,_=>none
 | m1+1,z19 =>
  cond (decide (z19<(p1.Nodes.length:Int)))
   (q02 (q0j r7 z19) fun x23 =>
   q02 (qet n p1 x23) fun r25 =>
   q02 (cond (r25.1 != z19)
    (some true)
    (some (!r25.2))) fun b28 =>
   cond b28
    (some false)
    (q02 (q0j p1.Nodes z19) fun x31 =>
    q1i p1 n r7 z19 (q0y p1 n r7 m1) x31 n 0))
   (q3h n)
def q4z (n:Nat) (p1:GFS):Option (Bool) :=
 q02 (qa6 n p1) fun r2 =>
 cond (!r2)
  (q02 (q2e n) fun r5 =>
  some r5)
  (q02 (q7c n p1) fun r7 =>
  q02 (cond ((r7.length:Int) != (p1.Nodes.length:Int))
   (some true)
   (q02 (q0j r7 0) fun x10 =>
   some ((x10.length:Int) != 0))) fun b12 =>
  cond b12
   (some false)
   (q0y p1 n r7 n 0))
end Go.Proofs
end
