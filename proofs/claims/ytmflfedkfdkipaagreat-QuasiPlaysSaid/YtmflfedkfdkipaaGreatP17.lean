import Derived.Test.YtmflfedkfdkipaaGreatP16
set_option linter.all false
namespace Go.Proofs
open Go Go.Rx Go.Vx Tryz
instance:TbP prog tb:=⟨tb_ok⟩
set_option maxRecDepth 20000
set_option maxHeartbeats 4000000
set_option synthInstance.maxSize 4000
set_option synthInstance.maxHeartbeats 200000
structure sA where
 Kind:Int
 A:Int
 B:Int
 F:GFS
def oY(x:sA):X U:=[.int .i64 x.Kind,.int .i64 x.A,.int .i64 x.B,.isl false (x.F.Nodes.map b7)]
theorem quj(n:Nat)(x:sA):aG n (oY x):=by simp only[oY,aG,aT,true_and,and_true];exact sJ _ (fun q=>vJ _ q) _
theorem z5a(x:sA):(oY x).length=4:=rfl
instance:fX oY 4:=⟨z5a⟩
instance:BF oY:=⟨quj⟩
instance(n:Nat)(x:sA):m9 n (oY x):=⟨quj n x⟩
structure pP where
 H:cZ
 L:X GFS
def gZ(x:pP):X U:=[.isl false (x.H.Types.map jW),.isl false (x.H.Feats.map mN),.isl false (x.L.map kI)]
theorem qx2(n:Nat)(x:pP):aG n (gZ x):=by simp only[gZ,aG,aT,true_and,and_true];exact⟨sJ _ (fun q=>Ia _ q) _,sJ _ (fun q=>Rk _ q) _,sJ _ (fun q=>jq _ q) _⟩
theorem qxl(x:pP):(gZ x).length=3:=rfl
instance:fX gZ 3:=⟨qxl⟩
instance(priority:=low){x:pP}{o:Nat}{cs q:X U}[s:JP [.isl false (x.H.Types.map jW),.isl false (x.H.Feats.map mN),.isl false (x.L.map kI)] o cs q]:JP (gZ x) o cs q:=⟨s.h⟩
instance(priority:=low){x:pP}{o k:Nat}{cs:X U}[s:GR [.isl false (x.H.Types.map jW),.isl false (x.H.Feats.map mN),.isl false (x.L.map kI)] o k cs]:GR (gZ x) o k cs:=⟨s.h⟩
instance(n:Nat)(x:pP):m9 n (gZ x):=⟨qx2 n x⟩
structure m6 where
 E0:Int
 E1:Int
def AQ(x:m6):X U:=[.int .i64 x.E0,.int .i64 x.E1]
instance{a0:Int}{a1:Int}:DeC AQ [.int .i64 a0,.int .i64 a1] (m6.mk a0 a1):=⟨rfl⟩
theorem qsj(n:Nat)(x:m6):aG n (AQ x):=by simp only[AQ,aG,aT,true_and,and_true]
theorem NV(x:m6):(AQ x).length=2:=rfl
instance:fX AQ 2:=⟨NV⟩
instance:BF AQ:=⟨qsj⟩
instance bd35:uS tb 35 [.nils,.nils,.nils] [(0,2),(2,1)]:=⟨vV sT.h rE.h rfl qq1⟩
abbrev tQ(a)(b:Nat)(c:B)(d):=([(2,.bv AQ a 58 2 b),(1,c),(0,.bv (cI .i64) d 3 1 0)]:X (Nat×B))
abbrev Hn(a)(b)(c:B):=([(2,.row [.iM b7 a] 39),(1,.row [.iM b7 b] 39),(0,c)]:X (Nat×B))
abbrev YJ(a):=([(1,.bv (cI .i64) a 3 1 0),(0,.row [] 3)]:X (Nat×B))
abbrev Hl(a)(b:Nat):=([(1,.bv b7 a 79 2 b),(0,.row [] 79)]:X (Nat×B))
def Jq(n:Nat): V (cZ):=
 a8 (Rf n) fun r3=>
 a8 (O1 n r3) fun r5=>some (cZ.mk r5.1.Types r5.1.Feats)
def se(n:Nat)(p1:X bG):V (cZ):=
 cond (decide ((p1.length:Int)<=12)) (a8 (O1 n p1) fun r7=>cond (r7.2==0) (some (cZ.mk r7.1.Types r7.1.Feats)) (Jq n)) (Jq n)
theorem qj3(n:Nat)(p1:X bG)(r:cZ)(O:se n p1=some r):cY prog 9 [.isl false (p1.map bL)] (.agg (gE r)):=by unfold se at O;refine lG 24 fn9 ?_;refine gr ?_;refine gr ?_;refine tF (fun tm Y=>Jq n=some r/\tm=fr 24 [(2,.ptr 0 0 0)]/\Y=⟨[(0,.row [.nils,.nils] 27)],1⟩) ?_ ?_;rintro _ _ ⟨O,rfl,rfl⟩;unfold Jq at O;obtain⟨r3,h4,r5,h6,O⟩:=bO O;refine go ?_;refine aK rfl (pC (qlz n r3 h4) _) Yw (aK rfl (pC (J? n r3 r5 h6) _) PW ?_);refine go ?_;obtain rfl:=sI O;exact rT (nH (kL sU.h rfl (bB B2.h) rfl rfl rfl) (eD)) (uT _ rfl);refine cF O ?_ ?_<;>intro h2 O;obtain⟨r7,h8,O⟩:=aI O;refine go ?_;refine aK rfl (pC (J? n p1 r7 h8) _) PW ?_;refine gF O ?_ ?_<;>intro h9 O;refine go ?_;obtain rfl:=sI O;exact rT (nH (kL sU.h rfl (bB B2.h) rfl rfl rfl) (eD)) (uT _ rfl);refine go ?_;exact xC ⟨O,rfl,rfl⟩;refine go ?_;exact xC ⟨O,rfl,rfl⟩
def lr: V (PE):=
 some true
def Jc(p1:GFS):Nat->Int->V (PE)
 |0,_=>none|m1+1,z5=>cond (decide (z5<(p1.Nodes.length:Int))) (a8 (aB p1.Nodes z5) fun x7=>cond (decide ((x7.Arcs.length:Int)>12)) (some false) ((Jc p1 m1) (IntKind.i64.wrap (z5+1)))) (lr)
def Qj(n:Nat)(p1:GFS):V (PE):=
 cond (decide ((p1.Nodes.length:Int)>12)) (some false) (Jc p1 n 0)
theorem qpd(n:Nat)(p1:GFS)(r:PE)(O:Qj n p1=some r):cY prog 41 [.agg [.isl false (p1.Nodes.map b7)]] (.bool r):=by unfold Qj at O;refine lG 23 Ys ?_;refine gF O ?_ ?_<;>intro h2 O;exact gx O;refine go ?_;refine gL (fun m tm Y=>∃z5,Jc p1 m z5=some r/\tm=fr 23 [(1,.ptr 0 0 0),(3,.i6 z5)]/\Y=⟨[(0,.row [.iM b7 p1.Nodes] 39)],1⟩) (fun tm Y=>lr=some r/\tm=fr 23 []/\Y=⟨[(0,.row [.iM b7 p1.Nodes] 39)],1⟩) n ⟨0,O,rfl,rfl⟩ ?_ ?_;rintro _ _ ⟨O,rfl,rfl⟩;unfold lr at O;exact gx O;rintro(_|m1) _ _ ⟨z5,O,rfl,rfl⟩;cases O;unfold Jc at O;refine gF O ?_ ?_<;>intro h6 O;refine go ?_;apply cE;obtain⟨x7,h8,O⟩:=aI O;refine go ?_;refine cB h8 ?_;refine gF O ?_ ?_<;>intro h9 O;exact gx O;refine go ?_;exact lC ⟨_,O,rfl,rfl⟩;refine go ?_;exact xC ⟨O,rfl,rfl⟩
def yl(z6:Int)(cA:Int->V (Int)): V (Int):=
 cA (IntKind.i64.wrap (z6+1))
def Iw(p1:X aR)(z6:Int)(cA:Int->V (Int)):Nat->Int->V (Int)
 |0,_=>none|m2+1,fA=>cond (decide (fA<z6)) (a8 (aB p1 fA) fun ET=>a8 (aB p1 z6) fun y3=>cond (ET.Feat==y3.Feat) (some 4) ((Iw p1 z6 cA m2) (IntKind.i64.wrap (fA+1)))) (yl z6 cA)
def ym: V (Int):=
 some 0
def NY(p1:X aR)(p2:Int)(n:Nat):Nat->Int->V (Int)
 |0,_=>none|m1+1,z6=>cond (decide (z6<(p1.length:Int))) (a8 (a8 (aB p1 z6) fun x8=>cond (decide (x8.Feat<0)) (some true) (a8 (aB p1 z6) fun mT=>cond (decide (mT.To<0)) (some true) (a8 (aB p1 z6) fun vW=>some (decide (vW.To>=p2))))) fun b16=>cond b16 (some 2) (Iw p1 z6 (NY p1 p2 n m1) n 0)) (ym)
def kq(n:Nat)(p1:X aR)(p2:Int):V (Int):=
 NY p1 p2 n n 0
theorem qrr(n:Nat)(p1:X aR)(p2:Int)(r:Int)(O:kq n p1 p2=some r):cY prog 140 [.isl false (p1.map bF),.int .i64 p2] (.int .i64 r):=by unfold kq at O;refine eL 52 UT ?_;refine go ?_;refine gL (fun m tm Y=>∃z6,NY p1 p2 n m z6=some r/\tm=fr 52 [(0,.iM bF p1),(1,.i6 p2),(5,.i6 z6)]/\Y=⟨[],0⟩) (fun tm Y=>ym=some r/\tm=fr 52 []/\Y=⟨[],0⟩) n ⟨0,O,rfl,rfl⟩ ?_ ?_;rintro _ _ ⟨O,rfl,rfl⟩;unfold ym at O;exact gx O;rintro(_|m1) _ _ ⟨z6,O,rfl,rfl⟩;cases O;unfold NY at O;refine gF O ?_ ?_<;>intro h7 O;refine go ?_;apply cE;obtain⟨b16,jK,O⟩:=aI O;refine gn ?_;refine tF (fun tm Y=>tm=fr 52 [(0,.iM bF p1),(1,.i6 p2),(5,.i6 z6),(35,.bool b16)]/\Y=⟨[],0⟩) ?_ ?_;rintro _ _ ⟨rfl,rfl⟩;refine gF O ?_ ?_<;>intro dO O;exact gx O;refine go ?_;refine gL (fun m tm Y=>∃fA,Iw p1 z6 (NY p1 p2 n m1) m fA=some r/\tm=fr 52 [(0,.iM bF p1),(1,.i6 p2),(5,.i6 z6),(6,.i6 fA)]/\Y=⟨[],0⟩) (fun tm Y=>yl z6 (NY p1 p2 n m1)=some r/\tm=fr 52 [(0,.iM bF p1),(1,.i6 p2),(5,.i6 z6)]/\Y=⟨[],0⟩) n ⟨0,O,rfl,rfl⟩ ?_ ?_;rintro _ _ ⟨O,rfl,rfl⟩;unfold yl at O;refine go ?_;exact lC ⟨_,O,rfl,rfl⟩;rintro(_|m2) _ _ ⟨fA,O,rfl,rfl⟩;cases O;unfold Iw at O;refine gF O ?_ ?_<;>intro pJ O;refine go ?_;apply cE;obtain⟨ET,o4,y3,xO,O⟩:=bO O;refine go ?_;refine dE [] ?_;refine gd ?_;refine dU o4 ?_;refine gd ?_;refine dU xO ?_;refine gd ?_;refine bC ⟨by kernel_rfl,trivial,?_⟩;refine gF O ?_ ?_<;>intro sP O;exact gx O;refine go ?_;exact lC ⟨_,O,rfl,rfl⟩;refine go ?_;exact xC ⟨O,rfl,rfl⟩;obtain⟨x8,h9,jK⟩:=aI jK;refine go ?_;refine cB h9 ?_;refine go ?_;rcases gB jK with⟨gC,jK⟩|⟨gC,jK⟩;exact gy jK;obtain⟨mT,g9,jK⟩:=aI jK;refine go ?_;refine cB g9 ?_;refine go ?_;rcases gB jK with⟨eB,jK⟩|⟨eB,jK⟩;exact gy jK;obtain⟨vW,lV,jK⟩:=aI jK;obtain rfl:=sI jK;refine go ?_;refine cB lV ?_;refine go ?_;exact xC ⟨rfl,rfl⟩;refine go ?_;exact xC ⟨O,rfl,rfl⟩
def yk: V (Int):=
 some 0
def Iv(p1:GFS)(n:Nat):Nat->Int->V (Int)
 |0,_=>none|m1+1,z6=>cond (decide (z6<(p1.Nodes.length:Int))) (a8 (aB p1.Nodes z6) fun x8=>cond (decide (x8.Typex<0)) (some 2) (a8 (aB p1.Nodes z6) fun mT=>a8 (kq n mT.Arcs (p1.Nodes.length:Int)) fun mJ=>cond (mJ != 0) (some mJ) ((Iv p1 n m1) (IntKind.i64.wrap (z6+1))))) (yk)
def Pw(n:Nat)(p1:GFS):V (Int):=
 cond ((p1.Nodes.length:Int)==0) (some 1) (cond (decide ((p1.Nodes.length:Int)>4096)) (some 7) (Iv p1 n n 0))
theorem qrs(n:Nat)(p1:GFS)(r:Int)(O:Pw n p1=some r):cY prog 100 [.agg [.isl false (p1.Nodes.map b7)]] (.int .i64 r):=by unfold Pw at O;refine lG 40 VF ?_;refine gF O ?_ ?_<;>intro h2 O;exact gx O;refine gF O ?_ ?_<;>intro h3 O;exact gx O;refine go ?_;refine gL (fun m tm Y=>∃z6,Iv p1 n m z6=some r/\tm=fr 40 [(1,.ptr 0 0 0),(3,.i6 z6)]/\Y=⟨[(0,.row [.iM b7 p1.Nodes] 39)],1⟩) (fun tm Y=>yk=some r/\tm=fr 40 []/\Y=⟨[(0,.row [.iM b7 p1.Nodes] 39)],1⟩) n ⟨0,O,rfl,rfl⟩ ?_ ?_;rintro _ _ ⟨O,rfl,rfl⟩;unfold yk at O;exact gx O;rintro(_|m1) _ _ ⟨z6,O,rfl,rfl⟩;cases O;unfold Iv at O;refine gF O ?_ ?_<;>intro h7 O;refine go ?_;apply cE;obtain⟨x8,h9,O⟩:=aI O;refine go ?_;refine cB h9 ?_;refine gF O ?_ ?_<;>intro gC O;exact gx O;obtain⟨mT,g9,mJ,i7,O⟩:=bO O;refine go ?_;refine dE [] ?_;refine gd ?_;refine dU g9 ?_;refine gd ?_;refine dK rfl (pC (qrr n mT.Arcs (p1.Nodes.length:Int) mJ i7)) UT ?_;refine gd ?_;refine bC ⟨by kernel_rfl,trivial,?_⟩;refine gF O ?_ ?_<;>intro lV O;exact gx O;refine go ?_;exact lC ⟨_,O,rfl,rfl⟩;refine go ?_;exact xC ⟨O,rfl,rfl⟩
def Qk(n:Nat)(p1:GFS):V (GFS×Int):=
 a8 (Pw n p1) fun r2=>cond (r2 != 0) (some ((GFS.mk []),r2)) (a8 (Hz n p1 0) fun r5=>some (r5,0))
theorem qpb(n:Nat)(p1:GFS)(r:GFS×Int)(O:Qk n p1=some r):cY prog 63 [.agg [.isl false (p1.Nodes.map b7)]] (.tup [.agg [.isl false (r.1.Nodes.map b7)],.int .i64 r.2]):=by unfold Qk at O;refine lG 13 Yk ?_;obtain⟨r2,h3,O⟩:=aI O;refine go ?_;refine aK rfl (pC (qrs n p1 r2 h3) _) VF ?_;refine gF O ?_ ?_<;>intro h4 O;refine go ?_;obtain rfl:=sI O;exact rT (us:=[.agg [.nils],.i6 r2]) (u:=.tup [.agg [.isl false []],.i6 r2]) (nH (kL fT.h rfl (bB hJ.h) rfl rfl rfl) (dT rfl (eD))) wR;obtain⟨r5,h6,O⟩:=aI O;refine go ?_;refine aK rfl (pC (qjv n p1 0 r5 h6) _) JC ?_;refine go ?_;obtain rfl:=sI O;exact rT (nH (kL fT.h rfl (bB hJ.h) rfl rfl rfl) (dT rfl (eD))) (uT _ rfl)
def lu(jD:Int)(cA:Int->V (Int)): V (Int):=
 cA (IntKind.i64.wrap (jD+1))
def Jd(p1:cZ)(jD:Int)(cA:Int->V (Int))(lW:aO):Nat->Int->V (Int)
 |0,_=>none|m2+1,dP=>cond (decide (dP<(lW.Arcs.length:Int))) (a8 (aB lW.Arcs dP) fun uU=>cond (decide (uU.Feat>=(p1.Feats.length:Int))) (some 2) ((Jd p1 jD cA lW m2) (IntKind.i64.wrap (dP+1)))) (lu jD cA)
def Je(p2:GFS)(n:Nat)(r3:GFS×Int): V (Int):=
 a8 (NT n p2 (GFS.mk r3.1.Nodes)) fun fV=>cond (!fV) (some 3) (some 0)
def SE(p1:cZ)(p2:GFS)(n:Nat)(r3:GFS×Int):Nat->Int->V (Int)
 |0,_=>none|m1+1,jD=>cond (decide (jD<(p2.Nodes.length:Int))) (a8 (aB p2.Nodes jD) fun lW=>cond (decide (lW.Typex>=(p1.Types.length:Int))) (some 2) (Jd p1 jD (SE p1 p2 n r3 m1) lW n 0)) (Je p2 n r3)
def If(n:Nat)(p1:cZ)(p2:GFS):V (Int):=
 a8 (Qk n p2) fun r3=>cond (r3.2 != 0) (some r3.2) (SE p1 p2 n r3 n 0)
theorem qpc(n:Nat)(p1:cZ)(p2:GFS)(r:Int)(O:If n p1 p2=some r):cY prog 42 [.agg (gE p1),.agg [.isl false (p2.Nodes.map b7)]] (.int .i64 r):=by unfold If at O;refine eL 57 Yr ?_;obtain⟨r3,h4,O⟩:=aI O;refine go ?_;refine aK rfl (pC (qpb n p2 r3 h4) _) Yk ?_;refine gF O ?_ ?_<;>intro h5 O;exact gx O;refine go ?_;refine gL (fun m tm Y=>∃jD,SE p1 p2 n r3 m jD=some r/\tm=fr 57 [(2,.ptr 0 0 0),(3,.ptr 1 0 0),(5,.ptr 2 0 0),(7,.i6 jD)]/\Y=⟨Hn r3.1.Nodes p2.Nodes (.row (gE p1) 27),3⟩) (fun tm Y=>Je p2 n r3=some r/\tm=fr 57 [(3,.ptr 1 0 0),(5,.ptr 2 0 0)]/\Y=⟨Hn r3.1.Nodes p2.Nodes (.row (gE p1) 27),3⟩) n ⟨0,O,rfl,rfl⟩ ?_ ?_;rintro _ _ ⟨O,rfl,rfl⟩;unfold Je at O;obtain⟨fV,eB,O⟩:=aI O;refine go ?_;refine aK rfl (pC (yp n p2 (GFS.mk r3.1.Nodes) fV eB) _) IW ?_;refine gF O ?_ ?_<;>intro i7 O;exact gx O;exact gx O;rintro(_|m1) _ _ ⟨jD,O,rfl,rfl⟩;cases O;unfold SE at O;refine gF O ?_ ?_<;>intro lV O;refine go ?_;apply cE;obtain⟨lW,jK,O⟩:=aI O;refine go ?_;refine cB jK ?_;refine gF O ?_ ?_<;>intro dO O;exact gx O;refine go ?_;refine gL (fun m tm Y=>∃dP,Jd p1 jD (SE p1 p2 n r3 m1) lW m dP=some r/\tm=fr 57 [(2,.ptr 0 0 0),(3,.ptr 1 0 0),(5,.ptr 2 0 0),(7,.i6 jD),(8,.ptr 3 0 0),(9,.i6 dP)]/\Y=⟨(3,.row (b7 lW) 79)::Hn r3.1.Nodes p2.Nodes (.row (gE p1) 27),4⟩) (fun tm Y=>lu jD (SE p1 p2 n r3 m1)=some r/\tm=fr 57 [(2,.ptr 0 0 0),(3,.ptr 1 0 0),(5,.ptr 2 0 0),(7,.i6 jD)]/\Y=⟨(3,.row (b7 lW) 79)::Hn r3.1.Nodes p2.Nodes (.row (gE p1) 27),4⟩) n ⟨0,O,rfl,rfl⟩ ?_ ?_;rintro _ _ ⟨O,rfl,rfl⟩;unfold lu at O;refine go ?_;exact lC ⟨_,O,rfl,rfl⟩;rintro(_|m2) _ _ ⟨dP,O,rfl,rfl⟩;cases O;unfold Jd at O;refine gF O ?_ ?_<;>intro xO O;refine go ?_;apply cE;obtain⟨uU,tT,O⟩:=aI O;refine go ?_;refine dE [] ?_;refine gd ?_;refine dU tT ?_;refine gd ?_;refine bC ⟨by kernel_rfl,trivial,?_⟩;refine gF O ?_ ?_<;>intro BM O;exact gx O;refine go ?_;exact lC ⟨_,O,rfl,rfl⟩;refine go ?_;exact xC ⟨O,rfl,rfl⟩;refine go ?_;exact xC ⟨O,rfl,rfl⟩
def ll: V (PE):=
 some true
def Iz(p1:cZ)(p2:X GFS)(n:Nat):Nat->Int->V (PE)
 |0,_=>none|m1+1,z8=>cond (decide (z8<(p2.length:Int))) (a8 (aB p2 z8) fun x10=>a8 (a8 (Qj n x10) fun fV=>cond (!fV) (some true) (a8 (If n p1 x10) fun oI=>some (oI != 0))) fun tW=>cond tW (some false) ((Iz p1 p2 n m1) (IntKind.i64.wrap (z8+1)))) (ll)
def vi(n:Nat)(p1:cZ)(p2:X GFS):V (PE):=
 Iz p1 p2 n n 0
theorem qr0(n:Nat)(p1:cZ)(p2:X GFS)(r:PE)(O:vi n p1 p2=some r):cY prog 17 [.agg (gE p1),.isl false (p2.map kI)] (.bool r):=by unfold vi at O;refine eL 23 Yx ?_;refine go ?_;refine gL (fun m tm Y=>∃z8,Iz p1 p2 n m z8=some r/\tm=fr 23 [(2,.ptr 0 0 0),(7,.iM kI p2),(8,.i6 (p2.length:Int)),(9,.i6 z8)]/\Y=⟨[(0,.row (gE p1) 27)],1⟩) (fun tm Y=>ll=some r/\tm=fr 23 []/\Y=⟨[(0,.row (gE p1) 27)],1⟩) n ⟨0,O,rfl,rfl⟩ ?_ ?_;rintro _ _ ⟨O,rfl,rfl⟩;unfold ll at O;exact gx O;rintro(_|m1) _ _ ⟨z8,O,rfl,rfl⟩;cases O;unfold Iz at O;refine gF O ?_ ?_<;>intro h9 O;refine go ?_;apply cE;obtain⟨x10,jT,O⟩:=aI O;refine go ?_;refine cB jT ?_;obtain⟨tW,dO,O⟩:=aI O;refine gn ?_;refine tF (fun tm Y=>tm=fr 23 [(2,.ptr 0 0 0),(7,.iM kI p2),(8,.i6 (p2.length:Int)),(9,.i6 z8),(21,.bool tW)]/\Y=⟨[(1,.row [.iM b7 x10.Nodes] 39),(0,.row (gE p1) 27)],2⟩) ?_ ?_;rintro _ _ ⟨rfl,rfl⟩;refine gF O ?_ ?_<;>intro kE O;exact gx O;refine go ?_;exact lC ⟨_,O,rfl,rfl⟩;obtain⟨fV,eB,dO⟩:=aI dO;refine go ?_;refine aK rfl (pC (qpd n x10 fV eB) _) Ys ?_;refine go ?_;rcases gB dO with⟨i7,dO⟩|⟨i7,dO⟩;exact gy dO;obtain⟨oI,qL,dO⟩:=aI dO;obtain rfl:=sI dO;refine go ?_;refine aK rfl (pC (qpc n p1 x10 oI qL) _) Yr ?_;refine go ?_;exact xC ⟨rfl,rfl⟩;refine go ?_;exact xC ⟨O,rfl,rfl⟩
def um(p2:X sA): V (PE):=
 some (decide ((p2.length:Int)<=16))
def ZC(p1:cZ)(p2:X sA)(n:Nat):Nat->Int->V (PE)
 |0,_=>none|m1+1,z9=>cond (decide (z9<(p2.length:Int))) (a8 (aB p2 z9) fun mT=>a8 (cond (mT.Kind==0) (cond (decide ((mT.F.Nodes.length:Int)>6)) (some true) (a8 (vi n p1 ([mT.F])) fun oI=>some (!oI))) (some false)) fun tW=>cond tW (some false) ((ZC p1 p2 n m1) (IntKind.i64.wrap (z9+1)))) (um p2)
def s?(n:Nat)(p1:cZ)(p2:X sA):V (PE):=
 ZC p1 p2 n n 0
theorem qog(n:Nat)(p1:cZ)(p2:X sA)(r:PE)(O:s? n p1 p2=some r):cY prog 10 [.agg (gE p1),.isl false (p2.map oY)] (.bool r):=by
 unfold s? at O;refine eL 35 Zc ?_;refine go ?_;refine gL (fun m tm Y=>∃z9,ZC p1 p2 n m z9=some r/\tm=fr 35 [(1,.iM oY p2),(2,.ptr 0 0 0),(7,.iM oY p2),(8,.i6 (p2.length:Int)),(9,.i6 z9)]/\Y=⟨[(0,.row (gE p1) 27)],1⟩) (fun tm Y=>um p2=some r/\tm=fr 35 [(1,.iM oY p2)]/\Y=⟨[(0,.row (gE p1) 27)],1⟩) n ⟨0,O,rfl,rfl⟩ ?_ ?_;rintro _ _ ⟨O,rfl,rfl⟩;unfold um at O;exact gx O;rintro(_|m1) _ _ ⟨z9,O,rfl,rfl⟩;cases O;unfold ZC at O;refine gF O ?_ ?_<;>intro gC O;refine go ?_;apply cE;obtain⟨mT,g9,O⟩:=aI O;refine go ?_;refine cB g9 ?_;obtain⟨tW,dO,O⟩:=aI O;refine gn ?_;refine tF (fun tm Y=>tm=fr 35 [(1,.iM oY p2),(2,.ptr 0 0 0),(7,.iM oY p2),(8,.i6 (p2.length:Int)),(9,.i6 z9),(30,.bool tW)]/\Y=⟨[(1,.row (oY mT) 41),(0,.row (gE p1) 27)],2⟩) ?_ ?_;rintro _ _ ⟨rfl,rfl⟩;refine gF O ?_ ?_<;>intro kE O;exact gx O;refine go ?_;exact lC ⟨_,O,rfl,rfl⟩;refine go ?_;rcases gB dO with⟨eB,dO⟩|⟨eB,dO⟩;refine go ?_;rcases gB dO with⟨i7,dO⟩|⟨i7,dO⟩;exact gy dO;obtain⟨oI,qL,dO⟩:=aI dO;obtain rfl:=sI dO;refine go ?_;refine RS.w (u:=.agg [.iM b7 mT.F.Nodes]) rfl (kL fT.h rfl (bB hJ.h) rfl rfl (rfl)) ?_;refine c5 ?_;refine aK rfl (vw (qr0 n p1 ([mT.F]) oI qL) (sC 2 1)) Yx ?_;refine go ?_;exact xC ⟨rfl,rfl⟩;obtain rfl:=sI dO;refine go ?_
 repeat refine RS.no (GS rfl rfl rfl) rfl rfl ?_
 refine go ?_;exact xC ⟨rfl,rfl⟩;refine go ?_;exact xC ⟨O,rfl,rfl⟩
def qrv(n:Nat)(p1:cZ):V (pP):=
 some (pP.mk p1 [])
theorem qtt(n:Nat)(p1:cZ)(r:pP)(O:qrv n p1=some r):cY prog 13 [.agg (gE p1)] (.agg (gZ r)):=by unfold qrv at O;refine lG 5 Za ?_;refine go ?_;refine aY (u:=.agg [.iM jW p1.Types,.iM mN p1.Feats,.nils]) rfl (ab bd35.h rfl rfl (rfl)) ?_;refine go ?_;obtain rfl:=sI O;exact rT (us:=[.agg [.iM jW p1.Types,.iM mN p1.Feats,.nils]]) (u:=.agg [.iM jW p1.Types,.iM mN p1.Feats,.isl false []]) (nH (kL sT.h rfl (bB rE.h) rfl rfl rfl) (eD)) wR
def Hv(n:Nat)(p1:pP)(p2:GFS):V (pP×Int):=
 aF (p1.L.length*24<=140737488355328/\p1.L.length<=140737488355328) (
 aF ((p1.L.length+([p2]).length)*24<=140737488355328/\p1.L.length+([p2]).length<=140737488355328) (some ((pP.mk p1.H (p1.L++[p2])),(p1.L.length:Int))))
theorem qm1(n:Nat)(p1:pP)(p2:GFS)(r:pP×Int)(O:Hv n p1 p2=some r):cY prog 37 [.agg (gZ p1),.agg [.isl false (p2.Nodes.map b7)]] (.tup [.agg (gZ r.1),.int .i64 r.2]):=by unfold Hv at O;refine eL 20 Ds ?_;obtain⟨h3,O⟩:=c6 O;obtain⟨h4,O⟩:=c6 O;refine go ?_;refine dE [(1,0),(2,0),(4,0),(4,3)] ?_;refine RD.act (u:=.sl 3 0 0 0) (Y':=⟨[(3,.row [] 39),(2,.row [.nils,.nils,.nils] 35),(1,.row [.iM b7 p2.Nodes] 39),(0,.row (gZ p1) 35)],4⟩) rfl (yJ GD.h hJ.h rfl rfl rfl rfl rfl rfl rfl) rfl rfl ?_;refine gd ?_;refine RD.act (u:=.vl 4 0 0 p1.L.length) (Y':=⟨[(4,.bv kI p1.L 39 1 0),(3,.row [] 39),(2,.row [.nils,.nils,.nils] 35),(1,.row [.iM b7 p2.Nodes] 39),(0,.row (gZ p1) 35)],5⟩) rfl (pQ rfl rfl rfl rfl (YE kI p1.L GD.h GD.h hJ.h rfl rfl rfl (NB kI qvc) h3)) rfl rfl ?_;refine gd ?_;refine qr (u:=.iM kI ([p2])) rfl (sX.bs (cs:=[.iM b7 p2.Nodes]) GD.h hJ.h rfl rfl rfl rfl rfl rfl rfl rfl rfl) rfl rfl ?_;refine eN ?_;refine gd ?_;refine qM ?_;refine bC ⟨by kernel_rfl,⟨pO sT.h rfl (bB if33.h) rfl rfl rfl,⟨yL GD.h rfl rfl rfl rfl,⟨kL fT.h rfl (bB hJ.h) rfl rfl rfl,⟨kL fT.h rfl (bB hJ.h) rfl rfl rfl,trivial⟩⟩⟩⟩,?_⟩;refine go ?_;obtain rfl:=sI O;exact rT (us:=[.agg [.iM jW p1.H.Types,.iM mN p1.H.Feats,.vl 4 1 0 ((p1.L++[p2]).length)],.i6 (p1.L.length:Int)]) (u:=.tup [.agg [.iM jW p1.H.Types,.iM mN p1.H.Feats,.iM kI (p1.L++[p2])],.i6 (p1.L.length:Int)]) (nH (kL sT.h rfl (bB rE.h) rfl rfl rfl) (dT rfl (eD))) (fR 4 1)
def HA(n:Nat)(p1:pP)(p2:Int):V (GFS×PE):=
 a8 (cond (decide (p2<0)) (some true) (some (decide (p2>=(p1.L.length:Int))))) fun b4=>cond b4 (some ((GFS.mk []),false)) (a8 (aB p1.L p2) fun x7=>some (x7,true))
theorem y?(n:Nat)(p1:pP)(p2:Int)(r:GFS×PE)(O:HA n p1 p2=some r):cY prog 40 [.agg (gZ p1),.int .i64 p2] (.tup [.agg [.isl false (r.1.Nodes.map b7)],.bool r.2]):=by unfold HA at O;refine eL 21 PV ?_;obtain⟨b4,h5,O⟩:=aI O;refine gr ?_;refine tF (fun tm Y=>tm=fr 21 [(1,.i6 p2),(2,.ptr 0 0 0),(4,.ptr 1 0 0),(14,.bool b4)]/\Y=⟨[(1,.row [.nils] 39),(0,.row (gZ p1) 35)],2⟩) ?_ ?_;rintro _ _ ⟨rfl,rfl⟩;refine gF O ?_ ?_<;>intro h6 O;refine go ?_;obtain rfl:=sI O;exact rT (us:=[.agg [.nils],.bool false]) (u:=.tup [.agg [.isl false []],.bool false]) (nH (kL fT.h rfl (bB hJ.h) rfl rfl rfl) (dT rfl (eD))) wR;obtain⟨x7,h8,O⟩:=aI O;refine go ?_;refine cB h8 ?_;refine go ?_;obtain rfl:=sI O;exact rT (nH (kL fT.h rfl (bB hJ.h) rfl rfl rfl) (dT rfl (eD))) (uT _ rfl);refine go ?_;rcases gB h5 with⟨h3,h5⟩|⟨h3,h5⟩;exact gy h5;exact gy h5
def Ra(z9:Int)(l10:X aO)(cA:Int->(X aO)->V ((X aO)))(tG:aO)(wN:X aR):V ((X aO)):=
 aF ((l10.length+1)*32<=140737488355328/\l10.length+1<=140737488355328) (
 cA (IntKind.i64.wrap (z9+1)) (l10++[(aO.mk tG.Typex wN)]))
def Ir(p1:X aO)(p2:X aO)(z9:Int)(l10:X aO)(cA:Int->(X aO)->V ((X aO)))(tG:aO):Nat->Int->(X aR)->V ((X aO))
 |0,_,_=>none|m2+1,nP,l27=>
  a8 (aB p2 z9) fun sR=>cond (decide (nP<(sR.Arcs.length:Int))) (a8 (aB p2 z9) fun Lt=>
   a8 (aB Lt.Arcs nP) fun iW=>
   a8 (aB p2 z9) fun x39=>
   a8 (aB x39.Arcs nP) fun sQ=>
   aF ((l27.length+1)*16<=140737488355328/\l27.length+1<=140737488355328) ((Ir p1 p2 z9 l10 cA tG m2) (IntKind.i64.wrap (nP+1)) (l27++[(aR.mk iW.Feat (IntKind.i64.wrap (sQ.To+(p1.length:Int))))]))) (Ra z9 l10 cA tG l27)
def yi  (fQ:X aO):V ((X aO)):=
 some fQ
def NX(p1:X aO)(p2:X aO)(n:Nat):Nat->Int->(X aO)->V ((X aO))
 |0,_,_=>none|m1+1,z9,l10=>cond (decide (z9<(p2.length:Int))) (a8 (aB p2 z9) fun tG=>Ir p1 p2 z9 l10 (NX p1 p2 n m1) tG n 0 ([]:X aR)) (yi l10)
def Hy(n:Nat)(p1:X aO)(p2:X aO):V ((X aO)):=
 aF (p1.length*32<=140737488355328/\p1.length<=140737488355328) (
 NX p1 p2 n n 0 p1)
theorem qru(n:Nat)(p1:X aO)(p2:X aO)(r:(X aO))(O:Hy n p1 p2=some r):cY prog 134 [.isl false (p1.map b7),.isl false (p2.map b7)] (.isl false (r.map b7)):=by unfold Hy at O;refine eL 66 UZ ?_;obtain⟨h3,O⟩:=c6 O;refine go ?_;refine aY (u:=.sl 0 0 0 0) (Y':=⟨[(0,.row [] 79)],1⟩) rfl (yJ iI.h mX.h rfl rfl rfl rfl rfl rfl rfl) ?_;refine go ?_;refine aY (u:=.vl 1 0 0 p1.length) (Y':=⟨[(1,.bv b7 p1 79 2 0),(0,.row [] 79)],2⟩) rfl (pQ rfl rfl rfl rfl (YE b7 p1 iI.h iI.h mX.h rfl rfl rfl (NB b7 vd) h3)) ?_;refine go ?_;refine gL (fun m tm Y=>∃z9 l10 sE,NX p1 p2 n m z9 l10=some r/\tm=fr 66 [(0,.iM b7 p1),(1,.iM b7 p2),(5,.vl 1 sE 0 l10.length),(6,.i6 z9)]/\Y=⟨Hl l10 sE,2⟩) (fun tm Y=>∃fQ mU,yi fQ=some r/\tm=fr 66 [(5,.vl 1 mU 0 fQ.length)]/\Y=⟨Hl fQ mU,2⟩) n ⟨0,p1,0,O,rfl,rfl⟩ ?_ ?_;rintro _ _ ⟨fQ,mU,O,rfl,rfl⟩;unfold yi at O;refine go ?_;obtain rfl:=sI O;exact rT (us:=[.vl 1 mU 0 fQ.length]) (u:=.iM b7 fQ) (dT rfl (eD)) (fR 1 2);rintro(_|m1) _ _ ⟨z9,l10,sE,O,rfl,rfl⟩;cases O;unfold NX at O;refine gF O ?_ ?_<;>intro i7 O;refine go ?_;apply cE;obtain⟨tG,qL,O⟩:=aI O;refine go ?_;refine cB qL ?_;refine gr ?_;refine dF (tm':=fr 66 [(0,.iM b7 p1),(1,.iM b7 p2),(5,.vl 1 sE 0 l10.length),(6,.i6 z9),(7,.ptr 2 0 0),(8,.i6 0)]) (Y':=⟨(3,.bv bF ([]:X aR) 105 2 0)::(2,.row [.i6 tG.Typex,.vl 3 0 0 (([]:X aR).length)] 79)::Hl l10 sE,4⟩) (Gh.trans (BO 2 1 105 2 qq3 NZ rfl rfl) (D7 ⟨rfl,rfl,rfl,rfl,rfl,rfl,trivial⟩ rfl)) NZ ?_;refine gL (fun m tm Y=>∃nP l27 BV,Ir p1 p2 z9 l10 (NX p1 p2 n m1) tG m nP l27=some r/\tm=fr 66 [(0,.iM b7 p1),(1,.iM b7 p2),(5,.vl 1 sE 0 l10.length),(6,.i6 z9),(7,.ptr 2 0 0),(8,.i6 nP)]/\Y=⟨(3,.bv bF l27 105 2 BV)::(2,.row [.i6 tG.Typex,.vl 3 BV 0 l27.length] 79)::Hl l10 sE,4⟩) (fun tm Y=>∃wN XE,Ra z9 l10 (NX p1 p2 n m1) tG wN=some r/\tm=fr 66 [(0,.iM b7 p1),(1,.iM b7 p2),(5,.vl 1 sE 0 l10.length),(6,.i6 z9),(7,.ptr 2 0 0)]/\Y=⟨(3,.bv bF wN 105 2 XE)::(2,.row [.i6 tG.Typex,.vl 3 XE 0 wN.length] 79)::Hl l10 sE,4⟩) n ⟨0,([]:X aR),0,O,rfl,rfl⟩ ?_ ?_;rintro _ _ ⟨wN,XE,O,rfl,rfl⟩;unfold Ra at O;refine gn ?_;refine dF (tm':=fr 66 [(0,.iM b7 p1),(1,.iM b7 p2),(5,.vl 1 sE 0 l10.length),(6,.i6 z9),(7,.ptr 2 0 0)]) (Y':=⟨(2,.row [.i6 tG.Typex,.iM bF wN] 79)::Hl l10 sE,4⟩) (Gh.trans (Gh.sub (l':=[(0,.iM b7 p1),(1,.iM b7 p2),(5,.vl 1 sE 0 l10.length),(6,.i6 z9),(7,.ptr 2 0 0)]) ⟨rfl,rfl,rfl,rfl,rfl,trivial⟩) (JV 3 2)) NZ ?_;obtain⟨BM,O⟩:=c6 O;refine go ?_;refine c5 ?_;refine c5 ?_;refine go ?_;exact lC ⟨_,(l10++[(aO.mk tG.Typex wN)]),(sE+1),O,rfl,rfl⟩;rintro(_|m2) _ _ ⟨nP,l27,BV,O,rfl,rfl⟩;cases O;unfold Ir at O;obtain⟨sR,vT,O⟩:=aI O;refine go ?_;refine cB vT ?_;refine gF O ?_ ?_<;>intro nM O;refine go ?_;apply cE;obtain⟨Lt,xN,iW,lE,x39,xM,sQ,vS,O⟩:=qZ O;obtain⟨h43,O⟩:=c6 O;refine go ?_;refine dE [(0,24),(1,24)] ?_;refine gd ?_;refine dU xN ?_;refine gd ?_;refine dU lE ?_;refine gd ?_;refine dU xM ?_;refine gd ?_;refine dU vS ?_;refine gd ?_;refine eN ?_;refine eN ?_;refine gd ?_;refine qM ?_;refine bC ⟨by kernel_rfl,⟨pO u9.h rfl (bB lP.h) rfl rfl rfl,⟨yL fS.h rfl rfl rfl rfl,trivial⟩⟩,?_⟩;refine go ?_;exact lC ⟨_,(l27++[(aR.mk iW.Feat (IntKind.i64.wrap (sQ.To+(p1.length:Int))))]),(BV+1),O,rfl,rfl⟩;refine go ?_;exact xC ⟨l27,BV,O,rfl,rfl⟩;refine go ?_;exact xC ⟨l10,sE,O,rfl,rfl⟩
def lq  (l9:X Int):V ((X Int)):=
 some l9
def Jb(p1:Int):Nat->Int->(X Int)->V ((X Int))
 |0,_,_=>none|m1+1,z6,l7=>cond (decide (z6<p1)) (aF ((l7.length+1)*8<=140737488355328/\l7.length+1<=140737488355328) ((Jb p1 m1) (IntKind.i64.wrap (z6+1)) (l7++[z6]))) (lq l7)
def Ie(n:Nat)(p1:Int):V ((X Int)):=
 Jb p1 n 0 ([]:X Int)
theorem qig(n:Nat)(p1:Int)(r:(X Int))(O:Ie n p1=some r):aW prog 137 [.int .i64 p1] ⟨[],0⟩ (fun u Y'=>∃t,u=.vl 0 t 0 r.length/\Y'=⟨[(0,.bv (cI .i64) r 3 1 t)],0+1⟩):=by unfold Ie at O;refine lG 15 J4 ?_;refine gr ?_;refine gr ?_;refine gr ?_;refine gV 3 3 1 1 ?_;refine gL (fun m tm Y=>∃z6 l7 t8,Jb p1 m z6 l7=some r/\tm=fr 15 [(0,.i6 p1),(3,.vl 0 t8 0 l7.length),(4,.i6 z6)]/\Y=⟨[(0,.bv (cI .i64) l7 3 1 t8)],1⟩) (fun tm Y=>∃l9 eQ,lq l9=some r/\tm=fr 15 [(3,.vl 0 eQ 0 l9.length)]/\Y=⟨[(0,.bv (cI .i64) l9 3 1 eQ)],1⟩) n ⟨0,([]:X Int),0,O,rfl,rfl⟩ ?_ ?_;rintro _ _ ⟨l9,eQ,O,rfl,rfl⟩;unfold lq at O;refine go ?_;obtain rfl:=sI O;exact⟨.inr rfl,[.vl 0 eQ 0 l9.length],dT rfl eD,.vl 0 eQ 0 l9.length,⟨[(0,.bv (cI .i64) l9 3 1 eQ)],1⟩,NZ,Gh.trans (Gh.only (fun k=>Nat.beq k 0)) (Gh.to (n1:=1) [] rfl rfl NZ NL m9.h BH.h),eQ,rfl,rfl⟩;rintro(_|m1) _ _ ⟨z6,l7,t8,O,rfl,rfl⟩;cases O;unfold Jb at O;refine gF O ?_ ?_<;>intro jT O;refine go ?_;apply cE;obtain⟨g9,O⟩:=c6 O;refine go ?_;refine c5 ?_;refine c5 ?_;refine go ?_;exact lC ⟨_,(l7++[z6]),(t8+1),O,rfl,rfl⟩;refine go ?_;exact xC ⟨l7,t8,O,rfl,rfl⟩
def uq: V (Int×PE):=
 some (0,false)
def Ji(p1:X aR)(p2:Int):Nat->Int->V (Int×PE)
 |0,_=>none|m1+1,z6=>cond (decide (z6<(p1.length:Int))) (a8 (aB p1 z6) fun x8=>cond (x8.Feat==p2) (a8 (aB p1 z6) fun mT=>some (mT.To,true)) ((Ji p1 p2 m1) (IntKind.i64.wrap (z6+1)))) (uq)
def ye(n:Nat)(p1:X aR)(p2:Int):V (Int×PE):=
 Ji p1 p2 n 0
theorem qmx(n:Nat)(p1:X aR)(p2:Int)(r:Int×PE)(O:ye n p1 p2=some r):cY prog 164 [.isl false (p1.map bF),.int .i64 p2] (.tup [.int .i64 r.1,.bool r.2]):=by unfold ye at O;refine eL 25 UH ?_;refine go ?_;refine gL (fun m tm Y=>∃z6,Ji p1 p2 m z6=some r/\tm=fr 25 [(0,.iM bF p1),(1,.i6 p2),(6,.i6 z6)]/\Y=⟨[],0⟩) (fun tm Y=>uq=some r/\tm=fr 25 []/\Y=⟨[],0⟩) n ⟨0,O,rfl,rfl⟩ ?_ ?_;rintro _ _ ⟨O,rfl,rfl⟩;unfold uq at O;refine go ?_;obtain rfl:=sI O;exact y5 rfl rfl rfl rfl rfl;rintro(_|m1) _ _ ⟨z6,O,rfl,rfl⟩;cases O;unfold Ji at O;refine gF O ?_ ?_<;>intro h7 O;refine go ?_;apply cE;obtain⟨x8,h9,O⟩:=aI O;refine go ?_;refine cB h9 ?_;refine gF O ?_ ?_<;>intro gC O;obtain⟨mT,g9,O⟩:=aI O;refine go ?_;refine cB g9 ?_;refine go ?_;obtain rfl:=sI O;exact y5 rfl rfl rfl rfl rfl;refine go ?_;exact lC ⟨_,O,rfl,rfl⟩;refine go ?_;exact xC ⟨O,rfl,rfl⟩
def Rt(EP:Int)(rc4:Int->(X aR)->(X m6)->V ((X Int)))(B1:X aR)(B0:X m6):V ((X Int)):=
 rc4 (IntKind.i64.wrap (EP+1)) B1 B0
def Ro(p1:X aO)(dP:Int)(eI:X (X aR))(i8:Int->(X m6)->(X (X aR))->(X Int)->V ((X Int)))(x39:Int)(x43:Int)(nU:X Int)(LM:X aR)(HL:X m6):V ((X Int)):=
 a8 (i9 eI 0 ((p1.length:Int).toNat) (if x43<x39 then x43 else x39)) fun x89=>
 i8 (IntKind.i64.wrap (dP+1)) HL (eI.set (if x43<x39 then x43 else x39).toNat LM) nU
def SC(p1:X aO)(n:Nat)(dP:Int)(eI:X (X aR))(i8:Int->(X m6)->(X (X aR))->(X Int)->V ((X Int)))(x39:Int)(x43:Int)(x47:Int)(x51:Int)(nU:X Int):Nat->Int->(X aR)->(X m6)->V ((X Int))
 |0,_,_,_=>none|m4+1,EP,C7,C6=>
  a8 (i9 eI 0 ((p1.length:Int).toNat) (if x51>x47 then x51 else x47)) fun ao=>cond (decide (EP<(ao.length:Int))) (a8 (i9 eI 0 ((p1.length:Int).toNat) (if x51>x47 then x51 else x47)) fun an=>
   a8 (aB an EP) fun G7=>
   a8 (i9 eI 0 ((p1.length:Int).toNat) (if x43<x39 then x43 else x39)) fun zk=>
   a8 (ye n zk G7.Feat) fun DE=>cond DE.2 (aF ((C6.length+1)*16<=140737488355328/\C6.length+1<=140737488355328) (
    Rt EP (SC p1 n dP eI i8 x39 x43 x47 x51 nU m4) C7 (C6++[(m6.mk DE.1 G7.To)]))) (aF ((C7.length+1)*16<=140737488355328/\C7.length+1<=140737488355328) (
    Rt EP (SC p1 n dP eI i8 x39 x43 x47 x51 nU m4) (C7++[G7]) C6))) (Ro p1 dP eI i8 x39 x43 nU C7 C6)
def Rs(u6:Int)(XN:Int->(X Int)->V ((X Int)))(AZ:X Int):V ((X Int)):=
 XN (IntKind.i64.wrap (u6+1)) AZ
def Rp(p1:X aO)(n:Nat)(dP:Int)(bU:X m6)(eI:X (X aR))(i8:Int->(X m6)->(X (X aR))->(X Int)->V ((X Int)))(x39:Int)(x43:Int)(x47:Int)(x51:Int)(nU:X Int):V ((X Int)):=
 a8 (i9 eI 0 ((p1.length:Int).toNat) (if x43<x39 then x43 else x39)) fun MI=>
 aF (MI.length*16<=140737488355328/\MI.length<=140737488355328) (
 SC p1 n dP eI i8 x39 x43 x47 x51 nU n 0 MI bU)
def O7(p1:X aO)(n:Nat)(dP:Int)(bU:X m6)(eI:X (X aR))(i8:Int->(X m6)->(X (X aR))->(X Int)->V ((X Int)))(x39:Int)(x43:Int)(x47:Int)(x51:Int):Nat->Int->(X Int)->V ((X Int))
 |0,_,_=>none|m3+1,u6,wM=>cond (decide (u6<(wM.length:Int))) (a8 (aB wM u6) fun Lw=>cond (Lw==(if x51>x47 then x51 else x47)) (a8 (aB wM u6) fun aw=>Rs u6 (O7 p1 n dP bU eI i8 x39 x43 x47 x51 m3) (wM.set (0+u6.toNat) (if x43<x39 then x43 else x39))) (Rs u6 (O7 p1 n dP bU eI i8 x39 x43 x47 x51 m3) wM)) (Rp p1 n dP bU eI i8 x39 x43 x47 x51 wM)
def lp  (qI:X m6) (rD:X (X aR)) (T7:X Int):V ((X Int)):=
 some T7
def AS(p1:X aO)(n:Nat):Nat->Int->(X m6)->(X (X aR))->(X Int)->V ((X Int))
 |0,_,_,_,_=>none|m2+1,dP,bU,eI,kN=>
  cond (decide (dP<(bU.length:Int))) (a8 (aB bU dP) fun iW=>
   a8 (aB kN iW.E0) fun x39=>
   a8 (aB bU dP) fun sQ=>
   a8 (aB kN sQ.E1) fun x43=>
   a8 (aB bU dP) fun Fo=>
   a8 (aB kN Fo.E0) fun x47=>
   a8 (aB bU dP) fun pY=>
   a8 (aB kN pY.E1) fun x51=>cond ((if x43<x39 then x43 else x39)==(if x51>x47 then x51 else x47)) ((AS p1 n m2) (IntKind.i64.wrap (dP+1)) bU eI kN) (O7 p1 n dP bU eI (AS p1 n m2) x39 x43 x47 x51 n 0 kN)) (lp bU eI kN)
def Rr(kG:Int)(AX:X (X aR))(cA:Int->(X m6)->(X (X aR))->V ((X Int)))(u7:aO)(AY:X m6):V ((X Int)):=
 cA (IntKind.i64.wrap (kG+1)) AY (AX.set kG.toNat u7.Arcs)
def Rq(p1:X aO)(n:Nat)(r3:X Int)(m7:X m6)(gQ:X (X aR)):V ((X Int)):=
 AS p1 n n 0 m7 gQ r3
def SD(p1:X aO)(p2:X Int)(n:Nat)(r3:X Int):Nat->Int->(X m6)->(X (X aR))->V ((X Int))
 |0,_,_,_=>none|m1+1,kG,dA,AX=>
  cond (decide (kG<(p1.length:Int))) (a8 (aB p1 kG) fun u7=>
   a8 (i9 AX 0 ((p1.length:Int).toNat) kG) fun av=>
   a8 (aB p2 kG) fun Lv=>cond (Lv != kG) (a8 (aB p2 kG) fun MM=>
    aF ((dA.length+1)*16<=140737488355328/\dA.length+1<=140737488355328) (
    Rr kG AX (SD p1 p2 n r3 m1) u7 (dA++[(m6.mk kG MM)]))) (Rr kG AX (SD p1 p2 n r3 m1) u7 dA)) (Rq p1 n r3 dA AX)
def Qi(n:Nat)(p1:X aO)(p2:X Int):V ((X Int)):=
 a8 (Ie n (p1.length:Int)) fun r3=>
 aF (0<=(p1.length:Int)/\24*(p1.length:Int).toNat<=281474976710656/\(p1.length:Int)<=281474976710656) (
 SD p1 p2 n r3 n 0 ([]:X m6) (List.replicate (p1.length:Int).toNat []))
theorem qpe(n:Nat)(p1:X aO)(p2:X Int)(r:(X Int))(O:Qi n p1 p2=some r):cY prog 135 [.isl false (p1.map b7),.isl false (p2.map (cI .i64))] (.isl false (r.map (cI .i64))):=by unfold Qi at O;refine eL 161 UX ?_;obtain⟨r3,h4,O⟩:=aI O;refine go ?_;refine nF (R:=fun u Y'=>u=.vl 0 0 0 r3.length/\Y'=⟨[(0,.bv (cI .i64) r3 3 1 0)],1⟩) (args:=[.i6 (p1.length:Int)]) rfl (yN rfl rfl J4 rfl rfl rfl) (qp (cI .i64) (qig n (p1.length:Int) r3 h4) _ 0 rfl) rfl rfl ?_;rintro _ _ ⟨rfl,rfl⟩;obtain⟨h5,O⟩:=c6 O;refine go ?_;refine aY (u:=.sl 1 0 ((p1.length:Int).toNat) ((p1.length:Int).toNat)) (Y':=⟨[(1,.row (List.map (cL bF) (List.replicate (p1.length:Int).toNat [])).flatten 77),(0,.bv (cI .i64) r3 3 1 0)],2⟩) rfl (Oe (cL bF) [] rfl rfl qP.h lP.h rfl rfl rfl rfl h5) ?_;refine gr ?_;refine gr ?_;refine gV 7 58 2 3 ?_;refine gL (fun m tm Y=>∃kG dA,∃fK AX,SD p1 p2 n r3 m kG dA AX=some r/\tm=fr 161 [(0,.iM b7 p1),(1,.iM (cI .i64) p2),(5,.vl 0 0 0 r3.length),(6,.sl 1 0 ((p1.length:Int).toNat) ((p1.length:Int).toNat)),(7,.vl 2 fK 0 dA.length),(8,.i6 kG)]/\Y=⟨tQ dA fK (.row (AX.map (cL bF)).flatten 77) r3,3⟩) (fun tm Y=>∃m7 y4 gQ,Rq p1 n r3 m7 gQ=some r/\tm=fr 161 [(5,.vl 0 0 0 r3.length),(6,.sl 1 0 ((p1.length:Int).toNat) ((p1.length:Int).toNat)),(7,.vl 2 y4 0 m7.length)]/\Y=⟨tQ m7 y4 (.row (gQ.map (cL bF)).flatten 77) r3,3⟩) n ⟨0,([]:X m6),0,(List.replicate (p1.length:Int).toNat []),O,rfl,rfl⟩ ?_ ?_;rintro _ _ ⟨m7,y4,gQ,O,rfl,rfl⟩;unfold Rq at O;refine go ?_;refine gL (fun m tm Y=>∃dP bU,∃iX eI kN,AS p1 n m dP bU eI kN=some r/\tm=fr 161 [(5,.vl 0 0 0 kN.length),(6,.sl 1 0 ((p1.length:Int).toNat) ((p1.length:Int).toNat)),(7,.vl 2 iX 0 bU.length),(9,.i6 dP)]/\Y=⟨tQ bU iX (.row (eI.map (cL bF)).flatten 77) kN,3⟩) (fun tm Y=>∃qI EW,∃rD T7,lp qI rD T7=some r/\tm=fr 161 [(5,.vl 0 0 0 T7.length)]/\Y=⟨tQ qI EW (.row (rD.map (cL bF)).flatten 77) T7,3⟩) n ⟨0,m7,y4,gQ,r3,O,rfl,rfl⟩ ?_ ?_;rintro _ _ ⟨qI,EW,rD,T7,O,rfl,rfl⟩;unfold lp at O;refine go ?_;obtain rfl:=sI O;exact rT (us:=[.vl 0 0 0 T7.length]) (u:=.iM (cI .i64) T7) (dT rfl (eD)) (fR 0 1);rintro(_|m2) _ _ ⟨dP,bU,iX,eI,kN,O,rfl,rfl⟩;cases O;unfold AS at O;refine gF O ?_ ?_<;>intro xN O;refine go ?_;apply cE;obtain⟨iW,lE,x39,xM,sQ,vS,x43,kS,O⟩:=qZ O;refine go ?_;refine dE [] ?_;refine gd ?_;refine aV rfl (dZ rfl rfl (kC AQ MP.h (bB OM.h) qq3 NV (vo rfl) lE)) ?_;refine aV rfl (dZ rfl rfl (Ge MQ.h (bB iG.h) (DK rfl) qq3 rfl)) ?_;refine aV (u:=.i6 iW.E0) rfl (F7 AQ sD.h rfl NV rfl rfl (AN lE) rfl) ?_;refine aV rfl (dZ rfl rfl (kC (cI .i64) cU.h (bB iG.h) qq3 (mC .i64) (vo rfl) xM)) ?_;refine aV rfl (sY (cI .i64) (fun x=>.i6 x) sD.h rfl (fun _=>rfl) rfl rfl xM) ?_;refine gd ?_;refine aV rfl (dZ rfl rfl (kC AQ MP.h (bB OM.h) qq3 NV (vo rfl) vS)) ?_;refine aV rfl (dZ rfl rfl (Ge MQ.h (bB iG.h) (DK rfl) qq3 rfl)) ?_;refine aV (u:=.i6 sQ.E1) rfl (F7 AQ sD.h rfl NV rfl rfl (AN vS) rfl) ?_;refine aV rfl (dZ rfl rfl (kC (cI .i64) cU.h (bB iG.h) qq3 (mC .i64) (vo rfl) kS)) ?_;refine aV rfl (sY (cI .i64) (fun x=>.i6 x) sD.h rfl (fun _=>rfl) rfl rfl kS) (aV (u:=.i6 (if x43<x39 then x43 else x39)) rfl (aa rfl rfl rfl rfl rfl rfl rfl) ?_);refine gd ?_;refine bC ⟨by kernel_rfl,trivial,?_⟩;obtain⟨Fo,Lb,x47,La,pY,Xl,x51,Df,O⟩:=qZ O;refine go ?_;refine dE [] ?_;refine gd ?_;refine aV rfl (dZ rfl rfl (kC AQ MP.h (bB OM.h) qq3 NV (vo rfl) Lb)) ?_;refine aV rfl (dZ rfl rfl (Ge MQ.h (bB iG.h) (DK rfl) qq3 rfl)) ?_;refine aV (u:=.i6 Fo.E0) rfl (F7 AQ sD.h rfl NV rfl rfl (AN Lb) rfl) ?_;refine aV rfl (dZ rfl rfl (kC (cI .i64) cU.h (bB iG.h) qq3 (mC .i64) (vo rfl) La)) ?_;refine aV rfl (sY (cI .i64) (fun x=>.i6 x) sD.h rfl (fun _=>rfl) rfl rfl La) ?_;refine gd ?_;refine aV rfl (dZ rfl rfl (kC AQ MP.h (bB OM.h) qq3 NV (vo rfl) Xl)) ?_;refine aV rfl (dZ rfl rfl (Ge MQ.h (bB iG.h) (DK rfl) qq3 rfl)) ?_;refine aV (u:=.i6 pY.E1) rfl (F7 AQ sD.h rfl NV rfl rfl (AN Xl) rfl) ?_;refine aV rfl (dZ rfl rfl (kC (cI .i64) cU.h (bB iG.h) qq3 (mC .i64) (vo rfl) Df)) ?_;refine aV rfl (sY (cI .i64) (fun x=>.i6 x) sD.h rfl (fun _=>rfl) rfl rfl Df) (aV (u:=.i6 (if x51>x47 then x51 else x47)) rfl (z81 rfl rfl rfl rfl rfl rfl rfl) ?_);refine gd ?_;refine bC ⟨by kernel_rfl,trivial,?_⟩;refine gF O ?_ ?_<;>intro h53 O;refine go ?_;exact lC ⟨_,bU,iX,eI,kN,O,rfl,rfl⟩;refine go ?_;refine gL (fun m tm Y=>∃u6 wM,O7 p1 n dP bU eI (AS p1 n m2) x39 x43 x47 x51 m u6 wM=some r/\tm=fr 161 [(5,.vl 0 0 0 wM.length),(6,.sl 1 0 ((p1.length:Int).toNat) ((p1.length:Int).toNat)),(7,.vl 2 iX 0 bU.length),(9,.i6 dP),(10,.i6 (if x43<x39 then x43 else x39)),(11,.i6 (if x51>x47 then x51 else x47)),(12,.i6 u6)]/\Y=⟨tQ bU iX (.row (eI.map (cL bF)).flatten 77) wM,3⟩) (fun tm Y=>∃nU,Rp p1 n dP bU eI (AS p1 n m2) x39 x43 x47 x51 nU=some r/\tm=fr 161 [(5,.vl 0 0 0 nU.length),(6,.sl 1 0 ((p1.length:Int).toNat) ((p1.length:Int).toNat)),(7,.vl 2 iX 0 bU.length),(9,.i6 dP),(10,.i6 (if x43<x39 then x43 else x39)),(11,.i6 (if x51>x47 then x51 else x47))]/\Y=⟨tQ bU iX (.row (eI.map (cL bF)).flatten 77) nU,3⟩) n ⟨0,kN,O,rfl,rfl⟩ ?_ ?_;rintro _ _ ⟨nU,O,rfl,rfl⟩;unfold Rp at O;obtain⟨MI,h67,O⟩:=aI O;obtain⟨h68,O⟩:=c6 O;refine go ?_;refine aY (u:=.sl 3 0 0 0) (Y':=⟨(3,.row [] 105)::tQ bU iX (.row (eI.map (cL bF)).flatten 77) nU,4⟩) rfl (yJ fS.h hX.h rfl rfl rfl rfl rfl rfl rfl) ?_;refine go ?_;refine aY rfl (dZ rfl rfl (sW qP.h (bB lP.h) rfl h67)) (aY (u:=.iM bF MI) rfl (C2 (cL bF) (fun x=>.iM bF x) fS.h rfl (fun _=>rfl) rfl rfl h67) (aY (u:=.vl 4 0 0 MI.length) (Y':=⟨(4,.bv bF MI 105 2 0)::(3,.row [] 105)::tQ bU iX (.row (eI.map (cL bF)).flatten 77) nU,5⟩) rfl (pQ rfl rfl rfl rfl (YE bF MI fS.h fS.h hX.h rfl rfl rfl (NB bF vI) h68)) ?_));refine go ?_;refine gL (fun m tm Y=>∃EP C7,∃XC C6 XB,SC p1 n dP eI (AS p1 n m2) x39 x43 x47 x51 nU m EP C7 C6=some r/\tm=fr 161 [(5,.vl 0 0 0 nU.length),(6,.sl 1 0 ((p1.length:Int).toNat) ((p1.length:Int).toNat)),(7,.vl 2 XB 0 C6.length),(9,.i6 dP),(10,.i6 (if x43<x39 then x43 else x39)),(11,.i6 (if x51>x47 then x51 else x47)),(13,.vl 4 XC 0 C7.length),(14,.i6 EP)]/\Y=⟨(4,.bv bF C7 105 2 XC)::(3,.row [] 105)::tQ C6 XB (.row (eI.map (cL bF)).flatten 77) nU,5⟩) (fun tm Y=>∃LM zn,∃HL QS,Ro p1 dP eI (AS p1 n m2) x39 x43 nU LM HL=some r/\tm=fr 161 [(5,.vl 0 0 0 nU.length),(6,.sl 1 0 ((p1.length:Int).toNat) ((p1.length:Int).toNat)),(7,.vl 2 QS 0 HL.length),(9,.i6 dP),(10,.i6 (if x43<x39 then x43 else x39)),(13,.vl 4 zn 0 LM.length)]/\Y=⟨(4,.bv bF LM 105 2 zn)::(3,.row [] 105)::tQ HL QS (.row (eI.map (cL bF)).flatten 77) nU,5⟩) n ⟨0,MI,0,bU,iX,O,rfl,rfl⟩ ?_ ?_;rintro _ _ ⟨LM,zn,HL,QS,O,rfl,rfl⟩;unfold Ro at O;refine gn ?_;refine dF (tm':=fr 161 [(5,.vl 0 0 0 nU.length),(6,.sl 1 0 ((p1.length:Int).toNat) ((p1.length:Int).toNat)),(7,.vl 2 QS 0 HL.length),(9,.i6 dP),(10,.i6 (if x43<x39 then x43 else x39)),(13,.iM bF LM)]) (Y':=⟨(3,.row [] 105)::tQ HL QS (.row (eI.map (cL bF)).flatten 77) nU,5⟩) (Gh.trans (Gh.sub (l':=[(5,.vl 0 0 0 nU.length),(6,.sl 1 0 ((p1.length:Int).toNat) ((p1.length:Int).toNat)),(7,.vl 2 QS 0 HL.length),(9,.i6 dP),(10,.i6 (if x43<x39 then x43 else x39)),(13,.vl 4 zn 0 LM.length)]) ⟨rfl,rfl,rfl,rfl,rfl,rfl,trivial⟩) (JV 4 2)) NZ ?_;obtain⟨x89,h90,O⟩:=aI O;refine go ?_;refine aY rfl (dZ rfl rfl (sW qP.h (bB lP.h) rfl h90)) (RS.opn (u:=.junk) (Y':=⟨(3,.row [] 105)::tQ HL QS (.row (List.map (cL bF) (eI.set (if x43<x39 then x43 else x39).toNat LM)).flatten 77) nU,5⟩) rfl (XT (cL bF) (bB lP.h) (RJ bF) rfl rfl rfl rfl rfl rfl h90 rfl) rfl ?_);refine go ?_;exact lC ⟨_,HL,QS,(eI.set (if x43<x39 then x43 else x39).toNat LM),nU,O,rfl,rfl⟩;rintro(_|m4) _ _ ⟨EP,C7,XC,C6,XB,O,rfl,rfl⟩;cases O;unfold SC at O;obtain⟨ao,h92,O⟩:=aI O;refine go ?_;refine aY rfl (dZ rfl rfl (sW qP.h (bB lP.h) rfl h92)) (aY (u:=.iM bF ao) rfl (C2 (cL bF) (fun x=>.iM bF x) fS.h rfl (fun _=>rfl) rfl rfl h92) ?_);refine gF O ?_ ?_<;>intro h93 O;refine go ?_;apply cE;obtain⟨an,h95,G7,h97,O⟩:=bO O;refine go ?_;refine aY rfl (dZ rfl rfl (sW qP.h (bB lP.h) rfl h95)) (aY (u:=.iM bF an) rfl (C2 (cL bF) (fun x=>.iM bF x) fS.h rfl (fun _=>rfl) rfl rfl h95) ?_);refine go ?_;refine cB h97 ?_;obtain⟨zk,h99,DE,h101,O⟩:=bO O;refine go ?_;refine dE [] ?_;refine gd ?_;refine aV rfl (dZ rfl rfl (sW qP.h (bB lP.h) rfl h99)) (aV (u:=.iM bF zk) rfl (C2 (cL bF) (fun x=>.iM bF x) fS.h rfl (fun _=>rfl) rfl rfl h99) ?_);refine gd ?_;refine dK rfl (pC (qmx n zk G7.Feat DE h101)) UH ?_;refine gd ?_;refine bC ⟨by kernel_rfl,trivial,?_⟩;refine gr ?_;refine tF (fun tm Y=>∃B1 MX,∃B0 MW,Rt EP (SC p1 n dP eI (AS p1 n m2) x39 x43 x47 x51 nU m4) B1 B0=some r/\tm=fr 161 [(5,.vl 0 0 0 nU.length),(6,.sl 1 0 ((p1.length:Int).toNat) ((p1.length:Int).toNat)),(7,.vl 2 MW 0 B0.length),(9,.i6 dP),(10,.i6 (if x43<x39 then x43 else x39)),(11,.i6 (if x51>x47 then x51 else x47)),(13,.vl 4 MX 0 B1.length),(14,.i6 EP)]/\Y=⟨(5,.row (bF G7) 105)::(4,.bv bF B1 105 2 MX)::(3,.row [] 105)::tQ B0 MW (.row (eI.map (cL bF)).flatten 77) nU,6⟩) ?_ ?_;rintro _ _ ⟨B1,MX,B0,MW,O,rfl,rfl⟩;unfold Rt at O;refine go ?_;exact lC ⟨_,B1,MX,B0,MW,O,rfl,rfl⟩;refine cF O ?_ ?_<;>intro h102 O;obtain⟨h107,O⟩:=c6 O;refine go ?_;refine aY (u:=.agg [.i6 DE.1,.i6 G7.To]) rfl (YG rfl qq1) ?_;refine c5 ?_;refine c5 ?_;refine go ?_;exact xC ⟨C7,XC,(C6++[(m6.mk DE.1 G7.To)]),(XB+1),O,rfl,rfl⟩;obtain⟨h108,O⟩:=c6 O;refine go ?_;refine aY (u:=.sl 6 0 1 1) (Y':=⟨(6,.row (bF G7) 105)::(5,.row (bF G7) 105)::(4,.bv bF C7 105 2 XC)::(3,.row [] 105)::tQ C6 XB (.row (eI.map (cL bF)).flatten 77) nU,7⟩) rfl (yJ fS.h hX.h rfl rfl rfl rfl rfl rfl rfl) ?_;refine c5 ?_;refine go ?_;exact xC ⟨(C7++[G7]),(XC+1),C6,XB,O,rfl,rfl⟩;refine go ?_;exact xC ⟨C7,XC,C6,XB,O,rfl,rfl⟩;rintro(_|m3) _ _ ⟨u6,wM,O,rfl,rfl⟩;cases O;unfold O7 at O;refine gF O ?_ ?_<;>intro h109 O;refine go ?_;apply cE;obtain⟨Lw,Xo,O⟩:=aI O;refine go ?_;refine aY rfl (dZ rfl rfl (kC (cI .i64) cU.h (bB iG.h) qq3 (mC .i64) (vo rfl) Xo)) ?_;refine aY rfl (sY (cI .i64) (fun x=>.i6 x) sD.h rfl (fun _=>rfl) rfl rfl Xo) ?_;refine gn ?_;refine tF (fun tm Y=>∃AZ,Rs u6 (O7 p1 n dP bU eI (AS p1 n m2) x39 x43 x47 x51 m3) AZ=some r/\tm=fr 161 [(5,.vl 0 0 0 AZ.length),(6,.sl 1 0 ((p1.length:Int).toNat) ((p1.length:Int).toNat)),(7,.vl 2 iX 0 bU.length),(9,.i6 dP),(10,.i6 (if x43<x39 then x43 else x39)),(11,.i6 (if x51>x47 then x51 else x47)),(12,.i6 u6)]/\Y=⟨tQ bU iX (.row (eI.map (cL bF)).flatten 77) AZ,3⟩) ?_ ?_;rintro _ _ ⟨AZ,O,rfl,rfl⟩;unfold Rs at O;refine go ?_;exact lC ⟨_,AZ,O,rfl,rfl⟩;refine cF O ?_ ?_<;>intro h112 O;obtain⟨aw,Xn,O⟩:=aI O;refine gn ?_;refine tF (fun tm Y=>tm=fr 161 [(5,.vl 0 0 0 ((wM.set (0+u6.toNat) (if x43<x39 then x43 else x39)).length)),(6,.sl 1 0 ((p1.length:Int).toNat) ((p1.length:Int).toNat)),(7,.vl 2 iX 0 bU.length),(9,.i6 dP),(10,.i6 (if x43<x39 then x43 else x39)),(11,.i6 (if x51>x47 then x51 else x47)),(12,.i6 u6)]/\Y=⟨tQ bU iX (.row (eI.map (cL bF)).flatten 77) (wM.set (0+u6.toNat) (if x43<x39 then x43 else x39)),3⟩) ?_ ?_;rintro _ _ ⟨rfl,rfl⟩;refine go ?_;exact xC ⟨(wM.set (0+u6.toNat) (if x43<x39 then x43 else x39)),O,rfl,rfl⟩;refine go ?_;refine aY rfl (dZ rfl rfl (kC (cI .i64) cU.h (bB iG.h) qq3 (mC .i64) (vo rfl) Xn)) ?_;refine RS.opn (u:=.junk) (Y':=⟨tQ bU iX (.row (eI.map (cL bF)).flatten 77) (wM.set (0+u6.toNat) (if x43<x39 then x43 else x39)),3⟩) rfl (tf (cI .i64) (bB iG.h) (mC .i64) rfl rfl rfl rfl rfl rfl rfl (AN Xn) rfl) rfl ?_;refine go ?_;exact⟨_,_,⟨rfl,rfl⟩,NZ,D7 ⟨(by simp only[tQ,List.length_set];rfl),rfl,rfl,rfl,rfl,rfl,rfl,trivial⟩ rfl⟩;refine go ?_;exact xC ⟨wM,O,rfl,rfl⟩;refine go ?_;exact xC ⟨wM,O,rfl,rfl⟩;refine go ?_;exact xC ⟨bU,iX,eI,kN,O,rfl,rfl⟩;rintro(_|m1) _ _ ⟨kG,dA,fK,AX,O,rfl,rfl⟩;cases O;unfold SD at O;refine gF O ?_ ?_<;>intro h116 O;refine go ?_;apply cE;obtain⟨u7,h118,av,Xm,O⟩:=bO O;refine go ?_;refine cB h118 ?_;refine go ?_;refine aY rfl (dZ rfl rfl (sW qP.h (bB lP.h) rfl Xm)) (RS.opn (u:=.junk) (Y':=⟨tQ dA fK (.row (List.map (cL bF) (AX.set kG.toNat u7.Arcs)).flatten 77) r3,3⟩) rfl (XT (cL bF) (bB lP.h) (RJ bF) rfl rfl rfl rfl rfl rfl Xm rfl) rfl ?_);obtain⟨Lv,h122,O⟩:=aI O;refine go ?_;refine cB h122 ?_;refine gn ?_;refine tF (fun tm Y=>∃AY MV,Rr kG AX (SD p1 p2 n r3 m1) u7 AY=some r/\tm=fr 161 [(0,.iM b7 p1),(1,.iM (cI .i64) p2),(5,.vl 0 0 0 r3.length),(6,.sl 1 0 ((p1.length:Int).toNat) ((p1.length:Int).toNat)),(7,.vl 2 MV 0 AY.length),(8,.i6 kG)]/\Y=⟨tQ AY MV (.row (List.map (cL bF) (AX.set kG.toNat u7.Arcs)).flatten 77) r3,3⟩) ?_ ?_;rintro _ _ ⟨AY,MV,O,rfl,rfl⟩;unfold Rr at O;refine go ?_;exact lC ⟨_,AY,MV,(AX.set kG.toNat u7.Arcs),O,rfl,rfl⟩;refine cF O ?_ ?_<;>intro h123 O;obtain⟨MM,h127,O⟩:=aI O;obtain⟨h128,O⟩:=c6 O;refine go ?_;refine cB h127 ?_;refine go ?_;refine aY (u:=.agg [.i6 kG,.i6 MM]) rfl (YG rfl qq1) ?_;refine c5 ?_;refine c5 ?_;refine go ?_;exact xC ⟨(dA++[(m6.mk kG MM)]),(fK+1),O,rfl,rfl⟩;refine go ?_;exact xC ⟨dA,fK,O,rfl,rfl⟩;refine go ?_;exact xC ⟨dA,fK,AX,O,rfl,rfl⟩
def Rn(dS:Int)(cA:Int->(X Int)->V ((X Int)))(p9:X Int):V ((X Int)):=
 cA (IntKind.i64.wrap (dS+1)) p9
def ln  (gQ:X Int):V ((X Int)):=
 some gQ
def O6(x4:Int)(x6:Int)(x8:Int)(x10:Int):Nat->Int->(X Int)->V ((X Int))
 |0,_,_=>none|m1+1,dS,lD=>cond (decide (dS<(lD.length:Int))) (a8 (aB lD dS) fun oW=>cond (oW==(if x10>x8 then x10 else x8)) (a8 (aB lD dS) fun MJ=>Rn dS (O6 x4 x6 x8 x10 m1) (lD.set (0+dS.toNat) (if x6<x4 then x6 else x4))) (Rn dS (O6 x4 x6 x8 x10 m1) lD)) (ln lD)
def Qh(n:Nat)(p1:X Int)(p2:Int)(p3:Int):V ((X Int)):=
 a8 (aB p1 p2) fun x4=>
 a8 (aB p1 p3) fun x6=>
 a8 (aB p1 p2) fun x8=>
 a8 (aB p1 p3) fun x10=>
 aF (p1.length*8<=140737488355328/\p1.length<=140737488355328) (
 O6 x4 x6 x8 x10 n 0 p1)
theorem qpf(n:Nat)(p1:X Int)(p2:Int)(p3:Int)(r:(X Int))(O:Qh n p1 p2 p3=some r):cY prog 136 [.isl false (p1.map (cI .i64)),.int .i64 p2,.int .i64 p3] (.isl false (r.map (cI .i64))):=by unfold Qh at O;refine xU 49 UW ?_;obtain⟨x4,h5,x6,h7,O⟩:=bO O;refine go ?_;refine dE [] ?_;refine gd ?_;refine dU h5 ?_;refine gd ?_;refine dU h7 ?_;refine gd ?_;refine aV (u:=.i6 (if x6<x4 then x6 else x4)) rfl (aa rfl rfl rfl rfl rfl rfl rfl) ?_;refine gd ?_;refine bC ⟨by kernel_rfl,trivial,?_⟩;obtain⟨x8,h9,x10,jT,O⟩:=bO O;refine go ?_;refine dE [] ?_;refine gd ?_;refine dU h9 ?_;refine gd ?_;refine dU jT ?_;refine gd ?_;refine aV (u:=.i6 (if x10>x8 then x10 else x8)) rfl (z81 rfl rfl rfl rfl rfl rfl rfl) ?_;refine gd ?_;refine bC ⟨by kernel_rfl,trivial,?_⟩;obtain⟨g9,O⟩:=c6 O;refine go ?_;refine aY (u:=.sl 0 0 0 0) (Y':=⟨[(0,.row [] 3)],1⟩) rfl (yJ cU.h iG.h rfl rfl rfl rfl rfl rfl rfl) ?_;refine go ?_;refine aY (u:=.vl 1 0 0 p1.length) (Y':=⟨YJ p1,2⟩) rfl (pQ rfl rfl rfl rfl (YE (cI .i64) p1 cU.h cU.h iG.h rfl rfl rfl (NB (cI .i64) (mC .i64)) g9)) ?_;refine go ?_;refine gL (fun m tm Y=>∃dS lD,O6 x4 x6 x8 x10 m dS lD=some r/\tm=fr 49 [(7,.i6 (if x6<x4 then x6 else x4)),(8,.i6 (if x10>x8 then x10 else x8)),(9,.vl 1 0 0 lD.length),(10,.i6 dS)]/\Y=⟨YJ lD,2⟩) (fun tm Y=>∃gQ,ln gQ=some r/\tm=fr 49 [(9,.vl 1 0 0 gQ.length)]/\Y=⟨YJ gQ,2⟩) n ⟨0,p1,O,rfl,rfl⟩ ?_ ?_;rintro _ _ ⟨gQ,O,rfl,rfl⟩;unfold ln at O;refine go ?_;obtain rfl:=sI O;exact rT (us:=[.vl 1 0 0 gQ.length]) (u:=.iM (cI .i64) gQ) (dT rfl (eD)) (fR 1 1);rintro(_|m1) _ _ ⟨dS,lD,O,rfl,rfl⟩;cases O;unfold O6 at O;refine gF O ?_ ?_<;>intro tU O;refine go ?_;apply cE;obtain⟨oW,tD,O⟩:=aI O;refine go ?_;refine aY rfl (dZ rfl rfl (kC (cI .i64) cU.h (bB iG.h) qq3 (mC .i64) (vo rfl) tD)) ?_;refine aY rfl (sY (cI .i64) (fun x=>.i6 x) sD.h rfl (fun _=>rfl) rfl rfl tD) ?_;refine gn ?_;refine tF (fun tm Y=>∃p9,Rn dS (O6 x4 x6 x8 x10 m1) p9=some r/\tm=fr 49 [(7,.i6 (if x6<x4 then x6 else x4)),(8,.i6 (if x10>x8 then x10 else x8)),(9,.vl 1 0 0 p9.length),(10,.i6 dS)]/\Y=⟨YJ p9,2⟩) ?_ ?_;rintro _ _ ⟨p9,O,rfl,rfl⟩;unfold Rn at O;refine go ?_;exact lC ⟨_,p9,O,rfl,rfl⟩;refine cF O ?_ ?_<;>intro pJ O;obtain⟨MJ,EG,O⟩:=aI O;refine gn ?_;refine tF (fun tm Y=>tm=fr 49 [(7,.i6 (if x6<x4 then x6 else x4)),(8,.i6 (if x10>x8 then x10 else x8)),(9,.vl 1 0 0 ((lD.set (0+dS.toNat) (if x6<x4 then x6 else x4)).length)),(10,.i6 dS)]/\Y=⟨YJ (lD.set (0+dS.toNat) (if x6<x4 then x6 else x4)),2⟩) ?_ ?_;rintro _ _ ⟨rfl,rfl⟩;refine go ?_;exact xC ⟨(lD.set (0+dS.toNat) (if x6<x4 then x6 else x4)),O,rfl,rfl⟩;refine go ?_;refine aY rfl (dZ rfl rfl (kC (cI .i64) cU.h (bB iG.h) qq3 (mC .i64) (vo rfl) EG)) ?_;refine RS.opn (u:=.junk) (Y':=⟨YJ (lD.set (0+dS.toNat) (if x6<x4 then x6 else x4)),2⟩) rfl (tf (cI .i64) (bB iG.h) (mC .i64) rfl rfl rfl rfl rfl rfl rfl (AN EG) rfl) rfl ?_;refine go ?_;exact⟨_,_,⟨rfl,rfl⟩,NZ,D7 ⟨rfl,rfl,(by simp only[YJ,List.length_set];rfl),rfl,trivial⟩ rfl⟩;refine go ?_;exact xC ⟨lD,O,rfl,rfl⟩;refine go ?_;exact xC ⟨lD,O,rfl,rfl⟩
def yq: V (Int×PE):=
 some (0,false)
def YX(p1:cZ)(p2:X Int)(n:Nat):Nat->Int->V (Int×PE)
 |0,_=>none|m1+1,z7=>cond (decide (z7<(p1.Types.length:Int))) (a8 (aB p1.Types z7) fun x9=>a8 (NR n x9.Code p2) fun qB=>cond qB (some (z7,true)) ((YX p1 p2 n m1) (IntKind.i64.wrap (z7+1)))) (yq)
def ku(n:Nat)(p1:cZ)(p2:X Int):V (Int×PE):=
 YX p1 p2 n n 0
theorem qrq(n:Nat)(p1:cZ)(p2:X Int)(r:Int×PE)(O:ku n p1 p2=some r):cY prog 174 [.agg (gE p1),.isl false (p2.map (cI .u64))] (.tup [.int .i64 r.1,.bool r.2]):=by unfold ku at O;refine eL 23 UE ?_;refine go ?_;refine gL (fun m tm Y=>∃z7,YX p1 p2 n m z7=some r/\tm=fr 23 [(1,.iM (cI .u64) p2),(2,.ptr 0 0 0),(6,.i6 z7)]/\Y=⟨[(0,.row (gE p1) 27)],1⟩) (fun tm Y=>yq=some r/\tm=fr 23 []/\Y=⟨[(0,.row (gE p1) 27)],1⟩) n ⟨0,O,rfl,rfl⟩ ?_ ?_;rintro _ _ ⟨O,rfl,rfl⟩;unfold yq at O;refine go ?_;obtain rfl:=sI O;exact y5 rfl rfl rfl rfl rfl;rintro(_|m1) _ _ ⟨z7,O,rfl,rfl⟩;cases O;unfold YX at O;refine gF O ?_ ?_<;>intro h8 O;refine go ?_;apply cE;obtain⟨x9,gC,qB,g9,O⟩:=bO O;refine go ?_;refine cB gC ?_;refine go ?_;refine aK rfl (pC (z? n x9.Code p2 qB g9) _) CY ?_;refine gF O ?_ ?_<;>intro eB O;refine go ?_;obtain rfl:=sI O;exact y5 rfl rfl rfl rfl rfl;refine go ?_;exact lC ⟨_,O,rfl,rfl⟩;refine go ?_;exact xC ⟨O,rfl,rfl⟩
def Px(n:Nat)(p1:cZ)(p2:Int)(p3:Int):V (Int×PE):=
 a8 (aB p1.Types p2) fun x4=>
 a8 (aB p1.Types p3) fun x6=>
 a8 (H8 n x4.Code x6.Code) fun r8=>
 a8 (ku n p1 r8) fun nQ=>some (nQ.1,nQ.2)
theorem qrp(n:Nat)(p1:cZ)(p2:Int)(p3:Int)(r:Int×PE)(O:Px n p1 p2 p3=some r):cY prog 165 [.agg (gE p1),.int .i64 p2,.int .i64 p3] (.tup [.int .i64 r.1,.bool r.2]):=by unfold Px at O;refine xU 25 UG ?_;obtain⟨x4,h5,x6,h7,r8,h9,nQ,jT,O⟩:=qZ O;refine go ?_;refine dE [] ?_;refine gd ?_;refine dU h5 ?_;refine gd ?_;refine dU h7 ?_;refine gd ?_;refine dK rfl (pC (o? n x4.Code x6.Code r8 h9)) CZ (dK rfl (pC (qrq n p1 r8 nQ jT)) UE ?_);refine gd ?_;refine bC ⟨by kernel_rfl,trivial,?_⟩;refine go ?_;obtain rfl:=sI O;exact y5 rfl rfl rfl rfl rfl
def lm(p2:X aO)(uE:X Int):V ((X Int)×PE):=
 aF ((p2.length:Int).toNat=uE.length) (some (uE,true))
def Ja(p2:X aO)(p3:X Int):Nat->Int->(X Int)->V ((X Int)×PE)
 |0,_,_=>none|m2+1,eU,pA=>
  cond (decide (eU<(p2.length:Int))) (a8 (aB p3 eU) fun ET=>
   a8 (i9 pA 0 ((p2.length:Int).toNat) ET) fun y3=>
   a8 (i9 pA 0 ((p2.length:Int).toNat) eU) fun uU=>(Ja p2 p3 m2) (IntKind.i64.wrap (eU+1)) (pA.set eU.toNat y3)) (lm p2 pA)
def Rl(p2:X aO)(p3:X Int)(n:Nat)(c7:X Int):V ((X Int)×PE):=
 Ja p2 p3 n 0 c7
def Z1(p1:cZ)(p2:X aO)(p3:X Int)(n:Nat):Nat->Int->(X Int)->V ((X Int)×PE)
 |0,_,_=>none|m1+1,jD,fQ=>
  cond (decide (jD<(p2.length:Int))) (a8 (aB p3 jD) fun sR=>
   a8 (i9 fQ 0 ((p2.length:Int).toNat) sR) fun oV=>
   a8 (aB p2 jD) fun G9=>
   a8 (Px n p1 oV G9.Typex) fun BW=>cond (!BW.2) (some ([],false)) (a8 (aB p3 jD) fun sQ=>a8 (i9 fQ 0 ((p2.length:Int).toNat) sQ) fun x43=>(Z1 p1 p2 p3 n m1) (IntKind.i64.wrap (jD+1)) (fQ.set sQ.toNat BW.1))) (Rl p2 p3 n fQ)
def Ic(n:Nat)(p1:cZ)(p2:X aO)(p3:X Int):V ((X Int)×PE):=
 aF (0<=(p2.length:Int)/\8*(p2.length:Int).toNat<=281474976710656/\(p2.length:Int)<=281474976710656) (
 Z1 p1 p2 p3 n n 0 (List.replicate (p2.length:Int).toNat 0))
theorem qpg(n:Nat)(p1:cZ)(p2:X aO)(p3:X Int)(r:(X Int)×PE)(O:Ic n p1 p2 p3=some r):cY prog 138 [.agg (gE p1),.isl false (p2.map b7),.isl false (p3.map (cI .i64))] (.tup [.isl false (r.1.map (cI .i64)),.bool r.2]):=by unfold Ic at O;refine xU 65 UV ?_;obtain⟨h4,O⟩:=c6 O;refine go ?_;refine aY (u:=.sl 1 0 ((p2.length:Int).toNat) ((p2.length:Int).toNat)) (Y':=⟨[(1,.row (List.map (cI .i64) (List.replicate (p2.length:Int).toNat 0)).flatten 3),(0,.row (gE p1) 27)],2⟩) rfl (Oe (cI .i64) 0 rfl rfl cU.h iG.h rfl rfl rfl rfl h4) ?_;refine go ?_;refine gL (fun m tm Y=>∃jD fQ,Z1 p1 p2 p3 n m jD fQ=some r/\tm=fr 65 [(1,.iM b7 p2),(2,.iM (cI .i64) p3),(3,.ptr 0 0 0),(8,.sl 1 0 ((p2.length:Int).toNat) ((p2.length:Int).toNat)),(9,.i6 jD)]/\Y=⟨[(1,.row (fQ.map (cI .i64)).flatten 3),(0,.row (gE p1) 27)],2⟩) (fun tm Y=>∃c7,Rl p2 p3 n c7=some r/\tm=fr 65 [(1,.iM b7 p2),(2,.iM (cI .i64) p3),(8,.sl 1 0 ((p2.length:Int).toNat) ((p2.length:Int).toNat))]/\Y=⟨[(1,.row (c7.map (cI .i64)).flatten 3),(0,.row (gE p1) 27)],2⟩) n ⟨0,(List.replicate (p2.length:Int).toNat 0),O,rfl,rfl⟩ ?_ ?_;rintro _ _ ⟨c7,O,rfl,rfl⟩;unfold Rl at O;refine go ?_;refine gL (fun m tm Y=>∃eU pA,Ja p2 p3 m eU pA=some r/\tm=fr 65 [(1,.iM b7 p2),(2,.iM (cI .i64) p3),(8,.sl 1 0 ((p2.length:Int).toNat) ((p2.length:Int).toNat)),(12,.i6 eU)]/\Y=⟨[(1,.row (pA.map (cI .i64)).flatten 3),(0,.row (gE p1) 27)],2⟩) (fun tm Y=>∃uE,lm p2 uE=some r/\tm=fr 65 [(8,.sl 1 0 ((p2.length:Int).toNat) ((p2.length:Int).toNat))]/\Y=⟨[(1,.row (uE.map (cI .i64)).flatten 3),(0,.row (gE p1) 27)],2⟩) n ⟨0,c7,O,rfl,rfl⟩ ?_ ?_;rintro _ _ ⟨uE,O,rfl,rfl⟩;unfold lm at O;obtain⟨tD,O⟩:=c6 O;refine go ?_;obtain rfl:=sI O;exact⟨.inr rfl,[.sl 1 0 ((p2.length:Int).toNat) ((p2.length:Int).toNat),.bool true],dT rfl (dT rfl (eD)),.tup [.iM (cI .i64) uE,.bool true],⟨[],0⟩,zF _,Gh.trans (Gh.fz (tm':=[.tup [.iM (cI .i64) uE,.bool true]]) (h':=[(0,.row (gE p1) 27)]) 1 (.row (uE.map (cI .i64)).flatten 3) 1 rfl qq4 (by simp only[m5,vF,sZ,DL,KY,RM,ND,Y9,YA,YB,RW,H6,Y6,N8,RL,R9,GW,Gg (mC .i64) tD,qgc]) (by simp only[fzH,fzB,ug,Nat.beq,zC,zD,m5,vF,sZ,DL,KY,RM,ND,Y9,YA,YB,RW,H6,Y6,N8,RL,R9,GW,Gg (mC .i64) tD,qgc])) (uT (.tup [.iM (cI .i64) uE,.bool true]) rfl),rfl,BU.h⟩;rintro(_|m2) _ _ ⟨eU,pA,O,rfl,rfl⟩;cases O;unfold Ja at O;refine gF O ?_ ?_<;>intro pJ O;refine go ?_;apply cE;obtain⟨ET,o4,y3,xO,uU,tT,O⟩:=oM O;refine go ?_;refine cB o4 ?_;refine go ?_;refine aY rfl (dZ rfl rfl (sW cU.h (bB iG.h) rfl xO)) (aY (u:=.i6 y3) rfl (C2 (cI .i64) (fun x=>.i6 x) sD.h rfl (fun _=>rfl) rfl rfl xO) (aY rfl (dZ rfl rfl (sW cU.h (bB iG.h) rfl tT)) (RS.opn (u:=.junk) (Y':=⟨[(1,.row (List.map (cI .i64) (pA.set eU.toNat y3)).flatten 3),(0,.row (gE p1) 27)],2⟩) rfl (XT (cI .i64) (bB iG.h) (mC .i64) rfl rfl rfl rfl rfl rfl tT rfl) rfl ?_)));refine go ?_;exact lC ⟨_,(pA.set eU.toNat y3),O,rfl,rfl⟩;refine go ?_;exact xC ⟨pA,O,rfl,rfl⟩;rintro(_|m1) _ _ ⟨jD,fQ,O,rfl,rfl⟩;cases O;unfold Z1 at O;refine gF O ?_ ?_<;>intro BM O;refine go ?_;apply cE;obtain⟨sR,vT,oV,rQ,G9,FX,BW,A3,O⟩:=qZ O;refine go ?_;refine dE [] ?_;refine gd ?_;refine dU vT ?_;refine gd ?_;refine aV rfl (dZ rfl rfl (sW cU.h (bB iG.h) rfl rQ)) (aV (u:=.i6 oV) rfl (C2 (cI .i64) (fun x=>.i6 x) sD.h rfl (fun _=>rfl) rfl rfl rQ) ?_);refine gd ?_;refine dU FX ?_;refine gd ?_;refine dK rfl (pC (qrp n p1 oV G9.Typex BW A3)) UG ?_;refine gd ?_;refine bC ⟨by kernel_rfl,trivial,?_⟩;refine gF O ?_ ?_<;>intro xM O;refine go ?_;obtain rfl:=sI O;exact rT (us:=[.nils,.bool false]) (u:=.tup [.isl false [],.bool false]) (dT rfl (dT rfl (eD))) wR;obtain⟨sQ,vS,x43,kS,O⟩:=bO O;refine go ?_;refine cB vS ?_;refine go ?_;refine aY rfl (dZ rfl rfl (sW cU.h (bB iG.h) rfl kS)) (RS.opn (u:=.junk) (Y':=⟨[(1,.row (List.map (cI .i64) (fQ.set sQ.toNat BW.1)).flatten 3),(0,.row (gE p1) 27)],2⟩) rfl (XT (cI .i64) (bB iG.h) (mC .i64) rfl rfl rfl rfl rfl rfl kS rfl) rfl ?_);refine go ?_;exact lC ⟨_,(fQ.set sQ.toNat BW.1),O,rfl,rfl⟩;refine go ?_;exact xC ⟨fQ,O,rfl,rfl⟩
def Qg(n:Nat)(p1:cZ)(p2:GFS)(p3:GFS):V (GFS×PE):=
 a8 (Hy n p2.Nodes p3.Nodes) fun r4=>
 a8 (Ie n (r4.length:Int)) fun r6=>
 a8 (Qh n r6 0 (p2.Nodes.length:Int)) fun r8=>
 a8 (Qi n r4 r8) fun nQ=>
 a8 (Ic n p1 r4 nQ) fun fV=>cond (!fV.2) (some ((GFS.mk []),false)) (a8 (Rm n r4 nQ fV.1 0) fun oI=>some (oI,true))
theorem qph(n:Nat)(p1:cZ)(p2:GFS)(p3:GFS)(r:GFS×PE)(O:Qg n p1 p2 p3=some r):cY prog 99 [.agg (gE p1),.agg [.isl false (p2.Nodes.map b7)],.agg [.isl false (p3.Nodes.map b7)]] (.tup [.agg [.isl false (r.1.Nodes.map b7)],.bool r.2]):=by unfold Qg at O;refine xU 40 Xv ?_;obtain⟨r4,h5,O⟩:=aI O;refine go ?_;refine aK rfl (pC (qru n p2.Nodes p3.Nodes r4 h5) _) UZ ?_;obtain⟨r6,h7,r8,h9,nQ,jT,O⟩:=oM O;refine go ?_;refine dE [(0,3),(0,7),(4,3),(5,3),(6,3)] ?_;refine gd ?_;refine JW (u:=.vl 4 0 0 r6.length) (Y1:=⟨(4,.bv (cI .i64) r6 3 1 0)::(3,.row [.nils] 39)::Hn p3.Nodes p2.Nodes (.row (gE p1) 27),5⟩) (args:=[.i6 (r4.length:Int)]) rfl (yN rfl rfl J4 rfl rfl rfl) (qp (cI .i64) (qig n (r4.length:Int) r6 h7) _ 4 rfl) rfl rfl ?_;refine gd ?_;refine RD.fcall (u:=.iM (cI .i64) r8) (args:=[.vl 4 0 0 r6.length,.i6 0,.i6 (p2.Nodes.length:Int)]) (Y1:=⟨(3,.row [.nils] 39)::Hn p3.Nodes p2.Nodes (.row (gE p1) 27),5⟩) rfl (yN rfl rfl UW rfl rfl rfl) (sC 4 1) NL (pC (qpf n r6 0 (p2.Nodes.length:Int) r8 h9) _) rfl rfl (dK rfl (pC (qpe n r4 r8 nQ jT)) UX ?_);refine gd ?_;refine bC ⟨by kernel_rfl,⟨oD rfl,⟨oD rfl,⟨pO fT.h rfl (bB E3.h) rfl rfl rfl,⟨yL iI.h rfl rfl rfl rfl,⟨H5 rfl rfl rfl (om b7 iI.h),trivial⟩⟩⟩⟩⟩,?_⟩;obtain⟨fV,eB,O⟩:=aI O;refine go ?_;refine aK rfl (pC (qpg n p1 r4 nQ fV eB) _) UV ?_;refine gF O ?_ ?_<;>intro i7 O;refine go ?_;obtain rfl:=sI O;exact rT (us:=[.agg [.nils],.bool false]) (u:=.tup [.agg [.isl false []],.bool false]) (nH (kL fT.h rfl (bB hJ.h) rfl rfl rfl) (dT rfl (eD))) wR;obtain⟨oI,qL,O⟩:=aI O;refine go ?_;refine aK rfl (pC (qk6 n r4 nQ fV.1 0 oI qL) _) UU ?_;refine go ?_;obtain rfl:=sI O;exact rT (nH (kL fT.h rfl (bB hJ.h) rfl rfl rfl) (dT rfl (eD))) (uT _ rfl)
def NS(n:Nat)(p1:pP)(p2:Int)(p3:Int):V (GFS×PE):=
 a8 (HA n p1 p2) fun r4=>
 a8 (HA n p1 p3) fun r6=>
 a8 (cond (!r4.2) (some true) (some (!r6.2))) fun b9=>cond b9 (some ((GFS.mk []),false)) (a8 (Qg n p1.H (GFS.mk r4.1.Nodes) (GFS.mk r6.1.Nodes)) fun fV=>some ((GFS.mk fV.1.Nodes),fV.2))
theorem qih(n:Nat)(p1:pP)(p2:Int)(p3:Int)(r:GFS×PE)(O:NS n p1 p2 p3=some r):cY prog 62 [.agg (gZ p1),.int .i64 p2,.int .i64 p3] (.tup [.agg [.isl false (r.1.Nodes.map b7)],.bool r.2]):=by unfold NS at O;refine xU 38 Dq ?_;obtain⟨r4,h5,O⟩:=aI O;refine go ?_;refine aK rfl (pC (y? n p1 p2 r4 h5) _) PV ?_;obtain⟨r6,h7,O⟩:=aI O;refine go ?_;refine aK rfl (pC (y? n p1 p3 r6 h7) _) PV ?_;obtain⟨b9,gC,O⟩:=aI O;refine gn ?_;refine tF (fun tm Y=>tm=fr 38 [(3,.ptr 0 0 0),(6,.ptr 1 0 0),(8,.ptr 2 0 0),(10,.ptr 3 0 0),(29,.bool b9)]/\Y=⟨[(3,.row [.iM b7 r6.1.Nodes] 39),(2,.row [.iM b7 r4.1.Nodes] 39),(1,.row [.nils] 39),(0,.row (gZ p1) 35)],4⟩) ?_ ?_;rintro _ _ ⟨rfl,rfl⟩;refine gF O ?_ ?_<;>intro jT O;refine go ?_;obtain rfl:=sI O;exact rT (us:=[.agg [.nils],.bool false]) (u:=.tup [.agg [.isl false []],.bool false]) (nH (kL fT.h rfl (bB hJ.h) rfl rfl rfl) (dT rfl (eD))) wR;obtain⟨fV,eB,O⟩:=aI O;refine go ?_;refine aK rfl (pC (qph n p1.H (GFS.mk r4.1.Nodes) (GFS.mk r6.1.Nodes) fV eB) _) Xv ?_;refine go ?_;obtain rfl:=sI O;exact rT (nH (kL fT.h rfl (bB hJ.h) rfl rfl rfl) (dT rfl (eD))) (uT _ rfl);refine go ?_;rcases gB gC with⟨h8,gC⟩|⟨h8,gC⟩;exact gy gC;exact gy gC
def Ib(n:Nat)(p1:pP)(p2:Int)(p3:Int):V (pP×Int×PE):=
 a8 (NS n p1 p2 p3) fun r4=>cond (!r4.2) (some (p1,0,false)) (a8 (Hv n p1 (GFS.mk r4.1.Nodes)) fun r7=>some ((pP.mk (cZ.mk r7.1.H.Types r7.1.H.Feats) r7.1.L),r7.2,true))
theorem qpi(n:Nat)(p1:pP)(p2:Int)(p3:Int)(r:pP×Int×PE)(O:Ib n p1 p2 p3=some r):cY prog 38 [.agg (gZ p1),.int .i64 p2,.int .i64 p3] (.tup [.agg (gZ r.1),.int .i64 r.2.1,.bool r.2.2]):=by unfold Ib at O;refine xU 31 Yu ?_;obtain⟨r4,h5,O⟩:=aI O;refine go ?_;refine aK rfl (pC (qih n p1 p2 p3 r4 h5) _) Dq ?_;refine gF O ?_ ?_<;>intro h6 O;refine go ?_;obtain rfl:=sI O;exact rT (nH (kL sT.h rfl (bB rE.h) rfl rfl rfl) (dT rfl (dT rfl (eD)))) (uT _ rfl);obtain⟨r7,h8,O⟩:=aI O;refine go ?_;refine aK rfl (pC (qm1 n p1 (GFS.mk r4.1.Nodes) r7 h8) _) Ds ?_;refine go ?_;obtain rfl:=sI O;exact rT (nH (kL sT.h rfl (bB rE.h) rfl rfl rfl) (dT rfl (dT rfl (eD)))) (uT _ rfl)
def Pu(n:Nat)(p1:pP)(p2:Int)(p3:Int):V (PE):=
 a8 (NS n p1 p2 p3) fun r4=>some r4.2
theorem qrw(n:Nat)(p1:pP)(p2:Int)(p3:Int)(r:PE)(O:Pu n p1 p2 p3=some r):cY prog 39 [.agg (gZ p1),.int .i64 p2,.int .i64 p3] (.bool r):=by unfold Pu at O;refine xU 17 Yt ?_;obtain⟨r4,h5,O⟩:=aI O;refine go ?_;refine aK rfl (pC (qih n p1 p2 p3 r4 h5) _) Dq ?_;exact gx O
end Go.Proofs
namespace Go.Proofs
open Go Go.Rx Go.Vx Go.Shelf Go.Sort
theorem v?:∀a b:X Yv,lO a b=true↔a=b
 |[],[]=>by simp[lO]
 |[],_::_=>by simp[lO]
 |_::_,[]=>by simp[lO]
 |x::a,y::b=>by have h:(x.toNat=y.toNat)↔x=y:=UInt8.toNat_inj;simp only[lO,beq_eq];by_cases e:x=y;subst e;simp[v? a b];simp[e,mt h.1 e]
theorem z8u(a b:Nat):Nat.blt a b=true↔a<b:=by unfold Nat.blt;rw[Nat.ble_eq];exact Iff.rfl
theorem rX(a b:Nat):Nat.blt a b=decide (a<b):=by rw[Bool.eq_iff_iff,z8u];simp
theorem qga:∀a:X Yv,kD a a=false
 |[]=>rfl|x::a=>by simp[kD,rX,qga a]
theorem qhg:∀a b c:X Yv,kD a b=true->kD b c=true->kD a c=true
 |_,[],_,h,_=>by simp[kD]at h
 |_,_::_,[],_,h=>by simp[kD]at h
 |[],_::_,_::_,_,_=>by simp[kD]
 |x::a,y::b,z::c,h1,h2=>by
  simp only[kD,rX,beq_eq]at*;by_cases h:x.toNat<y.toNat;by_cases h':y.toNat<z.toNat;have:x.toNat<z.toNat:=by omega
  simp[this];simp only[h',yB,zD]at h2;by_cases e:y.toNat=z.toNat;have:x.toNat<z.toNat:=by omega
  simp[this];simp[e]at h2;simp only[h,yB,zD]at h1;by_cases e:x.toNat=y.toNat;simp only[e,yC,zC]at h1;by_cases h':y.toNat<z.toNat;simp[e,h'];simp only[h',yB,zD]at h2;by_cases e':y.toNat=z.toNat;simp only[e',yC,zC]at h2;have:=qhg a b c h1 h2;simp[e,e',this];simp[e']at h2;simp[e]at h1
theorem qhf:∀a b:X Yv,kD a b=false->kD b a=false->a=b
 |[],[],_,_=>rfl|[],_::_,h,_=>by simp[kD]at h
 |_::_,[],_,h=>by simp[kD]at h
 |x::a,y::b,h1,h2=>by
  simp only[kD,rX,beq_eq]at*;by_cases h:x.toNat<y.toNat;simp[h]at h1;by_cases h':y.toNat<x.toNat;simp[h']at h2;have e:x.toNat=y.toNat:=by omega
  simp only[e,Nat.lt_irrefl,yB,zD,yC,zC]at h1 h2;rw[qhf a b h1 h2,UInt8.toNat_inj.1 e]
variable{v12:Type}
theorem aM{β:Type}(a:v12)(k:v12->V β):a8 (some a) k=k a:=rfl
theorem wr{z:Int}(h1 : -9223372036854775808<=z)(h2:z<=9223372036854775807):IntKind.i64.wrap z=z:=oZ qq0 qq0
variable{i:Nat}
theorem kX{len:Nat}(h:i<len)(hl:len<=9223372036854775807):IntKind.i64.wrap ((i:Int)+1)=((i+1:Nat):Int):=by rw[wr qq0 qq0];simp
theorem W4{z:Int}{k:Nat}(h:z=k)(h2:k<=9223372036854775807):IntKind.i64.wrap z=(k:Int):=by subst h;exact wr qq0 qq0
variable{l:X v12}
theorem fP(h:i<l.length):∃x,l[i]? = some x/\x∈l:=⟨l[i],by simp[h],by simp⟩
variable{x:v12}
theorem jG(h:l[i]? = some x):l.take (i+1)=l.take i++[x]:=by rw[List.take_add_one,h];rfl
theorem aX(h:l[i]? = some x):l.drop i=x::l.drop (i+1):=by have aE:i<l.length:=(zG.1 h).1;rw[List.drop_eq_getElem_cons aE];congr 1;rw[List.getElem?_eq_getElem aE]at h;exact Option.some.inj h
theorem jB{n:Nat}(h:i<n):decide ((i:Int)<(n:Int))=true:=by simp;omega
theorem jV{n:Nat}(h:¬ i<n):decide ((i:Int)<(n:Int))=false:=by simp;omega
theorem bW(h:¬ i<l.length):l.drop i=[]:=List.drop_eq_nil_of_le qq0
structure Cmp{v12:Type}(c:v12->v12->Int):Prop where
 val:∀x y,c x y= -1\/c x y=0\/c x y=1
 anti:∀x y,c y x= - c x y
 trans:∀x y z,c x y<=0->c y z<=0->c x z<=0
variable{c:v12->v12->Int}
theorem Cmp.self(h:Cmp c)(x:v12):c x x=0:=by have:=h.anti x x;omega
variable{y:v12}
theorem Cmp.congr(h:Cmp c)(nK:c x y=0)(z:v12):c x z=c y z:=by have h1:=h.val x z;have h2:=h.val y z;have a1:=h.anti x y;have a2:=h.anti x z;have a3:=h.anti y z;have t1:=h.trans x y z;have t2:=h.trans y x z;have t3:=h.trans z x y;have t4:=h.trans z y x;omega
theorem Cmp.congr'(h:Cmp c)(nK:c x y=0)(z:v12):c z x=c z y:=by have h1:=h.congr nK z;have a2:=h.anti x z;have a3:=h.anti y z;omega
theorem Cmp.lt_of(h:Cmp c){z:v12}(h1:c x y<0)(h2:c y z<=0):c x z<0:=by have t1:=h.trans x y z qq0 h2;rcases Int.lt_or_eq_of_le t1 with h3 |h3;exact h3;have:=h.congr h3 y;have a3:=h.anti y z;omega
def F4{v12:Type}(c d:v12->v12->Int)(x y:v12):Int:=if c x y≠0 then c x y else d x y
theorem Cmp.lex{d:v12->v12->Int}(hc:Cmp c)(hd:Cmp d):Cmp (F4 c d) where
 val x y:=by unfold F4;split;exact hc.val x y;exact hd.val x y
 anti x y:=by
  unfold F4;have a1:=hc.anti x y;have a2:=hd.anti x y;by_cases h:c x y=0;have:c y x=0:=by omega
  simp[h,this,a2];have:¬ c y x=0:=by omega
  simp[h,this,a1]
 trans x y z h1 h2:=by
  unfold F4 at*;by_cases h:c x y=0;have e:=hc.congr h z;simp only[h,ne_eq,not_true,if_false]at h1;rw[e];by_cases h':c y z=0;simp only[h',ne_eq,not_true,if_false]at h2 ⊢;exact hd.trans x y z h1 h2;simp only[h',ne_eq,not_false_eq_true,if_true]at h2 ⊢;exact h2;simp only[h,ne_eq,not_false_eq_true,if_true]at h1;have tV:c x y<0:=by omega
  by_cases h':c y z=0;have e:=hc.congr' h' x;rw[<-e];simp only[h,ne_eq,not_false_eq_true,if_true];exact h1;simp only[h',ne_eq,not_false_eq_true,if_true]at h2;have:=hc.lt_of tV h2;have cR:¬ c x z=0:=by omega
  simp only[cR,ne_eq,not_false_eq_true,if_true];omega
theorem W_{d:v12->v12->Int}:F4 c d x y=0↔c x y=0/\d x y=0:=by unfold F4;by_cases h:c x y=0<;>simp[h]
theorem Cmp.pull{β:Type}(h:Cmp c)(f:β->v12):Cmp (fun x y=>c (f x) (f y)):=⟨fun x y=>h.val _ _,fun x y=>h.anti _ _,fun x y z=>h.trans _ _ _⟩
def oL(a b:Int):Int:=if a<b then -1 else if b<a then 1 else 0
theorem Pr{a b:Int}:oL a b=0↔a=b:=by unfold oL;split;omega;split<;>omega
theorem He:Cmp oL where
  val x y := by unfold oL; split; · simp
                split<;>simp
  anti x y:=by unfold oL;split<;>split<;>(try split)<;>omega
  trans x y z:=by unfold oL;intro h1 h2;split at h1<;>split at h2<;>(try split at h1)<;>(try split at h2)<;>(try split)<;>(try split)<;>omega
theorem z5d(c:v12->v12->Int)(x y:v12):ltOf c x y=true↔c x y<0:=by simp[ltOf]
theorem Cmp.swo(h:Cmp c):SWO (ltOf c) where
 irrefl x:=by have:=h.self x;simp[ltOf,this]
 trans x y z h1 h2:=by rw[z5d]at*;exact h.lt_of h1 qq0
 ntrans x y z h1 h2:=by
  have e:∀a b,ltOf c a b=false↔c b a<=0:=fun a b=>by have:=h.anti a b;simp[ltOf];omega
  rw[e]at*;exact h.trans z y x h2 h1
section
variable{v12:Type}{c:v12->v12->Int}
theorem XG(hc:Cmp c)(l:X v12):(srt (ltOf c) l).Pairwise (fun x y=>c x y<=0):=by have:=z2y hc.swo l;refine List.Pairwise.imp ?_ this;intro x y h;have:=hc.anti x y;simp[ltOf]at h;omega
end
end Go.Proofs
namespace Go.Proofs
open Go Go.Rx Go.Vx Go.Shelf Go.Sort
set_option maxRecDepth 10000
def nR{v12:Type}(c:v12->v12->Int):X v12->X v12->Int
 |[],[]=>0|[],_::_=>-1
 |_::_,[]=>1|x::xs,y::ys=>if c x y≠0 then c x y else nR c xs ys
theorem Cmp.list{v12:Type}{c:v12->v12->Int}(h:Cmp c):Cmp (nR c) where
 val:=by
  intro x;induction x with
  |nil=>intro y;cases y<;>simp[nR]|cons a x ih=>intro y;rcases y with _|⟨b,y⟩;simp[nR];simp only[nR];split;exact h.val a b;exact ih y
 anti:=by
  intro x;induction x with
  |nil=>intro y;cases y<;>simp[nR]|cons a x ih=>
   intro y;rcases y with _|⟨b,y⟩;simp[nR];simp only[nR];have a1:=h.anti a b;have a2:=ih y;by_cases e:c a b=0;have:c b a=0:=by omega
   simp[e,this,a2];have:¬ c b a=0:=by omega
   simp[e,this,a1]
 trans:=by
  intro x;induction x with
  |nil=>intro y z h1 h2;cases z<;>simp[nR]|cons a x ih=>
   intro y z h1 h2;rcases y with _|⟨b,y⟩;simp[nR]at h1;rcases z with _|⟨d,z⟩;simp[nR]at h2;simp only[nR]at*;by_cases e:c a b=0;have e2:=h.congr e d;simp only[e,ne_eq,not_true,if_false]at h1;rw[e2];by_cases e3:c b d=0;simp only[e3,ne_eq,not_true,if_false]at h2 ⊢;exact ih y z h1 h2;simp only[e3,ne_eq,not_false_eq_true,if_true]at h2 ⊢;exact h2;simp only[e,ne_eq,not_false_eq_true,if_true]at h1;have tV:c a b<0:=by omega
   by_cases e3:c b d=0;have e4:=h.congr' e3 a;rw[<-e4];simp only[e,ne_eq,not_false_eq_true,if_true];exact h1;simp only[e3,ne_eq,not_false_eq_true,if_true]at h2;have:=h.lt_of tV h2;have cR:¬ c a d=0:=by omega
   simp only[cR,ne_eq,not_false_eq_true,if_true];omega
theorem V_{v12:Type}{c:v12->v12->Int}:∀{xs ys:X v12},(∀x∈xs,∀y,c x y=0->x=y)->nR c xs ys=0->xs=ys
 |[],[],_,_=>rfl|[],_::_,_,h=>by simp[nR]at h
 |_::_,[],_,h=>by simp[nR]at h
 |x::xs,y::ys,hc,h=>by simp only[nR]at h;by_cases e:c x y=0;simp only[e,ne_eq,not_true,if_false]at h;rw[hc x qq4 y e,V_ (fun a ha=>hc a (by simp[ha])) h];simp[e]at h
def Q0:aR->aR->Int:=F4 (fun x y=>oL x.Feat y.Feat) (fun x y=>oL x.To y.To)
theorem Ep:Cmp Q0:=(He.pull _).lex (He.pull _)
theorem z4i{x y:aR}(h:Q0 x y=0):x=y:=by simp only[Q0,W_,Pr]at h;cases x;cases y;simp only at h;obtain⟨rfl,rfl⟩:=h;rfl
def VM:aO->aO->Int:=F4 (F4 (fun x y=>oL x.Typex y.Typex) (fun x y=>oL x.Arcs.length y.Arcs.length)) (fun x y=>nR Q0 x.Arcs y.Arcs)
theorem Em:Cmp VM:=((He.pull _).lex (He.pull (fun x:aO=>(x.Arcs.length:Int)))).lex (Ep.list.pull _)
theorem z4j{x y:aO}(h:VM x y=0):x=y:=by simp only[VM,W_,Pr]at h;have:=V_ (fun a _ b h=>z4i h) h.2;cases x;cases y;simp only at h this;obtain⟨⟨rfl,_⟩,_⟩:=h;subst this;rfl
def Eo:GFS->GFS->Int:=F4 (fun x y=>oL x.Nodes.length y.Nodes.length) (fun x y=>nR VM x.Nodes y.Nodes)
theorem En:Cmp Eo:=(He.pull (fun x:GFS=>(x.Nodes.length:Int))).lex (Em.list.pull _)
theorem A_{x y:GFS}:Eo x y=0↔x=y:=⟨fun h=>by
 simp only[Eo,W_,Pr]at h;have:=V_ (fun a _ b h=>z4j h) h.2;cases x;cases y;simp only at this;subst this;rfl,fun h=>by subst h;exact En.self x⟩
structure dI(f:GFS)(k:Nat):Prop where
 nodes:f.Nodes.length<=k
 arcs:∀x∈f.Nodes,x.Arcs.length<=k
def K4(l:X aR):X Int:=l.flatMap fun a=>[a.Feat,a.To]
def R6(x:aO):X Int:=[x.Typex,(x.Arcs.length:Int)]++K4 x.Arcs
def G5(f:GFS):X Int:=(f.Nodes.length:Int)::f.Nodes.flatMap R6
theorem D_:∀l:X aR,(K4 l).length=2*l.length
 |[]=>rfl|a::l=>by have:=D_ l;simp only[K4,List.flatMap_cons,zU,zO,zS]at*;omega
theorem z0l{x:aO}{i:Int}{rc:Int->X Int->V (X Int)}(hx:x.Arcs.length<=1000000):∀(m k:Nat)(aZ:X Int),x.Arcs.length-k<m->k<=x.Arcs.length->aZ.length+2*(x.Arcs.length-k)<=1000000000->
  Jm i rc x m k aZ=rc (IntKind.i64.wrap (i+1)) (aZ++K4 (x.Arcs.drop k))
 |0,k,aZ,hm,_,_=>by omega
 |m+1,k,aZ,hm,hk,ha=>by
  unfold Jm;by_cases aE:k<x.Arcs.length;obtain⟨a,h1,_⟩:=fP aE;have hn:(aZ.length+2)*8<=140737488355328/\aZ.length+2<=140737488355328:=by omega
  simp only[jB aE,zC,cP,h1,aM,aF,hn,and_self,if_true,kX aE (show x.Arcs.length<=9223372036854775807 by omega)];rw[z0l hx m (k+1) _ qq0 qq0 (by simp only[zU,zO,zS];omega),aX h1];simp[K4];simp only[jV aE,zD,sf,bW aE,K4,List.flatMap_nil,List.append_nil]
theorem z0k{f:GFS}{n:Nat}(hf:dI f 1000)(hn:1001<=n):∀(m i:Nat)(aZ:X Int),f.Nodes.length-i<m->i<=f.Nodes.length->aZ.length+2002*(f.Nodes.length-i)<=900000000->
  OF f n m i aZ=some (aZ++(f.Nodes.drop i).flatMap R6)
 |0,i,aZ,hm,_,_=>by omega
 |m+1,i,aZ,hm,hi,ha=>by
  unfold OF;have hl:=hf.nodes;by_cases aE:i<f.Nodes.length;obtain⟨x,hx,g8⟩:=fP aE;have h2:=hf.arcs x g8;have hn:(aZ.length+2)*8<=140737488355328/\aZ.length+2<=140737488355328:=by omega
  have h0:=z0l (i:=(i:Int)) (rc:=OF f n m) (x:=x) qq0 n 0 (aZ++[x.Typex,(x.Arcs.length:Int)]) qq0 qq0 (by simp only[zU,zO,zS];omega);rw[zV,List.drop_zero]at h0;simp only[jB aE,zC,cP,hx,aM,aF,hn,and_self,if_true,h0,kX aE (show f.Nodes.length<=9223372036854775807 by omega)];rw[z0k hf qq0 m (i+1) _ qq0 qq0 (by simp only[zU,zO,zS,D_];omega),aX hx];simp[R6];simp only[jV aE,zD,sg,bW aE,List.flatMap_nil,List.append_nil]
variable{f:GFS}
variable{n:Nat}
theorem z0m(hf:dI f 1000)(hn:1001<=n):Iu n f=some (G5 f):=by have hl:=hf.nodes;have:=z0k hf hn n 0 [(f.Nodes.length:Int)] qq0 qq0 (by simp only[zO,zS];omega);rw[zV,List.drop_zero]at this;simp only[Iu,this,G5,List.singleton_append]
def AC:X Int->X Int->Int
 |x::xs,y::ys=>if oL x y≠0 then oL x y else AC xs ys|_,_=>0
theorem qwc{l m:X Int}(hl:l.length<=1000000000):∀(n i:Nat),l.length-i<n->i<=l.length->Jn l m n i=some (AC (l.drop i) (m.drop i))
 |0,i,hn,_=>by omega
 |n+1,i,hn,hi=>by unfold Jn;by_cases h1:i<l.length;obtain⟨x,hx,_⟩:=fP h1;by_cases h2:i<m.length;obtain⟨y,hy,_⟩:=fP h2;simp only[jB h1,jB h2,zC,aM,cP,hx,hy,kX h1 (show l.length<=9223372036854775807 by omega),aX hx,aX hy,AC,oL];by_cases h3:x<y;simp[h3];by_cases h4:y<x;simp[h3,h4];simp only[h3,h4,yB,zD,if_false,ne_eq,not_true,gt_iff_lt];exact qwc hl n (i+1) qq0 qq0;simp only[jB h1,jV h2,zC,zD,aM,Sn,aX hx,bW h2,AC];simp only[jV h1,zD,aM,Sn,bW h1,AC]
theorem z5k{k:Nat}(hf:dI f k):(G5 f).length<=1+f.Nodes.length*(2+2*k):=by
 have:∀l:X aO,(∀x∈l,x.Arcs.length<=k)->(l.flatMap R6).length<=l.length*(2+2*k):=by
  intro l;induction l with
  |nil=>intro _;simp|cons x l ih=>
   intro h;have h1:=ih fun y hy=>h y (List.mem_cons_of_mem _ hy);have h2:=h x qq4;have h3:(l.length+1)*(2+2*k)=l.length*(2+2*k)+(2+2*k):=by rw[Nat.add_mul,Nat.one_mul]
   simp only[List.flatMap_cons,zU,R6,zO,zS,D_];rw[h3];omega
 have:=this f.Nodes hf.arcs;simp only[G5,zO];omega
theorem z2b{g:GFS}(hf:dI f 1000)(hg:dI g 1000)(hn:3000000<=n):Re n f g=some (AC (G5 f) (G5 g)):=by have h1:=z5k hf;have h2:=hf.nodes;have h3:f.Nodes.length*(2+2*1000)<=1000*(2+2*1000):=Nat.mul_le_mul_right _ h2;have:=qwc (l:=G5 f) (m:=G5 g) qq0 n 0 qq0 qq0;rw[zV,List.drop_zero,List.drop_zero]at this;simp only[Re,z0m hf (show 1001<=n by omega),z0m hg (show 1001<=n by omega),aM,this]
theorem qr3{c d:X Int}:∀{xs ys:X aR},xs.length=ys.length->AC (K4 xs++c) (K4 ys++d)=if nR Q0 xs ys≠0 then nR Q0 xs ys else AC c d
 |[],[],_=>by simp[K4,nR]
 |[],_::_,h=>by simp at h
 |_::_,[],h=>by simp at h
 |x::xs,y::ys,h=>by simp only[zO,Nat.add_right_cancel_iff]at h;have ih:=qr3 (c:=c) (d:=d) h;simp only[K4,List.flatMap_cons,List.cons_append,List.nil_append,AC,nR]at ih ⊢;rw[ih];unfold Q0 F4;by_cases e:oL x.Feat y.Feat=0;by_cases e2:oL x.To y.To=0<;>simp[e,e2];simp[e]
theorem qnc{c d:X Int}:∀{xs ys:X aO},xs.length=ys.length->AC (xs.flatMap R6++c) (ys.flatMap R6++d)=if nR VM xs ys≠0 then nR VM xs ys else AC c d
 |[],[],_=>by simp[nR]
 |[],_::_,h=>by simp at h
 |_::_,[],h=>by simp at h
 |x::xs,y::ys,h=>by
  simp only[zO,Nat.add_right_cancel_iff]at h;have ih:=qnc (c:=c) (d:=d) h;simp only[List.flatMap_cons,R6,zT,List.cons_append,List.nil_append,AC,nR];have hN:VM x y=(if(if oL x.Typex y.Typex≠0 then oL x.Typex y.Typex else oL (x.Arcs.length:Int) y.Arcs.length)≠0 then(if oL x.Typex y.Typex≠0 then oL x.Typex y.Typex else oL (x.Arcs.length:Int) y.Arcs.length)else nR Q0 x.Arcs y.Arcs):=rfl;simp only[hN];by_cases e:oL x.Typex y.Typex=0;by_cases e2:oL (x.Arcs.length:Int) y.Arcs.length=0;have hl:x.Arcs.length=y.Arcs.length:=by have:=Pr.1 e2;omega
  simp only[e,e2,ne_eq,not_true,if_false];rw[qr3 hl,ih];by_cases e3:nR Q0 x.Arcs y.Arcs=0<;>simp[e3];simp[e,e2];simp[e]
theorem z8v(f g:GFS):AC (G5 f) (G5 g)=Eo f g:=by
 simp only[G5,AC,Eo];unfold F4;by_cases e:oL (f.Nodes.length:Int) g.Nodes.length=0;have hl:f.Nodes.length=g.Nodes.length:=by have:=Pr.1 e;omega
 have:=qnc (c:=[]) (d:=[]) hl;simp only[List.append_nil,AC]at this;simp only[e,ne_eq,not_true,if_false,this];by_cases e2:nR VM f.Nodes g.Nodes=0<;>simp[e2];simp[e]
theorem g_{g:GFS}(hf:dI f 1000)(hg:dI g 1000)(hn:3000000<=n):NT n f g=some (Eo f g==0):=by simp only[NT,z2b hf hg hn,aM,z8v]
theorem qvd{f:GFS}(hl:f.Nodes.length<=12):∀(m i:Nat),f.Nodes.length-i<m->i<=f.Nodes.length->∃b,Jc f m i=some b/\(b=true->∀x∈f.Nodes.drop i,x.Arcs.length<=12)
 |0,i,hm,_=>by omega
 |m+1,i,hm,hi=>by unfold Jc;by_cases aE:i<f.Nodes.length;obtain⟨x,hx,_⟩:=fP aE;simp only[jB aE,zC,cP,hx,aM,kX aE (show f.Nodes.length<=9223372036854775807 by omega)];by_cases h:(x.Arcs.length:Int)>12;simp only[h,yC,zC];exact⟨false,rfl,fun h=>by cases h⟩;simp only[h,yB,zD];obtain⟨b,h1,h2⟩:=qvd hl m (i+1) qq0 qq0;refine⟨b,h1,fun hb=>?_⟩;rw[aX hx];intro y hy;rcases zI.1 hy with rfl |hy;omega;exact h2 hb y hy;simp only[jV aE,zD,lr,bW aE];exact⟨true,rfl,fun _ x hx=>by cases hx⟩
theorem z5b(f:GFS)(hn:20<=n):∃b,Qj n f=some b/\(b=true->dI f 12):=by unfold Qj;by_cases h:(f.Nodes.length:Int)>12;simp only[h,yC,zC];exact⟨false,rfl,fun h=>by cases h⟩;simp only[h,yB,zD];obtain⟨b,h1,h2⟩:=qvd (f:=f) qq0 n 0 qq0 qq0;rw[zV]at h1;rw[List.drop_zero]at h2;exact⟨b,h1,fun hb=>⟨by omega,h2 hb⟩⟩
theorem dI.up{k k':Nat}(h:dI f k)(hk:k<=k'):dI f k':=⟨by have:=h.nodes;omega,fun x hx=>by have:=h.arcs x hx;omega⟩
def cF(a b:aR):Int:=oL a.Feat b.Feat
theorem Zp:Cmp cF:=He.pull aR.Feat
def uW(l:X aR):X aR:=srt (ltOf cF) l
theorem NN(l:X aR):(uW l).Perm l:=NF _ l
def jC(l:X aR):Prop:=l.Pairwise (fun a b=>a.Feat≠b.Feat)
variable{l:X aR}
theorem jC.perm{m:X aR}(h:l.Perm m)(hd:jC l):jC m:=(h.pairwise_iff (fun{a b} h=>Ne.symm h)).1 hd
theorem jC.eq:∀{l:X aR},jC l->∀x∈l,∀y∈l,x.Feat=y.Feat->x=y
 |[],_,x,hx,_,_,_=>by cases hx
 |a::l,h,x,hx,y,hy,e=>by obtain⟨h1,h2⟩:=List.pairwise_cons.1 h;rcases zI.1 hx with e1 |vL;rcases zI.1 hy with e2 |qJ;rw[e1,e2];subst e1;exact absurd e (h1 y qJ);rcases zI.1 hy with e2 |qJ;subst e2;exact absurd e.symm (h1 x vL);exact jC.eq h2 x vL y qJ e
def lI(l:X aR):Prop:=l.Pairwise (fun a b=>a.Feat<b.Feat)
theorem Zq{a b:aR}:cF a b<=0↔a.Feat<=b.Feat:=by unfold cF oL;by_cases h1:a.Feat<b.Feat;simp[h1];omega;by_cases h2:b.Feat<a.Feat;simp[h1,h2];simp[h1,h2];omega
theorem RP(h:jC l):lI (uW l):=by have h1:=XG Zp l;have h2:jC (uW l):=h.perm (NN l).symm;refine(List.Pairwise.and h1 h2).imp fun{a b} h=>?_;have:=Zq.1 h.1;have:=h.2;omega
theorem qws:∀{a b:X aR},lI a->lI b->a.Perm b->a=b
 |[],b,_,_,h=>(List.nil_perm.1 h).symm|x::a,[],_,_,h=>by have:=h.length_eq;simp at this
 |x::a,y::b,ha,hb,h=>by
  obtain⟨h1,h2⟩:=List.pairwise_cons.1 ha;obtain⟨h3,h4⟩:=List.pairwise_cons.1 hb;have nK:x=y:=by rcases zI.1 (h.mem_iff.1 (List.mem_cons_self))with hx |hx;exact hx;rcases zI.1 (h.mem_iff.2 (List.mem_cons_self))with hy |hy;exact hy.symm;have h5:=h1 y hy;have h6:=h3 x hx;omega
  subst nK;rw[qws h2 h4 (h.cons_inv)]
theorem z2x{m:X aR}(hd:jC l)(h:m.Perm l)(hm:lI m):uW l=m:=qws (RP hd) hm ((NN l).trans h.symm)
theorem lI.dis(h:lI l):jC l:=h.imp fun{a b} h=>qq0
structure NOk(x:aO)(N:Nat):Prop where
 ty:0<=x.Typex
 dis:jC x.Arcs
 arc:∀a∈x.Arcs,0<=a.Feat/\0<=a.To/\a.To<N
def kT(f:GFS):Prop:=∀x∈f.Nodes,NOk x f.Nodes.length
def nd(f:GFS)(v:Int):aO:=(f.Nodes[v.toNat]?).getD (aO.mk 0 [])
def gS(f:GFS)(v:Int):Prop:=0<=v/\v<f.Nodes.length
variable{f:GFS}
variable{v:Int}
theorem wB(h:gS f v):aB f.Nodes v=some (nd f v)/\nd f v∈f.Nodes:=by
 have hv:v.toNat<f.Nodes.length:=by have:=h.1;have:=h.2;omega
 have h1:0<=v/\v<(f.Nodes.length:Int):=h;simp[aB,h1,nd,hv]
def sar(f:GFS)(v:Int):X aR:=uW (nd f v).Arcs
theorem tO{a:aR}:a∈sar f v↔a∈(nd f v).Arcs:=(NN _).mem_iff
def kH(g:X Int->Int->X Int)(o:X Int)(a:aR):X Int:=if a.To∈o then o else g o a.To
def dfs(f:GFS):Nat->X Int->Int->X Int
 |0,o,_=>o|k+1,o,v=>(sar f v).foldl (kH (dfs f k)) (o++[v])
structure Seen(f:GFS)(o:X Int):Prop where
 nd:o.Nodup
 ing:∀v∈o,gS f v
theorem r?:∀(N:Nat){o:X Int},o.Nodup->(∀v∈o,0<=v/\v<N)->o.length<=N
 |0,o,_,h=>by rcases o with _|⟨v,o⟩;simp;have:=h v qq4;omega
 |N+1,o,hn,h=>by
  have h1:=r? N (o:=o.filter (fun v=>v != (N:Int))) (hn.filter _) fun v hv=>by rw[List.mem_filter]at hv;have:=h v hv.1;have h2:=hv.2;simp at h2;omega
  have h2:o.length<=(o.filter (fun v=>v != (N:Int))).length+1:=by
   clear h1 h;induction o with
   |nil=>simp|cons x o ih=>
    obtain⟨h3,h4⟩:=List.nodup_cons.1 hn;have:=ih h4;by_cases e:x=N;subst e;have:o.filter (fun v=>v != (N:Int))=o:=List.filter_eq_self.2 fun v hv=>by simp only[bne_iff_ne,ne_eq];intro e;subst e;exact h3 hv
    simp[this];have e2:(x != (N:Int))=true:=by simpa using e
    rw[List.filter_cons_of_pos (by simpa using e)];simp only[zO];omega
  omega
theorem Seen.len{o:X Int}(h:Seen f o):o.length<=f.Nodes.length:=r? _ h.nd h.ing
theorem Seen.snoc{o:X Int}(h:Seen f o)(hv:gS f v)(hn:v ∉ o):Seen f (o++[v]):=⟨by
 rw[List.nodup_append];refine⟨h.nd,by simp,?_⟩;intro a ha b hb;simp at hb;subst hb;intro e;subst e;exact hn ha,fun u hu=>by
 rcases yD.1 hu with hu |hu;exact h.ing u hu;simp at hu;subst hu;exact hv⟩
theorem Oh{f:GFS}(hg:kT f):∀(k:Nat)(o:X Int)(v:Int),Seen f o->gS f v->v ∉ o->f.Nodes.length-o.length<=k->
  Seen f (dfs f k o v)/\(∃t,dfs f k o v=o++v::t)/\(∀u∈dfs f k o v,u ∉ o->∀a∈(nd f u).Arcs,a.To∈dfs f k o v)/\(∀k',f.Nodes.length-o.length<=k'->dfs f k' o v=dfs f k o v)
 |0,o,v,hs,hv,hn,hk=>by have h1:=(hs.snoc hv hn).len;simp only[zU,zO,zS]at h1;omega
 |k+1,o,v,hs,hv,hn,hk=>by
  have E9:=hs.snoc hv hn;have FR:=E9.len;simp only[zU,zO,zS]at FR;have key:∀(l:X aR),(∀a∈l,gS f a.To)->∀(p:X Int),Seen f p->(∃t,p=o++v::t)->(∀u∈p,u ∉ o->u≠v->∀a∈(nd f u).Arcs,a.To∈p)->
    Seen f (l.foldl (kH (dfs f k)) p)/\(∃t,l.foldl (kH (dfs f k)) p=p++t)/\(∀u∈l.foldl (kH (dfs f k)) p,u ∉ o->u≠v->∀a∈(nd f u).Arcs,a.To∈l.foldl (kH (dfs f k)) p)/\(∀a∈l,a.To∈l.foldl (kH (dfs f k)) p)/\
     (∀k',f.Nodes.length-(o.length+1)<=k'->l.foldl (kH (dfs f k')) p=l.foldl (kH (dfs f k)) p):=by
   intro l;induction l with
   |nil=>intro _ p hp nY iS;exact⟨hp,⟨[],by simp⟩,iS,⟨fun a ha=>(List.not_mem_nil ha).elim,fun _ _=>rfl⟩⟩|cons a l ih=>
    intro hl p hp nY iS;have FQ:=hl a qq4;have rL:=fun b hb=>hl b (List.mem_cons_of_mem a hb);simp only[List.foldl_cons];by_cases hm:a.To∈p;have e:∀k',kH (dfs f k') p a=p:=fun k'=>by simp[kH,hm]
    simp only[e];obtain⟨g1,⟨t,g2⟩,g3,g4,g5⟩:=ih rL p hp nY iS;refine⟨g1,⟨t,g2⟩,g3,fun b hb=>?_,g5⟩;rcases zI.1 hb with rfl |hb;rw[g2];exact List.mem_append_left _ hm;exact g4 b hb;have e:∀k',kH (dfs f k') p a=dfs f k' p a.To:=fun k'=>by simp[kH,hm]
    obtain⟨t0,nY⟩:=nY;have vO:o.length+1<=p.length:=by rw[nY];simp
    obtain⟨d1,⟨t1,d2⟩,d3,d4⟩:=Oh hg k p a.To hp FQ hm qq0;have lR:∀u∈p,u∈dfs f k p a.To:=fun u hu=>by rw[d2];exact List.mem_append_left _ hu
    obtain⟨g1,⟨t,g2⟩,g3,g4,g5⟩:=ih rL (dfs f k p a.To) d1 ⟨t0++a.To::t1,by rw[d2,nY];simp⟩ (fun u hu h1 h2 b hb=>by by_cases E8:u∈p;exact lR _ (iS u E8 h1 h2 b hb);exact d3 u hu E8 b hb);rw[e k];refine⟨g1,⟨a.To::t1++t,by rw[g2,d2];simp⟩,g3,fun b hb=>?_,fun k' rN=>?_⟩;rcases zI.1 hb with rfl |hb;rw[g2,d2];simp;exact g4 b hb;rw[e k',d4 k' qq0];exact g5 k' rN
  have FQ:∀a∈sar f v,gS f a.To:=fun a ha=>by have h1:=(hg _ (wB hv).2).arc a (tO.1 ha);exact⟨h1.2.1,h1.2.2⟩
  obtain⟨g1,⟨t,g2⟩,g3,g4,g5⟩:=key (sar f v) FQ (o++[v]) E9 ⟨[],rfl⟩ (fun u hu h1 h2=>by rcases yD.1 hu with hu |hu;exact absurd hu h1;simp at hu;exact absurd hu h2);refine⟨g1,⟨t,by show(sar f v).foldl _ _=_;rw[g2];simp⟩,fun u hu h1 a ha=>?_,fun k' rN=>?_⟩;by_cases e:u=v;subst e;exact g4 a (tO.2 ha);exact g3 u hu h1 e a ha;cases k' with
  |zero=>omega|succ k'=>exact g5 k' qq0
def bP(f:GFS)(r:Int):X Int:=dfs f f.Nodes.length [] r
theorem Seen.nil(f:GFS):Seen f []:=⟨List.nodup_nil,fun v hv=>by cases hv⟩
structure VT(f:GFS)(r:Int)(o:X Int):Prop where
 seen:Seen f o
 head:∃t,o=r::t
 clo:∀u∈o,∀a∈(nd f u).Arcs,a.To∈o
theorem NC(hg:kT f){r:Int}(hr:gS f r):VT f r (bP f r)/\∀k,f.Nodes.length<=k->dfs f k [] r=bP f r:=by obtain⟨h1,⟨t,h2⟩,h3,h4⟩:=Oh hg f.Nodes.length [] r (Seen.nil f) hr qq4 qq4;exact⟨⟨h1,⟨t,by have h5:=h2;rw[List.nil_append]at h5;exact h5⟩,fun u hu=>h3 u hu qq4⟩,fun k hk=>h4 k (by simpa using hk)⟩
def qD(o:X Int)(a:aR):aR:=⟨a.Feat,(o.idxOf a.To:Int)⟩
def mK(f:GFS)(o:X Int)(v:Int):aO:=⟨(nd f v).Typex,(sar f v).map (qD o)⟩
def cO(f:GFS)(r:Int):GFS:=⟨(bP f r).map (mK f (bP f r))⟩
theorem XI{v12:Type}(a b:X v12)(x y:v12):(a++x::b).set a.length y=a++y::b:=qq4
def DG(N:Nat)(seen:X Int):X aR->Int
 |[]=>0|a::l=>if a.Feat<0\/a.To<0\/a.To>=(N:Int)then 2 else if a.Feat∈seen then 4 else DG N (a.Feat::seen) l
def EJ(N:Nat)(x:aO):Int:=if x.Typex<0 then 2 else DG N [] x.Arcs
theorem qql{N:Nat}:∀{l:X aR}{seen:X Int},DG N seen l=0↔(∀a∈l,0<=a.Feat/\0<=a.To/\a.To<N)/\jC l/\∀a∈l,a.Feat ∉ seen
 |[],seen=>by simp[DG,jC]
 |a::l,seen=>by
  simp only[DG];by_cases h1:a.Feat<0\/a.To<0\/a.To>=(N:Int);simp only[h1,if_true];refine⟨fun h=>absurd h qq3,fun h=>?_⟩;have:=h.1 a qq4;omega;by_cases h2:a.Feat∈seen;simp only[h1,h2,if_true,if_false];exact⟨fun h=>absurd h qq3,fun h=>absurd h2 (h.2.2 a qq4)⟩;simp only[h1,h2,if_false];rw[qql (l:=l)];unfold jC;rw[List.pairwise_cons];constructor;rintro⟨g1,g2,g3⟩;refine⟨fun b hb=>?_,⟨fun b hb=>?_,g2⟩,fun b hb=>?_⟩;rcases zI.1 hb with rfl |hb;omega;exact g1 b hb;have:=g3 b hb;simp only[zI,not_or]at this;exact fun e=>this.1 e.symm
  rcases zI.1 hb with rfl |hb;exact h2;have:=g3 b hb;simp only[zI,not_or]at this;exact this.2;rintro⟨g1,⟨g2,g3⟩,g4⟩;refine⟨fun b hb=>g1 b (by simp[hb]),g3,fun b hb=>?_⟩;simp only[zI,not_or];exact⟨fun e=>g2 b hb e.symm,g4 b (by simp[hb])⟩
theorem qqo{N:Nat}{x:aO}:EJ N x=0↔NOk x N:=by unfold EJ;by_cases h:x.Typex<0;simp only[h,if_true];exact⟨fun h=>absurd h qq3,fun h'=>by have:=h'.ty;omega⟩;simp only[h,if_false];rw[qql];exact⟨fun⟨h1,h2,_⟩=>⟨by omega,h2,h1⟩,fun h=>⟨h.arc,h.dis,fun _ _=>qq4⟩⟩
def Q8(N:Nat):X aO->Int
 |[]=>0|x::l=>if EJ N x≠0 then EJ N x else Q8 N l
theorem qqn{N:Nat}:∀{l:X aO},Q8 N l=0↔∀x∈l,NOk x N
 |[]=>by simp[Q8]
 |x::l=>by simp only[Q8];by_cases h:EJ N x=0;simp only[h,ne_eq,not_true,if_false,qqn (l:=l),zI,forall_eq_or_imp,qqo.1 h,true_and];simp only[h,ne_eq,not_false_eq_true,if_true,zI,forall_eq_or_imp,false_iff,not_and];exact fun h2=>absurd (qqo.2 h2) h
def GQ(f:GFS):Int:=if f.Nodes.length=0 then 1 else if f.Nodes.length>4096 then 7 else Q8 f.Nodes.length f.Nodes
variable{f:GFS}
theorem qqm:GQ f=0↔f.Nodes.length≠0/\f.Nodes.length<=4096/\kT f:=by unfold GQ;by_cases h0:f.Nodes.length=0;simp[h0];by_cases h1:f.Nodes.length>4096;simp[h0,h1];intro _;omega;simp only[h0,h1,if_false,qqn];exact⟨fun h=>⟨by simpa using h0,by omega,h⟩,fun h=>h.2.2⟩
structure rZ(f g:GFS)(Z:Int->Int)(S:Int->Prop):Prop where
 clo:∀v,S v->∀a∈sar f v,S a.To
 inj:∀u v,S u->S v->Z u=Z v->u=v
 ty:∀v,S v->(nd g (Z v)).Typex=(nd f v).Typex
 arc:∀v,S v->sar g (Z v)=(sar f v).map fun a=>⟨a.Feat,Z a.To⟩
theorem rZ.dfs{f g:GFS}{Z:Int->Int}{S:Int->Prop}(h:rZ f g Z S):∀(k:Nat)(o:X Int)(v:Int),S v->(∀u∈o,S u)->dfs g k (o.map Z) (Z v)=(Go.Proofs.dfs f k o v).map Z/\∀u∈Go.Proofs.dfs f k o v,S u
 |0,o,v,hv,ho=>⟨rfl,ho⟩|k+1,o,v,hv,ho=>by
  have key:∀(l:X aR)(p:X Int),(∀a∈l,S a.To)->(∀u∈p,S u)->
    (l.map fun a=>(⟨a.Feat,Z a.To⟩:aR)).foldl (kH (Go.Proofs.dfs g k)) (p.map Z)=(l.foldl (kH (Go.Proofs.dfs f k)) p).map Z/\∀u∈l.foldl (kH (Go.Proofs.dfs f k)) p,S u:=by
   intro l;induction l with
   |nil=>intro p _ hp;exact⟨rfl,hp⟩|cons a l ih=>
    intro p hl hp;have FQ:=hl a qq4;simp only[zQ,List.foldl_cons];have hm:Z a.To∈p.map Z↔a.To∈p:=by rw[List.mem_map];exact⟨fun⟨u,hu,e⟩=>by rw[<-h.inj u a.To (hp u hu) FQ e];exact hu,fun hu=>⟨_,hu,rfl⟩⟩
    by_cases jA:a.To∈p;have e1:kH (Go.Proofs.dfs g k) (p.map Z) (⟨a.Feat,Z a.To⟩:aR)=p.map Z:=by simp only[kH,hm.2 jA,if_true]
    have e2:kH (Go.Proofs.dfs f k) p a=p:=by simp only[kH,jA,if_true]
    rw[e1,e2];exact ih p (fun b hb=>hl b (List.mem_cons_of_mem _ hb)) hp;have e1:kH (Go.Proofs.dfs g k) (p.map Z) (⟨a.Feat,Z a.To⟩:aR)=Go.Proofs.dfs g k (p.map Z) (Z a.To):=by simp only[kH,mt hm.1 jA,if_false]
    have e2:kH (Go.Proofs.dfs f k) p a=Go.Proofs.dfs f k p a.To:=by simp only[kH,jA,if_false]
    obtain⟨g1,g2⟩:=rZ.dfs h k p a.To FQ hp;rw[e1,e2,g1];exact ih _ (fun b hb=>hl b (List.mem_cons_of_mem _ hb)) g2
  have ho1:∀u∈o++[v],S u:=fun u hu=>by rcases yD.1 hu with hu |hu;exact ho u hu;simp at hu;subst hu;exact hv
  have:=key (sar f v) (o++[v]) (h.clo v hv) ho1;refine⟨?_,this.2⟩;show(sar g (Z v)).foldl _ (o.map Z++[Z v])=_;have e:=this.1;simp only[List.map_append,zQ,List.map_nil]at e;rw[h.arc v hv];exact e
theorem qqx{Z:Int->Int}:∀{o:X Int}{x:Int},(∀u∈o,Z u=Z x->u=x)->(o.map Z).idxOf (Z x)=o.idxOf x
 |[],x,_=>rfl|u::o,x,h=>by
  simp only[zQ,List.idxOf_cons];have ih:=qqx (o:=o) (x:=x) fun w hw=>h w (List.mem_cons_of_mem _ hw);by_cases e:u=x;subst e;simp;have e2:¬ Z u=Z x:=fun h2=>e (h u qq4 h2);have e3:(u==x)=false:=by simpa using e
  have e4:(Z u==Z x)=false:=by simpa using e2
  simp only[e3,e4,zD,ih]
variable{r:Int}
theorem rZ.canon{g:GFS}{Z:Int->Int}{S:Int->Prop}(h:rZ f g Z S)(hf:kT f)(hg:kT g)(hr:gS f r)(hS:S r)(Br:gS g (Z r)):bP g (Z r)=(bP f r).map Z/\cO g (Z r)=cO f r:=by obtain⟨o1,s1⟩:=NC hf hr;obtain⟨o2,s2⟩:=NC hg Br;have h1:=h.dfs (f.Nodes.length+g.Nodes.length) [] r hS qq4;rw[List.map_nil,s1 _ qq0,s2 _ qq0]at h1;refine⟨h1.1,?_⟩;unfold cO;rw[h1.1,List.map_map];congr 1;refine List.map_congr_left fun v hv=>?_;have hSv:=h1.2 v hv;simp only[Function.comp,mK,h.ty v hSv,h.arc v hSv,List.map_map];congr 1;refine List.map_congr_left fun a ha=>?_;have hSa:=h.clo v hSv a ha;simp only[Function.comp,qD];rw[qqx fun u hu e=>h.inj u a.To (h1.2 u hu) hSa e]
theorem it{l:X aR}(h:lI l):uW l=l:=z2x h.dis (List.Perm.refl _) h
theorem YN{o:X Int}{v:Int}(h:v∈o):o[o.idxOf v]? = some v:=by have h1:=List.idxOf_lt_length_of_mem h;rw[List.getElem?_eq_getElem h1,List.getElem_idxOf]
structure qm(f:GFS)(r:Int)(c:GFS):Prop where
 len:c.Nodes.length=(bP f r).length
 le:c.Nodes.length<=f.Nodes.length
 pos:0<c.Nodes.length
 ok:kT c
 at_:∀v∈bP f r,nd c ((bP f r).idxOf v:Int)=mK f (bP f r) v
 up:∀x∈c.Nodes,lI x.Arcs
 sim:rZ f c (fun v=>((bP f r).idxOf v:Int)) (fun v=>v∈bP f r)
theorem WA{o:X Int}{l:X aR}(h:lI l):lI (l.map (qD o)):=by unfold lI at*;rw[List.pairwise_map];exact h
theorem Hf(hf:kT f)(hr:gS f r):qm f r (cO f r):=by
 obtain⟨o1,_⟩:=NC hf hr;have zR:∀v∈bP f r,nd (cO f r) ((bP f r).idxOf v:Int)=mK f (bP f r) v:=fun v hv=>by simp only[nd,cO,zZ,List.getElem?_map,YN hv,zM,Option.getD_some]
 have jA:∀v∈bP f r,gS f v:=o1.seen.ing;have E8:∀v∈bP f r,lI (mK f (bP f r) v).Arcs:=fun v hv=>WA (RP (hf _ (wB (jA v hv)).2).dis);refine⟨by simp[cO],by simp only[cO,yA];exact o1.seen.len,?_,?_,zR,?_,?_⟩;obtain⟨t,ht⟩:=o1.head;simp[cO,ht];intro x hx;simp only[cO,List.mem_map]at hx;obtain⟨v,hv,rfl⟩:=hx;have hn:=hf _ (wB (jA v hv)).2;refine⟨hn.ty,(E8 v hv).dis,fun a ha=>?_⟩;simp only[mK,List.mem_map]at ha;obtain⟨b,hb,rfl⟩:=ha;have cK:=tO.1 hb;refine⟨(hn.arc b cK).1,by simp only[qD];omega,?_⟩;have:=List.idxOf_lt_length_of_mem (o1.clo v hv b cK);simp only[qD,cO,yA];omega;intro x hx;simp only[cO,List.mem_map]at hx;obtain⟨v,hv,rfl⟩:=hx;exact E8 v hv;refine⟨fun v hv a ha=>o1.clo v hv a (tO.1 ha),fun u v hu hv e=>?_,fun v hv=>?_,fun v hv=>?_⟩;have h1:=YN hu;have h2:=YN hv;have e':(bP f r).idxOf u=(bP f r).idxOf v:=Int.ofNat.inj e;rw[e',h2]at h1;exact(Option.some.inj h1).symm;simp only[zR v hv,mK];simp only[sar,zR v hv];rw[it (E8 v hv)];rfl
theorem qx7(hf:kT f)(hr:gS f r):cO (cO f r) 0=cO f r/\bP (cO f r) 0=(bP f r).map fun v=>((bP f r).idxOf v:Int):=by
 have hc:=Hf hf hr;obtain⟨o1,_⟩:=NC hf hr;obtain⟨t,ht⟩:=o1.head;have hrm:r∈bP f r:=by rw[ht];simp
 have h0:((bP f r).idxOf r:Int)=0:=by rw[ht];simp
 have:=hc.sim.canon hf hc.ok hr hrm ⟨by omega,by have:=hc.pos;simp only[h0];omega⟩;simp only[h0]at this;exact⟨this.2,this.1⟩
theorem dI.canon{k:Nat}(hs:dI f k)(hf:kT f)(hr:gS f r):dI (cO f r) k:=by have hc:=Hf hf hr;obtain⟨o1,_⟩:=NC hf hr;refine⟨Nat.le_trans hc.le hs.nodes,fun x hx=>?_⟩;simp only[cO,List.mem_map]at hx;obtain⟨v,hv,rfl⟩:=hx;simp only[mK,yA,sar];rw[(NN _).length_eq];exact hs.arcs _ (wB (o1.seen.ing v hv)).2
end Go.Proofs
namespace Go.Proofs
open Go Go.Rx Go.Vx
set_option maxRecDepth 10000
def gA(a:eC):aR:=⟨a.f,(a.to:Int)⟩
def cN(x:PN):aO:=⟨x.kind,x.arcs.map gA⟩
def core(N:X PN):GFS:=⟨N.map cN⟩
def iN(l:X Nat):X Int:=l.map fun(i:Nat)=>(i:Int)
theorem Gr{l:X Nat}{u:Nat}:(u:Int)∈iN l↔u∈l:=by
 simp only[iN,List.mem_map];constructor;rintro⟨a,ha,e⟩;have:a=u:=by omega
 subst this;exact ha;exact fun h=>⟨u,h,rfl⟩
theorem fu(a b:X Nat):iN (a++b)=iN a++iN b:=by simp[iN]
theorem fp(l:X Nat):(iN l).length=l.length:=by simp[iN]
theorem fq{u:Nat}:∀{l:X Nat},(iN l).idxOf (u:Int)=l.idxOf u
 |[]=>rfl|a::l=>by
  rw[show iN (a::l)=(a:Int)::iN l from rfl,List.idxOf_cons,List.idxOf_cons,fq];have:((a:Int)==(u:Int))=(a==u):=by rw[Bool.eq_iff_iff];simp;omega
  rw[this]
structure CO(N:X PN):Prop where
 gok:kT (core N)
 up:∀x∈N,lI (x.arcs.map gA)
 len:N.length<=1000000
 sm:∀x∈N,x.arcs.length<=1000000
theorem j7(N:X PN):(core N).Nodes.length=N.length:=by simp[core]
variable{N:X PN}
theorem FF{i:Nat}{x:PN}(hx:N[i]? = some x):nd (core N) (i:Int)=cN x:=by simp only[nd,core,zZ,List.getElem?_map,hx,zM,Option.getD_some]
theorem CO.sar{N:X PN}(c:CO N){i:Nat}{x:PN}(hx:N[i]? = some x):Go.Proofs.sar (core N) (i:Int)=x.arcs.map gA:=by rw[Go.Proofs.sar,FF hx];exact it (c.up x (zX hx))
theorem CO.to{N:X PN}(c:CO N){i:Nat}{x:PN}(hx:N[i]? = some x):∀a∈x.arcs,a.to<N.length:=fun a ha=>by
 have:=((c.gok (cN x) (List.mem_map_of_mem (zX hx))).arc (gA a) (List.mem_map_of_mem ha)).2.2;rw[j7]at this;simp only[gA]at this;omega
theorem S'(q:Nat):∀(l:X Nat)(s:Nat),SR q l s=if q∈l then some (s+l.idxOf q)else none
 |[],s=>rfl|k::l,s=>by
  rw[SR];by_cases e:k=q;subst e;simp[beq_eq];have e1:Nat.beq k q=false:=by simp[beq_eq,e]
  have e2:(k==q)=false:=by simp[e]
  rw[e1,zD,S' q l,List.idxOf_cons,e2,zD];simp only[zI,Ne.symm e,false_or];split;congr 1;omega;rfl
structure VS(N:X PN)(s:X Nat×X aO):Prop where
 nd:s.1.Nodup
 ing:∀v∈s.1,v<N.length
 len:s.2.length=s.1.length
theorem qv5{l:X Nat}(h:l.Nodup):(iN l).Nodup:=by unfold iN List.Nodup at*;rw[List.pairwise_map];exact h.imp fun{a b} q e=>q qq0
theorem VS.seen{s:X Nat×X aO}(h:VS N s):Seen (core N) (iN s.1):=⟨qv5 h.nd,fun v hv=>by
 obtain⟨u,hu,rfl⟩:=List.mem_map.1 hv;have:=h.ing u hu;exact⟨by omega,by rw[j7];omega⟩⟩
theorem VS.le{s:X Nat×X aO}(h:VS N s):s.1.length<=N.length:=by have:=h.seen.len;rw[fp,j7]at this;exact this
theorem z2q(a b:X aO)(k:Int)(l:X aR):KP (a++[⟨k,[]⟩]++b) a.length l=a++⟨k,l⟩::b:=by simp[KP]
theorem AU{f:GFS}{o t:X Int}{u:Int}(hu:∀a∈(nd f u).Arcs,a.To∈o):mK f (o++t) u=mK f o u:=by simp only[mK,aO.mk.injEq,true_and];refine List.map_congr_left fun a ha=>?_;simp only[qD,List.idxOf_append,hu a (tO.1 ha),if_true]
theorem qw3{N:X PN}(c:CO N):∀(k:Nat)(s:X Nat×X aO)(v:Nat),VS N s->v<N.length->N.length-s.1.length<k->v ∉ s.1->
  ∃t,dfs (core N) k (iN s.1) (v:Int)=iN (s.1++v::t)/\BY N k v s=some (s.1.length,s.1++v::t,s.2++(v::t).map fun(u:Nat)=>mK (core N) (iN (s.1++v::t)) (u:Int))
 |0,s,v,hs,hv,hk,_=>by omega
 |k+1,s,v,hs,hv,hk,hm=>by
  obtain⟨x,hx⟩:∃x,N[v]? = some x:=⟨N[v],List.getElem?_eq_getElem hv⟩;have E9:VS N (s.1++[v],s.2++[⟨x.kind,[]⟩]):=⟨by
   show(s.1++[v]).Nodup;rw[List.nodup_append];refine⟨hs.nd,by simp,fun a ha b hb=>?_⟩;simp at hb;subst hb;intro e;subst e;exact hm ha,fun u hu=>by
   rcases yD.1 hu with hu |hu;exact hs.ing u hu;simp at hu;subst hu;exact hv,by simp[hs.len]⟩
  have FR:=E9.le;simp only[zU,zO,zS]at FR;have aQ:=c.len;have I4:=c.sm x (zX hx);have key:∀(l:X eC),(∀a∈l,a.to<N.length)->∀(s':X Nat×X aO)(aZ:X aR),VS N s'->s.1.length+1<=s'.1.length->aZ.length+l.length<=1000000->
    ∃t,(l.map gA).foldl (kH (dfs (core N) k)) (iN s'.1)=iN (s'.1++t)/\(∀a∈l,a.to∈s'.1++t)/\(∀u∈t,∀a∈(nd (core N) (u:Int)).Arcs,a.To∈iN (s'.1++t))/\
     XU (BY N k) l s' aZ=some (aZ++l.map (fun a=>qD (iN (s'.1++t)) (gA a)),s'.1++t,s'.2++t.map fun(u:Nat)=>mK (core N) (iN (s'.1++t)) (u:Int)):=by
   intro l;induction l with
   |nil=>intro _ s' aZ h1 h2 _;exact⟨[],by simp,by simp,by simp,by simp[XU]⟩|cons a l ih=>
    intro hl s' aZ h1 h2 h3;have ha:=hl a qq4;simp only[zO]at h3;rw[XU,aF,if_pos qq0];have pU:=h1.le;by_cases jA:a.to∈s'.1;have e1:BY N k a.to s'=some (s'.1.idxOf a.to,s'):=by obtain⟨k',rfl⟩:=Nat.exists_eq_add_of_le' (show 1<=k by omega);rw[BY,S',if_pos jA,Nat.zero_add]
    rw[e1,aM];obtain⟨t,q1,q2,q3,q4⟩:=ih (fun b hb=>hl b (List.mem_cons_of_mem _ hb)) s' (aZ++[⟨a.f,(s'.1.idxOf a.to:Int)⟩]) h1 h2 (by simp;omega);refine⟨t,?_,?_,q3,?_⟩;rw[zQ,List.foldl_cons];have:kH (dfs (core N) k) (iN s'.1) (gA a)=iN s'.1:=by rw[kH];exact if_pos (Gr.2 jA)
    rw[this,q1];intro b hb;rcases zI.1 hb with rfl |hb;exact List.mem_append_left _ jA;exact q2 b hb;rw[q4];have:qD (iN (s'.1++t)) (gA a)=⟨a.f,(s'.1.idxOf a.to:Int)⟩:=by simp only[qD,gA,fq,List.idxOf_append,jA,if_true]
    rw[zQ,this];simp;obtain⟨t1,e1,e2⟩:=qw3 c k s' a.to h1 ha qq0 jA;have hg:gS (core N) (a.to:Int):=⟨by omega,by rw[j7];omega⟩;obtain⟨d1,_,d3,_⟩:=Oh c.gok k (iN s'.1) (a.to:Int) h1.seen hg (fun h=>jA (Gr.1 h)) (by rw[j7,fp];omega);rw[e1]at d1 d3;rw[e2,aM];have nd1:(s'.1++a.to::t1).Nodup:=by have:=d1.nd;unfold iN List.Nodup at this;rw[List.pairwise_map]at this;exact this.imp fun{p q} h e=>h qq0
    have Kw:∀u∈a.to::t1,∀b∈(nd (core N) (u:Int)).Arcs,b.To∈iN (s'.1++a.to::t1):=fun u hu b hb=>by refine d3 u (Gr.2 (List.mem_append_right _ hu)) (fun h=>?_) b hb;rw[List.nodup_append]at nd1;exact nd1.2.2 u (Gr.1 h) u hu rfl
    have v1:VS N (s'.1++a.to::t1,s'.2++(a.to::t1).map fun(u:Nat)=>mK (core N) (iN (s'.1++a.to::t1)) (u:Int)):=⟨nd1,fun u hu=>by have:=(d1.ing u (Gr.2 hu)).2;rw[j7]at this;omega,by simp[h1.len]⟩;obtain⟨t,q1,q2,q3,q4⟩:=ih (fun b hb=>hl b (List.mem_cons_of_mem _ hb)) _ (aZ++[⟨a.f,(s'.1.length:Int)⟩]) v1 (by simp only[zU,zO];omega) (by simp;omega);simp only at q1 q2 q3 q4;have br:s'.1++(a.to::t1++t)=s'.1++a.to::t1++t:=by simp
    refine⟨a.to::t1++t,?_,?_,?_,?_⟩;rw[zQ,List.foldl_cons];have:kH (dfs (core N) k) (iN s'.1) (gA a)=iN (s'.1++a.to::t1):=by rw[kH];exact(if_neg (fun h=>jA (Gr.1 h))).trans e1
    rw[this,q1,br];intro b hb;rw[br];rcases zI.1 hb with rfl |hb;simp;exact q2 b hb;intro u hu b hb;rw[br];rcases yD.1 hu with hu |hu;rw[fu];exact List.mem_append_left _ (Kw u hu b hb);exact q3 u hu b hb;rw[q4,br];have e3:qD (iN (s'.1++a.to::t1++t)) (gA a)=⟨a.f,(s'.1.length:Int)⟩:=by simp only[qD,gA,fq,List.idxOf_append,yD,jA,zI,true_or,or_true,if_true,if_false,List.idxOf_cons_self];simp
    have e4:((a.to::t1).map fun(u:Nat)=>mK (core N) (iN (s'.1++a.to::t1++t)) (u:Int))=(a.to::t1).map fun(u:Nat)=>mK (core N) (iN (s'.1++a.to::t1)) (u:Int):=List.map_congr_left fun u hu=>by rw[fu _ t];exact AU (Kw u hu)
    rw[List.map_append,e4,zQ (f:=fun a=>qD _ (gA a)),e3];simp only[zT,List.singleton_append,List.cons_append,List.nil_append]
  obtain⟨t,q1,q2,q3,q4⟩:=key _ (c.to hx) (s.1++[v],s.2++[⟨x.kind,[]⟩]) [] E9 qq4 (by simp;omega);simp only at q1 q2 q3 q4;have e0:s.1++v::t=s.1++[v]++t:=by simp
  refine⟨t,?_,?_⟩;rw[dfs,c.sar hx,e0,<-q1,fu];rfl;have OS:=hs.len;rw[BY,S',if_neg hm];simp only[hx,aM];rw[aF,if_pos ⟨by omega,by omega⟩,q4,aM];simp only;rw[z2q,e0,OS,List.nil_append];have e2:mK (core N) (iN (s.1++[v]++t)) (v:Int)=⟨x.kind,x.arcs.map fun a=>qD (iN (s.1++[v]++t)) (gA a)⟩:=by rw[mK,FF hx,c.sar hx,List.map_map];rfl
  rw[zQ,e2]
theorem z5v{P:PP}(c:CO P.N){n:Nat}(hn:P.N.length<n){k:Int}{r:Nat}(h0:0<=k)(hr:P.roots[k.toNat]? = some r)(hl:r<P.N.length):AI n P k=some (cO (core P.N) (r:Int),true):=by
 have h1:k.toNat<P.roots.length:=(zG.1 hr).1;obtain⟨t,e1,e2⟩:=qw3 c n ([],[]) r ⟨List.nodup_nil,nofun,rfl⟩ hl (by simp;omega) qq4;obtain⟨o1,o2⟩:=NC c.gok (r:=(r:Int)) ⟨by omega,by rw[j7];omega⟩;simp only[List.nil_append]at e1 e2;have e3:dfs (core P.N) n [] (r:Int)=iN (r::t):=e1;rw[o2 n (by rw[j7];omega)]at e3;have h2:aB P.roots k=some r:=by rw[show k=((k.toNat:Nat):Int) by omega,cP,hr]
 rw[AI,decide_eq_false qq0,zD,decide_eq_false qq0,zD,h2,aM,e2,aM];simp only[cO,e3,iN,List.map_map];rfl
theorem z1d{P:PP}{n:Nat}{k:Int}(h:¬ (0<=k/\k<(P.roots.length:Int))):AI n P k=some (⟨[]⟩,false):=by rw[AI];by_cases h0:k<0;rw[decide_eq_true h0,zC];rw[decide_eq_false h0,zD,decide_eq_true qq0,zC]
end Go.Proofs
namespace Go.Proofs
open Go Go.Rx Go.Vx Go.Shelf Go.Sort
set_option maxRecDepth 10000
theorem qn6{N:Nat}:∀{l:X aR}{s s':X Int},(∀x,x∈s↔x∈s')->DG N s l=DG N s' l
 |[],s,s',_=>rfl|a::l,s,s',h=>by simp only[DG];rw[qn6 (l:=l) (s:=a.Feat::s) (s':=a.Feat::s') fun x=>by simp only[zI,h x]];by_cases h1:a.Feat∈s;simp only[h1,(h _).1 h1,if_true];simp only[h1,mt (h _).2 h1,if_false]
theorem qyo{l:X aR}(hl:l.length<=1000000){i:Nat}{x:aR}(hx:l[i]? = some x)(hi:i<l.length){rc:Int->V Int}:∀(m k:Nat),i-k<m->k<=i->
  Iw l i rc m k=if x.Feat∈((l.take i).drop k).map aR.Feat then some 4 else rc (IntKind.i64.wrap ((i:Int)+1))
 |0,k,hm,_=>by omega
 |m+1,k,hm,hk=>by
  unfold Iw;by_cases aE:k<i;obtain⟨y,hy,_⟩:=fP (l:=l) (i:=k) qq0;have qJ:(l.take i)[k]? = some y:=by rw[List.getElem?_take_of_lt aE];exact hy
  have hd:decide ((k:Int)<(i:Int))=true:=jB aE;have hw:IntKind.i64.wrap ((k:Int)+1)=((k+1:Nat):Int):=W4 qq0 qq0;simp only[hd,zC,cP,hy,hx,aM,aX qJ,zQ,zI,hw];by_cases e:y.Feat=x.Feat;simp[e];have e2:(y.Feat==x.Feat)=false:=by simpa using e
  have e3:¬ x.Feat=y.Feat:=fun h=>e h.symm;simp only[e2,zD,e3,false_or];exact qyo hl hx hi m (k+1) qq0 qq0;have hd:decide ((k:Int)<(i:Int))=false:=jV aE;have:(l.take i).drop k=[]:=List.drop_eq_nil_of_le (by simp;omega);simp only[hd,zD,yl,this,List.map_nil,List.not_mem_nil,if_false]
theorem qyn{l:X aR}{N n:Nat}(hl:l.length<=1000000)(hn:l.length<n):∀(m i:Nat),l.length-i<m->i<=l.length->NY l N n m i=some (DG N ((l.take i).map aR.Feat) (l.drop i))
 |0,i,hm,_=>by omega
 |m+1,i,hm,hi=>by
  unfold NY;by_cases aE:i<l.length;obtain⟨a,ha,_⟩:=fP aE;have h2:=qyo hl ha aE (rc:=NY l N n m) n 0 qq0 qq0;rw[zV,List.drop_zero]at h2;simp only[jB aE,zC,cP,ha,aM,aX ha,DG];by_cases h1:a.Feat<0;simp[h1,aM];by_cases h3:a.To<0;simp[h1,h3,aM];by_cases h4:a.To>=(N:Int);simp[h1,h3,h4,aM];simp only[h1,h3,h4,yB,zD,aM,or_self,if_false,h2,kX aE (show l.length<=9223372036854775807 by omega)];rw[qyn hl hn m (i+1) qq0 qq0,jG ha];by_cases h5:a.Feat∈(l.take i).map aR.Feat;simp only[h5,if_true];simp only[h5,if_false];congr 1;exact qn6 fun x=>by simp[or_comm]
  simp only[jV aE,zD,ym,bW aE,DG]
theorem qzj{f:GFS}{k:Nat}(hf:dI f k)(hk:k<=1000000){n:Nat}(hn:k<n):∀(m i:Nat),f.Nodes.length-i<m->i<=f.Nodes.length->Iv f n m i=some (Q8 f.Nodes.length (f.Nodes.drop i))
 |0,i,hm,_=>by omega
 |m+1,i,hm,hi=>by
  have yZ:=hf.nodes;unfold Iv;by_cases aE:i<f.Nodes.length;obtain⟨x,hx,g8⟩:=fP aE;have lU:=hf.arcs x g8;have h2:=qyn (l:=x.Arcs) (N:=f.Nodes.length) (n:=n) qq0 qq0 n 0 qq0 qq0;rw[zV,List.drop_zero,List.take_zero,List.map_nil]at h2;simp only[jB aE,zC,cP,hx,aM,aX hx,Q8,EJ,kq,h2,kX aE (show f.Nodes.length<=9223372036854775807 by omega)];by_cases h1:x.Typex<0;simp[h1];simp only[h1,yB,zD,if_false];by_cases h3:DG f.Nodes.length [] x.Arcs=0;simp only[h3,bne_self_eq_false,zD,ne_eq,not_true,if_false];exact qzj hf hk hn m (i+1) qq0 qq0;have hb:(DG f.Nodes.length [] x.Arcs != 0)=true:=by simpa using h3
  simp only[hb,zC,h3,ne_eq,not_false_eq_true,if_true];simp only[jV aE,zD,yk,bW aE,Q8]
variable{f:GFS}
variable{k:Nat}
variable{n:Nat}
theorem z9e(hf:dI f k)(hk:k<=1000000)(hn:k<n):Pw n f=some (GQ f):=by
 have yZ:=hf.nodes;unfold Pw GQ;by_cases h0:f.Nodes.length=0;simp[h0];have e0:((f.Nodes.length:Int)==0)=false:=by simp;intro h;simp[h]at h0
 simp only[e0,zD,h0,if_false];by_cases h1:f.Nodes.length>4096;have:(f.Nodes.length:Int)>4096:=by omega
 simp[h1,this];have:¬ (f.Nodes.length:Int)>4096:=by omega
 simp only[h1,this,yB,zD,if_false];have h:=qzj hf hk hn n 0 qq0 qq0;rw[zV,List.drop_zero]at h;exact h
theorem z7q{l:X aR}{i:Nat}{x:aR}(hx:l[i]? = some x){out:X aR}(BC:out.length<=1000000)(E8:lI out){rc:Int->X aR->V (X aR)}:∀(m p:Nat),p<m->p<=out.length->(∀a∈out.drop p,x.Feat<a.Feat)->
  ∃q,q<=out.length/\Jj l i out rc m p=Jk l i out rc (q:Int)/\(∀a∈out.drop q,x.Feat<a.Feat)/\(∀a∈out.take q,a.Feat<=x.Feat)
 |0,p,hm,_,_=>by omega
 |m+1,p,hm,hp,hd=>by
  unfold Jj;cases p with
  |zero=>
   have:¬ ((0:Nat):Int)>0:=by omega
   simp only[this,yB,zD,aM];exact⟨0,by omega,rfl,hd,by simp⟩
  |succ p=>
   have h0:((p+1:Nat):Int)>0:=by omega
   have hw:IntKind.i64.wrap (((p+1:Nat):Int)-1)=(p:Int):=W4 qq0 qq0;obtain⟨y,hy,_⟩:=fP (l:=out) (i:=p) qq0;simp only[h0,yC,zC,hw,cP,hy,hx,aM];by_cases e:y.Feat>x.Feat;simp only[e,yC,zC];refine z7q hx BC E8 m p qq0 qq0 fun a ha=>?_;rw[aX hy]at ha;rcases zI.1 ha with rfl |ha
   omega;exact hd a ha;simp only[e,yB,zD];refine⟨p+1,hp,rfl,hd,fun a ha=>?_⟩;obtain⟨j,hj,rfl⟩:=List.mem_iff_getElem.1 ha;simp only[List.length_take]at hj;rw[List.getElem_take];obtain⟨uF,ey⟩:=zG.1 hy;by_cases ej:j=p;subst ej;rw[ey];omega;have:=List.pairwise_iff_getElem.1 E8 j p qq0 uF qq0;rw[ey]at this;omega
theorem As{l:X aR}{i:Nat}{x:aR}(hx:l[i]? = some x){out:X aR}(BC:out.length<=1000000){rc:Int->X aR->V (X aR)}{q:Nat}(hq:q<=out.length):
  Jk l i out rc (q:Int)=rc (IntKind.i64.wrap ((i:Int)+1)) (out.take q++x::out.drop q):=by
 have e1:(out.drop 0).take ((q:Int)).toNat=out.take q:=by rw[List.drop_zero,zZ]
 have e2:(out.drop (0+((q:Int)).toNat)).take (out.length-((q:Int)).toNat)=out.drop q:=by rw[zZ,Nat.zero_add,zW qq4]
 have l1:(out.take q).length=q:=by simp;omega
 have n1:(0:Int)<=(q:Int)/\(q:Int)<=((out.length:Nat):Int):=by omega
 have n2:0+((q:Int)).toNat<=out.length:=by rw[zZ];omega
 have n3:(out.take q).length*16<=140737488355328/\(out.take q).length<=140737488355328:=by omega
 have n4:((out.take q).length+1)*16<=140737488355328/\(out.take q).length+1<=140737488355328:=by omega
 have n5:(0+((q:Int)).toNat)+(out.length-((q:Int)).toNat)<=out.length:=by rw[zZ];omega
 have n6:((out.take q++[x]).length+(out.drop q).length)*16<=140737488355328/\(out.take q++[x]).length+(out.drop q).length<=140737488355328:=by simp;omega
 unfold Jk;simp only[aF,e1,e2,cP,hx,aM];rw[if_pos n1,if_pos n2,if_pos n3,if_pos n4,if_pos n1,if_pos n5,if_pos n6];simp
theorem z7p{l:X aR}(hl:l.length<=1000000)(hd:jC l){n:Nat}(hn:l.length<n):∀(m i:Nat),l.length-i<m->i<=l.length->OD l n m i (uW (l.take i))=some (uW l)
 |0,i,hm,_=>by omega
 |m+1,i,hm,hi=>by
  have hdi:jC (l.take i):=hd.sublist (List.take_sublist i l);have BC:(uW (l.take i)).length=i:=by rw[(NN _).length_eq];simp;omega
  unfold OD;by_cases aE:i<l.length;obtain⟨x,hx,_⟩:=fP aE;obtain⟨q,q1,q2,q3,q4⟩:=z7q hx (out:=uW (l.take i)) qq0 (RP hdi) (rc:=OD l n m) n (uW (l.take i)).length qq0 (zF _) qq4;simp only[jB aE,zC,q2,As hx (show(uW (l.take i)).length<=1000000 by omega) q1,kX aE (show l.length<=9223372036854775807 by omega)];have Cv:jC (l.take (i+1)):=hd.sublist (List.take_sublist _ l);have CL:((uW (l.take i)).take q++x::(uW (l.take i)).drop q).Perm (l.take (i+1)):=by rw[jG hx];refine List.perm_middle.trans ?_;rw[List.take_append_drop];exact((NN (l.take i)).cons x).trans (List.perm_append_comm (l₁:=[x]) (l₂:=l.take i))
  have cR:∀a∈uW (l.take i),a.Feat≠x.Feat:=fun a ha e=>by rw[jG hx]at Cv;have:=(List.pairwise_append.1 Cv).2.2 a ((NN _).mem_iff.1 ha) x qq4;exact this e
  have E8:lI ((uW (l.take i)).take q++x::(uW (l.take i)).drop q):=by have h0:=RP hdi;unfold lI at*;rw[List.pairwise_append];refine⟨h0.sublist (List.take_sublist _ _),List.pairwise_cons.2 ⟨q3,h0.sublist (List.drop_sublist _ _)⟩,fun a ha b hb=>?_⟩;have h1:=q4 a ha;have h2:=cR a (List.mem_of_mem_take ha);rcases zI.1 hb with rfl |hb;omega;have:=q3 b hb;omega
  rw[<-z2x Cv CL E8];exact z7p hl hd hn m (i+1) qq0 qq0;simp only[jV aE,zD,ur];rw[zW qq0]
theorem qjw{l:X aR}(hl:l.length<=1000000)(hd:jC l)(hn:l.length<n):Qv n l=some (uW l):=by have h:=z7p hl hd hn n 0 qq0 qq0;rw[zV,List.take_zero]at h;exact h
structure KA(f:GFS)(w:X Int)(o:X Int):Prop where
 len:w.length=f.Nodes.length
 get:∀x,gS f x->aB w x=some (if x∈o then(o.idxOf x:Int)else -1)
theorem KA.snoc{w o:X Int}(h:KA f w o){v:Int}(hv:gS f v)(hn:v ∉ o):KA f (w.set (0+v.toNat) (o.length:Int)) (o++[v]):=by
 refine⟨by simp[h.len],fun x hx=>?_⟩;have tB:v.toNat<w.length:=by rw[h.len];have:=hv.1;have:=hv.2;omega
 have hc:0<=x/\x<((w.set (0+v.toNat) (o.length:Int)).length:Int):=by rw[List.length_set,h.len];exact hx
 have h2:=h.get x hx;have P9:0<=x/\x<(w.length:Int):=by rw[h.len];exact hx
 rw[aB,if_pos P9]at h2;rw[aB,if_pos hc,Nat.zero_add];by_cases e:x=v;subst e;simp[List.idxOf_append,hn,tB];rw[List.getElem?_set_ne (by have:=hx.1;have:=hv.1;omega),h2];by_cases hxo:x∈o;simp[hxo,List.idxOf_append];simp[hxo,e]
theorem qs3{f:GFS}{k:Nat}(hg:kT f)(hf:dI f k)(hk:k<=1000000):∀(n:Nat)(o:X Int)(v:Int)(w:X Int),Seen f o->gS f v->v ∉ o->KA f w o->f.Nodes.length-o.length+k+2<=n->
  ∃w',OH n v f.Nodes w o=some (w',dfs f n o v)/\KA f w' (dfs f n o v)
 |0,o,v,w,hs,hv,hn,hw,bf=>by omega
 |n+1,o,v,w,hs,hv,hn,hw,bf=>by
  have E9:=hs.snoc hv hn;have FR:=E9.len;simp only[zU,zO,zS]at FR;obtain⟨hx,g8⟩:=wB hv;have eT:=hg _ g8;have lU:=hf.arcs _ g8;have yZ:=hf.nodes;have I5:(sar f v).length=(nd f v).Arcs.length:=(NN _).length_eq;have key:∀(m i:Nat)(p:X Int)(w:X Int),(sar f v).length-i<m->i<=(sar f v).length->Seen f p->o.length+1<=p.length->KA f w p->
    ∃w',SN f.Nodes (sar f v) (OH n) m i w p=some (w',((sar f v).drop i).foldl (kH (dfs f n)) p)/\KA f w' (((sar f v).drop i).foldl (kH (dfs f n)) p):=by
   intro m;induction m with
   |zero=>intro i p w hm;omega|succ m ih=>
    intro i p w hm hi hp vO hw;unfold SN;by_cases aE:i<(sar f v).length;obtain⟨a,ha,BL⟩:=fP aE;have h1:=eT.arc a (tO.1 BL);have hia:gS f a.To:=⟨h1.2.1,h1.2.2⟩;have fM:IntKind.i64.wrap ((i:Int)+1)=((i+1:Nat):Int):=kX aE qq0;simp only[jB aE,zC,cP,ha,aM,hw.get _ hia,aX ha,List.foldl_cons];by_cases uJ:a.To∈p;have By:¬ ((p.idxOf a.To:Nat):Int)<0:=by omega
    simp only[uJ,if_true,By,yB,zD,Js,fM,kH];exact ih (i+1) p w qq0 qq0 hp vO hw;have By:(-1:Int)<0:=by decide
    simp only[uJ,if_false,By,yC,zC,Js,fM,kH];obtain⟨w1,g1,g2⟩:=qs3 hg hf hk n p a.To w hp hia uJ hw qq0;obtain⟨d1,⟨t,d2⟩,_,_⟩:=Oh hg n p a.To hp hia uJ qq0;simp only[g1,aM];exact ih (i+1) _ w1 qq0 qq0 d1 (by rw[d2];simp;omega) g2;rw[bW aE];simp only[jV aE,zD,pc,List.foldl_nil];exact⟨w,rfl,hw⟩
  have wZ:(o.length+1)*8<=140737488355328/\o.length+1<=140737488355328:=by omega
  obtain⟨w',g1,g2⟩:=key n 0 (o++[v]) _ qq0 qq0 E9 qq4 (hw.snoc hv hn);rw[zV,List.drop_zero]at g1;rw[List.drop_zero]at g2;refine⟨w',?_,g2⟩;show sx n (OH n) v f.Nodes w o=_;simp only[sx,hw.get _ hv,aF,wZ,and_self,if_true,hx,aM,qjw (show(nd f v).Arcs.length<=1000000 by omega) eT.dis (show(nd f v).Arcs.length<n by omega)];exact g1
theorem qzo{f:GFS}{o w:X Int}{z:Int}{l27:X aO}{rc:Int->X aO->V GFS}{x:aO}{l:X aR}(hl:l.length<=1000000)(hw:KA f w o)(jA:∀a∈l,a.To∈o)(Wh:∀v∈o,gS f v):∀(m i:Nat),l.length-i<m->i<=l.length->
  YW (w,o) z l27 rc x m i ((l.take i).map (qD o)++l.drop i)=Rb z l27 rc x (l.map (qD o))
 |0,i,hm,_=>by omega
 |m+1,i,hm,hi=>by
  unfold YW;have aQ:((l.take i).map (qD o)++l.drop i).length=l.length:=by simp;omega
  rw[aQ];by_cases aE:i<l.length;obtain⟨a,ha,BL⟩:=fP aE;have e1:(((l.take i).map (qD o)++l.drop i))[i]? = some a:=by rw[List.getElem?_append_right (by simp;omega)];simp[show min i l.length=i by omega,ha]
  have e2:(((l.take i).map (qD o)++l.drop i)).set (0+(i:Int).toNat) (qD o a)=(l.take (i+1)).map (qD o)++l.drop (i+1):=by
   rw[aX ha,jG ha];have h3:((l.take i).map (qD o)).length=i:=by simp;omega
   have:=XI ((l.take i).map (qD o)) (l.drop (i+1)) a (qD o a);rw[h3]at this;rw[Nat.zero_add,zZ,this,List.map_append,zQ,List.map_nil,zT];rfl
  have pS:=jA a BL;have e3:(⟨a.Feat,(o.idxOf a.To:Int)⟩:aR)=qD o a:=rfl;simp only[jB aE,zC,cP,e1,aM,hw.get _ (Wh _ pS),pS,if_true,e3,e2,kX aE (show l.length<=9223372036854775807 by omega)];exact qzo hl hw jA Wh m (i+1) qq0 qq0;simp only[jV aE,zD];rw[zW qq0,List.drop_eq_nil_of_le qq0,List.append_nil]
theorem qzn{f:GFS}{k:Nat}(hg:kT f)(hf:dI f k)(hk:k<=1000000){n:Nat}(hn:k+2<=n){r:Int}{o w:X Int}(ho:VT f r o)(hw:KA f w o):∀(m i:Nat),o.length-i<m->i<=o.length->
  O0 f n (w,o) m i ((o.take i).map (mK f o))=some ⟨o.map (mK f o)⟩
 |0,i,hm,_=>by omega
 |m+1,i,hm,hi=>by
  have BC:=ho.seen.len;have yZ:=hf.nodes;unfold O0;by_cases aE:i<o.length;obtain⟨v,hv,yV⟩:=fP aE;obtain⟨hx,g8⟩:=wB (ho.seen.ing v yV);have eT:=hg _ g8;have lU:=hf.arcs _ g8;have I5:(sar f v).length=(nd f v).Arcs.length:=(NN _).length_eq;have h2:=qzo (z:=(i:Int)) (l27:=(o.take i).map (mK f o)) (rc:=O0 f n (w,o) m) (x:=nd f v) (l:=sar f v) qq0 hw (fun a ha=>ho.clo v yV a (tO.1 ha)) ho.seen.ing n 0 qq0 qq0;rw[zV,List.take_zero,List.map_nil,List.nil_append,List.drop_zero]at h2;have wZ:(((o.take i).map (mK f o)).length+1)*32<=140737488355328/\((o.take i).map (mK f o)).length+1<=140737488355328:=by simp;omega
  have hso:=qjw (show(nd f v).Arcs.length<=1000000 by omega) eT.dis (show(nd f v).Arcs.length<n by omega);simp only[jB aE,zC,cP,hv,hx,aM,hso];show YW (w,o) i _ _ (nd f v) n 0 (sar f v)=_;rw[h2];simp only[Rb,aF];rw[if_pos wZ,kX aE (show o.length<=9223372036854775807 by omega)];have:=qzn hg hf hk hn ho hw m (i+1) qq0 qq0;rw[jG hv]at this;simpa[mK,sar]using this;simp only[jV aE,zD,yn];rw[zW qq0]
theorem qzm{f:GFS}(hN:f.Nodes.length<=1000000){r:Int}{n:Nat}:∀(m i:Nat),f.Nodes.length-i<m->i<=f.Nodes.length->Ix f r n m i (List.replicate i (-1))=Rd f r n (List.replicate f.Nodes.length (-1))
 |0,i,hm,_=>by omega
 |m+1,i,hm,hi=>by
  unfold Ix;by_cases aE:i<f.Nodes.length;have wZ:((List.replicate i (-1:Int)).length+1)*8<=140737488355328/\(List.replicate i (-1:Int)).length+1<=140737488355328:=by simp;omega
  have e:List.replicate i (-1:Int)++[-1]=List.replicate (i+1) (-1):=by rw[List.replicate_succ']
  simp only[jB aE,zC,aF];rw[if_pos wZ,kX aE (show f.Nodes.length<=9223372036854775807 by omega),e];exact qzm hN m (i+1) qq0 qq0;simp only[jV aE,zD];rw[show i=f.Nodes.length by omega]
theorem qzp(hg:kT f)(hf:dI f k)(hk:k<=1000000){r:Int}(hr:gS f r)(hn:2*k+4<=n):Hz n f r=some (cO f r):=by
 obtain⟨ho,dC⟩:=NC hg hr;have yZ:=hf.nodes;have h0:KA f (List.replicate f.Nodes.length (-1)) []:=⟨by simp,fun x hx=>by
  have hc:0<=x/\x<((List.replicate f.Nodes.length (-1:Int)).length:Int):=by rw[List.length_replicate];exact hx
  rw[aB,if_pos hc];have:x.toNat<f.Nodes.length:=by have:=hx.1;have:=hx.2;omega
  simp[this]⟩
 obtain⟨w,g1,g2⟩:=qs3 hg hf hk n [] r _ (Seen.nil f) hr qq4 h0 (by simp;omega);rw[dC n qq0]at g1 g2;have BC:=ho.seen.len;have h1:=qzn hg hf hk (show k+2<=n by omega) ho g2 n 0 qq0 qq0;rw[zV,List.take_zero,List.map_nil]at h1;have h2:=qzm (f:=f) qq0 (r:=r) (n:=n) n 0 qq0 qq0;rw[zV,List.replicate_zero]at h2;simp only[Hz,h2,Rd,g1,aM,h1,cO]
theorem qtu(hf:dI f k)(hk:k<=1000000)(hn:2*k+4<=n):Qk n f=some (if GQ f=0 then(cO f 0,0)else(⟨[]⟩,GQ f)):=by
 simp only[Qk,z9e hf hk (show k<n by omega),aM];by_cases he:GQ f=0;obtain⟨e1,e2,e3⟩:=qqm.1 he;simp[he,qzp e3 hf hk (r:=0) ⟨by omega,by omega⟩ hn,aM];have hb:(GQ f != 0)=true:=by simpa using he
 simp[he,hb]
end Go.Proofs
namespace Go.Proofs
structure Gcell where
 forward:Int
 kind:Int
 arcs:X aR
end Go.Proofs
namespace Go.Proofs
open Go Go.Rx Go.Vx
def DF(l:X aR)(f:Int):PE:=l.any (fun x=>x.Feat==f)
variable{f:Int}
theorem YK{l:X aR}:DF l f=true↔∃x∈l,x.Feat=f:=by simp[DF]
def oK(a b:X aR):X aR:=b.filter fun y=>!DF a y.Feat
def prs(a b:X aR):X (Int×Int):=b.filterMap fun y=>(a.find? fun x=>x.Feat==y.Feat).map fun x=>(x.To,y.To)
variable{a:X aR}
theorem qzg(hd:jC a){x:aR}(hx:x∈a)(hf:x.Feat=f):a.find? (fun x=>x.Feat==f)=some x:=by
 have key:∀o,a.find? (fun x=>x.Feat==f)=o->o=some x:=by intro o h;rcases o with _|y;have:=List.find?_eq_none.1 h x hx;simp[hf]at this;have h1:=List.find?_some h;have h2:=List.mem_of_find?_eq_some h;simp at h1;rw[hd.eq y h2 x hx qq0]
 exact key _ rfl
theorem qzh(h:∀x∈a,x.Feat≠f):a.find? (fun x=>x.Feat==f)=none:=by rw[List.find?_eq_none];intro x hx;simpa using h x hx
theorem z0e(a b:X aR)(y:aR):oK a (b++[y])=oK a b++(if DF a y.Feat then[]else[y]):=by unfold oK;rw[List.filter_append];cases h:DF a y.Feat<;>simp[h]
variable{b:X aR}
theorem qtl(hd:jC a){x y:aR}(hx:x∈a)(hf:x.Feat=y.Feat):prs a (b++[y])=prs a b++[(x.To,y.To)]:=by simp[prs,List.filterMap_append,qzg hd hx hf]
theorem qrf{y:aR}(h:∀x∈a,x.Feat≠y.Feat):prs a (b++[y])=prs a b:=by simp[prs,List.filterMap_append,qzh h]
theorem Ou(a:X aR):∀b:X aR,(oK a b).length+(prs a b).length=b.length
 |[]=>rfl|y::b=>by
  have ih:=Ou a b;unfold oK prs at*;cases h:a.find? (fun x=>x.Feat==y.Feat)with
  |none=>
   have h2:DF a y.Feat=false:=by rw[List.find?_eq_none]at h;rw[Bool.eq_false_iff];intro e;obtain⟨x,hx,he⟩:=YK.1 e;have:=h x hx;simp[he]at this
   simp only[List.filter_cons,h2,Bool.not_false,if_true,List.filterMap_cons,h,Option.map_none,zO];omega
  |some x=>have h2:DF a y.Feat=true:=YK.2 ⟨x,List.mem_of_find?_eq_some h,by have:=List.find?_some h;simpa using this⟩;simp only[List.filter_cons,h2,Bool.not_true,Bool.false_eq_true,if_false,List.filterMap_cons,h,zM,zO];omega
theorem z1m{p:Int×Int}(h:p∈prs a b):∃x∈a,∃y∈b,x.Feat=y.Feat/\p=(x.To,y.To):=by obtain⟨y,hy,e⟩:=List.mem_filterMap.1 h;rcases h1:a.find? (fun x=>x.Feat==y.Feat)with _|x;rw[h1]at e;cases e;rw[h1]at e;have h2:=List.find?_some h1;exact⟨x,List.mem_of_find?_eq_some h1,y,hy,by simpa using h2,(Option.some.inj e).symm⟩
theorem qw7(a b:X aR)(y:aR):prs a (y::b)=((a.find? fun x=>x.Feat==y.Feat).map fun x=>(x.To,y.To)).toList++prs a b:=by unfold prs;cases h:a.find? (fun x=>x.Feat==y.Feat)<;>simp[List.filterMap_cons,h]
structure Nz(N D:Nat)(aH d:Nat->Nat):Prop where
 lt:∀i,i<N->aH i<N
 idem:∀i,i<N->aH (aH i)=aH i
 zero:∀i,i<N->d (aH i)=0
 bd:∀i,i<N->d i<=D
def fZ(aH:Nat->Nat)(m n i:Nat):Nat:=if aH i=n then m else aH i
def Q9(aH d:Nat->Nat)(n i:Nat):Nat:=if aH i=n then d i+1 else d i
def Om(N:Nat)(aH d:Nat->Nat)(i j:Nat):Prop:=j<N/\aH j=aH i/\d j<d i
variable{N:Nat}
variable{D:Nat}
variable{aH:Nat->Nat}
variable{d:Nat->Nat}
variable{m:Nat}
variable{n:Nat}
theorem Nz.mrg(h:Nz N D aH d)(hm:m<N)(em:aH m=m)(en:aH n=n)(LW:m≠n):Nz N (D+1) (fZ aH m n) (Q9 aH d n) where
 lt i hi:=by unfold fZ;split;exact hm;exact h.lt i hi
 idem i hi:=by have h1:=h.idem i hi;unfold fZ;by_cases e:aH i=n;simp[e,em,LW];simp[e,h1]
 zero i hi:=by have h1:=h.idem i hi;have h2:=h.zero i hi;have h3:=h.zero m hm;unfold fZ Q9;rw[em]at h3;by_cases e:aH i=n;simp[e,em,LW,h3];simp[e,h1,h2]
 bd i hi:=by have:=h.bd i hi;unfold Q9;split<;>omega
variable{i:Nat}
theorem Om.mrg{D:Nat}{j:Nat}(h:Om N aH d i j):Om N (fZ aH m n) (Q9 aH d n) i j:=by obtain⟨h1,h2,h3⟩:=h;refine⟨h1,by simp[fZ,h2],?_⟩;unfold Q9;rw[h2];split<;>omega
theorem z5c(h:Nz N D aH d)(hm:m<N)(hn:n<N)(em:aH m=m)(en:aH n=n)(LW:m≠n):Om N (fZ aH m n) (Q9 aH d n) n m:=by have h3:=h.zero m hm;have h4:=h.zero n hn;rw[em]at h3;rw[en]at h4;refine⟨hm,by simp[fZ,em,en,LW],?_⟩;simp[Q9,em,en,LW,h3,h4]
theorem z2r{v12:Type}{l:X v12}{k:Nat}{x y:v12}(h:(l.set k x)[i]? = some y):(i=k/\y=x)\/(i≠k/\l[i]? = some y):=by rw[List.getElem?_set]at h;by_cases e:k=i;rw[if_pos e]at h;split at h;exact Or.inl ⟨e.symm,(Option.some.inj h).symm⟩;cases h;rw[if_neg e]at h;exact Or.inr ⟨fun q=>e q.symm,h⟩
theorem jt(em:aH m=m)(LW:m≠n)(h:fZ aH m n i=i):i≠n/\aH i=i:=by unfold fZ at h;by_cases e:aH i=n;rw[if_pos e]at h;subst h;exact⟨LW,em⟩;rw[if_neg e]at h;exact⟨fun q=>e (by rw[h,q]),h⟩
theorem z69(em:aH m=m)(h:fZ aH m n i≠i)(hn:i≠n):aH i≠i:=by intro q;apply h;unfold fZ;rw[q,if_neg hn]
def tot(l:X Gcell):Nat:=(l.map fun c=>c.arcs.length).sum
theorem xk:∀{l:X Gcell}{i:Nat}{x:Gcell}(c:Gcell),l[i]? = some x->tot (l.set i c)+x.arcs.length=tot l+c.arcs.length
 |[],i,x,c,h=>by simp at h
 |y::l,0,x,c,h=>by
  have:y=x:=by simpa using h
  subst this;simp only[List.set_cons_zero,tot,zQ,List.sum_cons];omega
 |y::l,i+1,x,c,h=>by have:=xk (l:=l) (i:=i) c (by simpa using h);simp only[List.set_cons_succ,tot,zQ,List.sum_cons]at this ⊢;omega
theorem ir:∀{l:X Gcell}{i:Nat}{x:Gcell},l[i]? = some x->x.arcs.length<=tot l:=fun{l i x} h=>by
 have:=xk (Gcell.mk 0 0 []) h;simp only[zS]at this;omega
structure Fi(N:Nat)(FB:Int)(l:X aR):Prop where
 up:lI l
 ok:∀a∈l,0<=a.Feat/\a.Feat<FB/\0<=a.To/\a.To<N
def MB(cells:X Gcell)(m n:Nat)(t:Int)(o:X aR):X Gcell:=(cells.set m ⟨-1,t,o⟩).set n ⟨(m:Int),0,[]⟩
def rI(aH:Nat->Nat)(v:Int):Int:=(aH v.toNat:Int)
end Go.Proofs
namespace Go.Proofs
open Go Go.Rx Go.Vx
set_option maxRecDepth 10000
def pk(p:Int×Int):m6:=⟨p.1,p.2⟩
end Go.Proofs
