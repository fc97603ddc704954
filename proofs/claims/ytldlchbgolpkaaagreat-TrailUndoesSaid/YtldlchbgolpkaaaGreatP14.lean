import Derived.Test.YtldlchbgolpkaaaGreatP13
set_option linter.all false
namespace Go.Proofs
open Go Go.Rx Go.Vx Tryz
instance:TbP prog Tryz.tb:=⟨tb_ok⟩
set_option maxRecDepth 20000
set_option maxHeartbeats 4000000
set_option synthInstance.maxSize 4000
set_option synthInstance.maxHeartbeats 200000
instance:y6 Tryz.tb 214 [.nils,.nils,.nils] [(0,1),(1,1),(2,1)]:=⟨AD RL.h Uw.h rfl (by kernel_rfl)⟩
abbrev OR(a)(b:Nat)(c)(d:Nat)(e)(f:Nat)(g)(h):=([(6,.bv bA a 78 2 b),(5,.row [.vl 6 b 0 a.length] 40),(4,.bv (cI .i64) c 3 1 d),(3,.bv (cI .i64) e 3 1 f),(2,.row [.iM bA g,.vl 3 f 0 e.length,.vl 4 d 0 c.length] 214),(1,.row [.nils] 40),(0,.row [.iM bA h] 40)]:List (Nat×B))
abbrev OQ(a)(b:Nat)(c:Nat)(d)(e):=([(0,.row [.iM bA a,.vl 1 b 0 d.length,.vl 2 c 0 e.length] 214),(1,.bv (cI .i64) d 3 1 b),(2,.bv (cI .i64) e 3 1 c)]:List (Nat×B))
abbrev Gr(a):=([(1,.row [.nils] 40),(0,.row [.iM bA a] 40)]:List (Nat×B))
def Iu(p1:List aK)(z6:Int)(l7:List aK)(bV:Int->(List aK)->Option ((List aK)))(dV:Int):Option ((List aK)):=
 aF ((0:Int)<=dV/\dV<=((l7.length:Nat):Int)) (
 aF (0+dV.toNat<=l7.length) (
 aF (((l7.drop 0).take dV.toNat).length*16<=140737488355328/\((l7.drop 0).take dV.toNat).length<=140737488355328) (
 a8 (aB p1 z6) fun kD=>
 aF ((((l7.drop 0).take dV.toNat).length+1)*16<=140737488355328/\((l7.drop 0).take dV.toNat).length+1<=140737488355328) (
 aF ((0:Int)<=dV/\dV<=((l7.length:Nat):Int)) (
 aF ((0+dV.toNat)+(l7.length-dV.toNat)<=l7.length) (
 aF (((((l7.drop 0).take dV.toNat)++[kD]).length+((l7.drop (0+dV.toNat)).take (l7.length-dV.toNat)).length)*16<=140737488355328/\(((l7.drop 0).take dV.toNat)++[kD]).length+((l7.drop (0+dV.toNat)).take (l7.length-dV.toNat)).length<=140737488355328) (
 bV (IntKind.i64.wrap (z6+1)) ((((l7.drop 0).take dV.toNat)++[kD])++((l7.drop (0+dV.toNat)).take (l7.length-dV.toNat))))))))))
def Is(p1:List aK)(z6:Int)(l7:List aK)(bV:Int->(List aK)->Option ((List aK))):Nat->Int->Option ((List aK))
 |0,_=>none|m2+1,LS=>a8 (cond (decide (LS>0)) (a8 (aB l7 (IntKind.i64.wrap (LS-1))) fun j6=>a8 (aB p1 z6) fun lD=>some (decide (j6.Feat>lD.Feat))) (some false)) fun b33=>cond b33 ((Is p1 z6 l7 bV m2) (IntKind.i64.wrap (LS-1))) (Iu p1 z6 l7 bV LS)
def mz  (l9:List aK):Option ((List aK)):=
 some l9
def PK(p1:List aK)(n:Nat):Nat->Int->(List aK)->Option ((List aK))
 |0,_,_=>none|m1+1,z6,l7=>cond (decide (z6<(p1.length:Int))) (Is p1 z6 l7 (PK p1 n m1) n (l7.length:Int)) (mz l7)
def Rb(n:Nat)(p1:List aK):Option ((List aK)):=
 PK p1 n n 0 ([]:List aK)
theorem qjs(n:Nat)(p1:List aK)(r:(List aK))(J:Rb n p1=some r):bE prog 137 [.isl false (p1.map aU)] ⟨[],0⟩ (fun u X'=>∃t,u=.vl 0 t 0 r.length/\X'=⟨[(0,.bv aU r 98 2 t)],0+1⟩):=by
 unfold Rb at J;refine kC 52 KW ?_;refine gr ?_;refine gr ?_;refine gr ?_;refine gV 3 98 2 1 ?_;refine gL (fun m tm X=>∃z6 l7 t8,PK p1 n m z6 l7=some r/\tm=fr 52 [(0,.iM aU p1),(3,.vl 0 t8 0 l7.length),(4,.i6 z6)]/\X=⟨[(0,.bv aU l7 98 2 t8)],1⟩) (fun tm X=>∃l9 cH,mz l9=some r/\tm=fr 52 [(3,.vl 0 cH 0 l9.length)]/\X=⟨[(0,.bv aU l9 98 2 cH)],1⟩) n ⟨0,([]:List aK),0,J,rfl,rfl⟩ ?_ ?_;rintro _ _ ⟨l9,cH,J,rfl,rfl⟩;unfold mz at J;refine go ?_;obtain rfl:=sI J;exact⟨.inr rfl,[.vl 0 cH 0 l9.length],eA rfl dL,.vl 0 cH 0 l9.length,⟨[(0,.bv aU l9 98 2 cH)],1⟩,NZ,Gh.trans (W4 (fun k=>Nat.beq k 0)) (Gh.to (n1:=1) [] rfl rfl NZ NL eU.h BH.h),cH,rfl,rfl⟩;rintro(_|m1) _ _ ⟨z6,l7,t8,J,rfl,rfl⟩;cases J;unfold PK at J;refine gF J ?_ ?_<;>intro iT J;refine go ?_;apply aV;refine go ?_;refine gL (fun m tm X=>∃LS,Is p1 z6 l7 (PK p1 n m1) m LS=some r/\tm=fr 52 [(0,.iM aU p1),(3,.vl 0 t8 0 l7.length),(4,.i6 z6),(5,.i6 LS)]/\X=⟨[(0,.bv aU l7 98 2 t8)],1⟩) (fun tm X=>∃dV,Iu p1 z6 l7 (PK p1 n m1) dV=some r/\tm=fr 52 [(0,.iM aU p1),(3,.vl 0 t8 0 l7.length),(4,.i6 z6),(5,.i6 dV)]/\X=⟨[(0,.bv aU l7 98 2 t8)],1⟩) n ⟨(l7.length:Int),J,rfl,rfl⟩ ?_ ?_;rintro _ _ ⟨dV,J,rfl,rfl⟩;unfold Iu at J;obtain⟨iX,J⟩:=d9 J;obtain⟨rE,J⟩:=d9 J;obtain⟨m8,J⟩:=d9 J;refine go ?_;refine aP (u:=.vl 0 t8 0 dV.toNat) rfl (AW rfl mL (AL rfl) mL (O6 aU eJ.h (aZ kG.h) rQ (vo rfl) (Nat.le_of_eq (Nat.zero_add _)) (Y3 iX.1 iX.2))) (aP (u:=.vl 1 0 0 (((l7.drop 0).take dV.toNat).length)) (X':=⟨[(1,.bv aU ((l7.drop 0).take dV.toNat) 98 2 0),(0,.bv aU l7 98 2 t8)],2⟩) rfl (uU rfl rfl rfl rfl (da aU ((l7.drop 0).take dV.toNat) eJ.h eJ.h kG.h rfl (zq aU rQ (vo rfl) rE) m8)) ?_);obtain⟨kD,mW,J⟩:=aC J;obtain⟨pN,J⟩:=d9 J;refine go ?_;refine aY mW ?_;refine go ?_;refine aP (u:=.sl 2 0 1 1) (X':=⟨[(2,.row (aU kD) 98),(1,.bv aU ((l7.drop 0).take dV.toNat) 98 2 0),(0,.bv aU l7 98 2 t8)],3⟩) rfl (uA eJ.h kG.h rfl rfl rfl rfl rfl rfl rfl) ?_;refine bR ?_;obtain⟨qH,J⟩:=d9 J;obtain⟨mV,J⟩:=d9 J;obtain⟨w6,J⟩:=d9 J;refine go ?_;refine aP (u:=.vl 0 t8 (0+dV.toNat) (l7.length-dV.toNat)) rfl (AW rfl (AL rfl) mL mL (O6 aU eJ.h (aZ kG.h) rQ (vo rfl) (Nat.le_of_eq (Nat.zero_add _)) (wm qH.1 qH.2))) (aP (u:=.vl 1 2 0 (((((l7.drop 0).take dV.toNat)++[kD])++((l7.drop (0+dV.toNat)).take (l7.length-dV.toNat))).length)) (X':=⟨[(2,.row (aU kD) 98),(1,.bv aU ((((l7.drop 0).take dV.toNat)++[kD])++((l7.drop (0+dV.toNat)).take (l7.length-dV.toNat))) 98 2 2),(0,.bv aU l7 98 2 t8)],3⟩) rfl (uU rfl rfl rfl rfl (SC aU ((l7.drop (0+dV.toNat)).take (l7.length-dV.toNat)) eJ.h eJ.h kG.h rfl rQ rfl (zq aU rQ (vo rfl) mV) w6)) ?_);refine go ?_;exact⟨m1,_,_,zN _,⟨(IntKind.i64.wrap (z6+1)),((((l7.drop 0).take dV.toNat)++[kD])++((l7.drop (0+dV.toNat)).take (l7.length-dV.toNat))),2,J,rfl,rfl⟩,NZ,Gh.trans (Gh.sub (l':=[(0,.iM aU p1),(3,.vl 1 2 0 (((((l7.drop 0).take dV.toNat)++[kD])++((l7.drop (0+dV.toNat)).take (l7.length-dV.toNat))).length)),(4,.i6 (IntKind.i64.wrap (z6+1)))]) ⟨rfl,rfl,rfl,trivial⟩) (Gh.trans (Gh.mv (l':=[(0,.iM aU p1),(3,.vl 0 2 0 (((((l7.drop 0).take dV.toNat)++[kD])++((l7.drop (0+dV.toNat)).take (l7.length-dV.toNat))).length)),(4,.i6 (IntKind.i64.wrap (z6+1)))]) (h':=[(2,.row (aU kD) 98),(0,.bv aU ((((l7.drop 0).take dV.toNat)++[kD])++((l7.drop (0+dV.toNat)).take (l7.length-dV.toNat))) 98 2 2)]) 0 1 NZ rfl rfl (by simp only[rS,rU,j7,SE,AY,Nat.beq,zC,zD]) rfl (by simp only[Zx,rB,Fo,j7,rU,SE,zr,AY,Nat.beq,zC,zD,and_self])) (Gh.toC (n1:=1) ⟨rfl,rfl,rfl,trivial⟩ rfl NZ (by simp)))⟩;rintro(_|m2) _ _ ⟨LS,J,rfl,rfl⟩;cases J;unfold Is at J;obtain⟨b33,nW,J⟩:=aC J;refine gn ?_;refine dM (fun tm X=>tm=fr 52 [(0,.iM aU p1),(3,.vl 0 t8 0 l7.length),(4,.i6 z6),(5,.i6 LS),(30,.bool b33)]/\X=⟨[(0,.bv aU l7 98 2 t8)],1⟩) ?_ ?_;rintro _ _ ⟨rfl,rfl⟩;refine gF J ?_ ?_<;>intro rA J;refine go ?_;apply aV;refine go ?_;exact lC ⟨_,J,rfl,rfl⟩;refine go ?_;exact xC ⟨LS,J,rfl,rfl⟩;refine dE [] ?_;refine gd ?_;rcases gB nW with⟨rC,nW⟩|⟨rC,nW⟩;obtain⟨j6,sA,nW⟩:=aC nW;obtain⟨lD,oB,nW⟩:=aC nW;obtain rfl:=sI nW;refine gd ?_;refine RD.w rfl (dX rfl rfl (hZ aU eJ.h (aZ kG.h) (by decide) rQ (vo rfl) sA)) ?_;refine RD.w rfl (jW y9.h rfl (aZ i5.h) rfl (uB rfl) rfl) (RD.w (u:=.i6 j6.Feat) rfl (wL aU lW.h rfl rQ rfl rfl (oP sA) rfl) ?_);refine gd ?_;refine cA oB ?_;refine gd ?_;refine bI ⟨by kernel_rfl,trivial,?_⟩;refine go ?_;exact xC ⟨rfl,rfl⟩;obtain rfl:=sI nW;refine gd ?_;refine bI ⟨by kernel_rfl,trivial,?_⟩;refine go ?_;exact xC ⟨rfl,rfl⟩;refine go ?_;exact xC ⟨l7,t8,J,rfl,rfl⟩
def Jq(dU:Int)(bV:Int->(List Int)->(List Int)->Option ((List Int)×(List Int)))(m6:List Int)(sY:List Int):Option ((List Int)×(List Int)):=
 bV (IntKind.i64.wrap (dU+1)) m6 sY
def pb  (l27:List Int) (cB:List Int):Option ((List Int)×(List Int)):=
 some (l27,cB)
def TG(p2:List aN)(eL:List aK)(self:Int->(List aN)->(List Int)->(List Int)->Option ((List Int)×(List Int))):Nat->Int->(List Int)->(List Int)->Option ((List Int)×(List Int))
 |0,_,_,_=>none|m1+1,dU,l24,oS=>
  cond (decide (dU<(eL.length:Int))) (a8 (aB eL dU) fun lD=>
   a8 (aB l24 lD.To) fun qK=>cond (decide (qK<0)) (a8 (aB eL dU) fun x39=>
    a8 (self x39.To p2 l24 oS) fun tY=>
    Jq dU (TG p2 eL self m1) tY.1 tY.2) (Jq dU (TG p2 eL self m1) l24 oS)) (pb l24 oS)
def ss(n:Nat)(self:Int->(List aN)->(List Int)->(List Int)->Option ((List Int)×(List Int)))(p1:Int)(p2:List aN)(p3:List Int)(p5:List Int):Option ((List Int)×(List Int)):=
 a8 (aB p3 p1) fun x7=>
 aF ((p5.length+1)*8<=140737488355328/\p5.length+1<=140737488355328) (
 a8 (aB p2 p1) fun x10=>
 a8 (Rb n x10.Arcs) fun eL=>
 TG p2 eL self n 0 (p3.set (0+p1.toNat) (p5.length:Int)) (p5++[p1]))
def PO:Nat->Int->(List aN)->(List Int)->(List Int)->Option ((List Int)×(List Int))
 |0,_,_,_,_=>none|n+1,p1,p2,p3,p5=>ss n (PO n) p1 p2 p3 p5
theorem qcv:∀(n:Nat)(p1:Int)(p2:List aN)(p3:List Int)(p5:List Int)(r:(List Int)×(List Int)),PO n p1 p2 p3 p5=some r->∀t4 t6:Nat,bE prog 136 [.ptr 0 0 0,.int .i64 p1] ⟨OQ p2 t4 t6 p3 p5,3⟩ (fun u X'=>∃t:Nat->Nat,u=.tup []/\X'=⟨OQ p2 t4 (t 0) r.1 r.2,3⟩)
 |0,p1,p2,p3,p5,r,J=>by cases J
 |n+1,p1,p2,p3,p5,r,J=>by have ih:=qcv n;unfold PO ss at J;intro t4 t6;refine gI 62 KX ?_;obtain⟨x7,h8,J⟩:=aC J;refine gn ?_;refine dM (fun tm X=>tm=fr 62 [(0,.ptr 0 0 0),(1,.i6 p1)]/\X=⟨OQ p2 t4 t6 (p3.set (0+p1.toNat) (p5.length:Int)) p5,3⟩) ?_ ?_;rintro _ _ ⟨rfl,rfl⟩;obtain⟨h9,J⟩:=d9 J;refine go ?_;refine aP (u:=.ptr 0 0 0) rfl (fK rfl rfl) ?_;refine go ?_;refine bR ?_;refine bR ?_;refine aP (u:=.ptr 0 0 0) rfl (fK rfl rfl) ?_;obtain⟨x10,iT,J⟩:=aC J;obtain⟨eL,dF,J⟩:=aC J;refine go ?_;refine aP (u:=.ptr 0 0 0) rfl (fK rfl rfl) ?_;refine go ?_;refine aY iT ?_;refine go ?_;refine kJ (R:=fun u X'=>u=.vl 4 0 0 eL.length/\X'=⟨(4,.bv aU eL 98 2 0)::(3,.row [.i6 p1] 3)::OQ p2 t4 (t6+1) (p3.set (0+p1.toNat) (p5.length:Int)) (p5++[p1]),5⟩) (args:=[.iM aU x10.Arcs]) rfl (gC rfl rfl KW hb137 rfl rfl) (ql aU (qjs n x10.Arcs eL dF) _ 4 rfl) rfl rfl ?_;rintro _ _ ⟨rfl,rfl⟩;refine go ?_;refine gL (fun m tm X=>∃dU l24,∃oS Na,TG p2 eL (PO n) m dU l24 oS=some r/\tm=fr 62 [(0,.ptr 0 0 0),(4,.vl 4 0 0 eL.length),(5,.i6 dU)]/\X=⟨(4,.bv aU eL 98 2 0)::(3,.row [.i6 p1] 3)::OQ p2 t4 Na l24 oS,5⟩) (fun tm X=>∃l27 cB jP,pb l27 cB=some r/\tm=fr 62 []/\X=⟨(4,.bv aU eL 98 2 0)::(3,.row [.i6 p1] 3)::OQ p2 t4 jP l27 cB,5⟩) n ⟨0,(p3.set (0+p1.toNat) (p5.length:Int)),(p5++[p1]),(t6+1),J,rfl,rfl⟩ ?_ ?_;rintro _ _ ⟨l27,cB,jP,J,rfl,rfl⟩;unfold pb at J;refine go ?_;obtain rfl:=sI J;exact⟨.inl rfl,[],dL,.tup [],⟨OQ p2 t4 jP l27 cB,3⟩,NL,Gh.to (n1:=3) [] rfl rfl NL NL eU.h BH.h,stF [jP],rfl,rfl⟩;rintro(_|m1) _ _ ⟨dU,l24,oS,Na,J,rfl,rfl⟩;cases J;unfold TG at J;refine gF J ?_ ?_<;>intro sA J;refine go ?_;apply aV;obtain⟨lD,oB,J⟩:=aC J;obtain⟨qK,nW,J⟩:=aC J;refine go ?_;refine dE [] ?_;refine gd ?_;refine aQ (u:=.ptr 0 0 0) rfl (fK rfl rfl) ?_;refine gd ?_;refine aQ rfl (dX rfl rfl (hZ aU eJ.h (aZ kG.h) (by decide) rQ (vo rfl) oB)) ?_;refine aQ rfl (jW y9.h rfl (aZ i5.h) rfl (uB rfl) rfl) (aQ (u:=.i6 lD.To) rfl (wL aU lW.h rfl rQ rfl rfl (oP oB) rfl) ?_);refine aQ rfl (dX rfl rfl (hZ (cI .i64) fJ.h (aZ i5.h) (by decide) (m5 .i64) (vo rfl) nW)) ?_;refine aQ rfl (AV (cI .i64) (fun x=>.i6 x) lW.h rfl (fun _=>rfl) rfl rfl nW) ?_;refine gd ?_;refine bI ⟨by kernel_rfl,trivial,?_⟩;refine gn ?_;refine dM (fun tm X=>∃m6 sY LZ,Jq dU (TG p2 eL (PO n) m1) m6 sY=some r/\tm=fr 62 [(0,.ptr 0 0 0),(4,.vl 4 0 0 eL.length),(5,.i6 dU)]/\X=⟨(4,.bv aU eL 98 2 0)::(3,.row [.i6 p1] 3)::OQ p2 t4 LZ m6 sY,5⟩) ?_ ?_;rintro _ _ ⟨m6,sY,LZ,J,rfl,rfl⟩;unfold Jq at J;refine go ?_;exact lC ⟨_,m6,sY,LZ,J,rfl,rfl⟩;refine cF J ?_ ?_<;>intro rA J;obtain⟨x39,uJ,J⟩:=aC J;obtain⟨tY,qZ,J⟩:=aC J;refine go ?_;refine aP rfl (dX rfl rfl (hZ aU eJ.h (aZ kG.h) (by decide) rQ (vo rfl) uJ)) ?_;refine aP rfl (jW y9.h rfl (aZ i5.h) rfl (uB rfl) rfl) (aP (u:=.i6 x39.To) rfl (wL aU lW.h rfl rQ rfl rfl (oP uJ) rfl) (kJ (args:=[.ptr 0 0 0,.i6 x39.To]) rfl (gC rfl rfl KX hb136 rfl rfl) (bE.st [0,1,2] (ih x39.To p2 l24 oS tY qZ t4 Na)) rfl rfl ?_));rintro _ _ ⟨sL,rfl,rfl⟩;refine go ?_;exact xC ⟨tY.1,tY.2,(sL 0),J,rfl,rfl⟩;refine go ?_;exact xC ⟨l24,oS,Na,J,rfl,rfl⟩;refine go ?_;exact xC ⟨l24,oS,Na,J,rfl,rfl⟩;refine dE [] ?_;refine gd ?_;refine aQ (u:=.ptr 0 0 0) rfl (fK rfl rfl) ?_;refine gd ?_;refine aQ (u:=.ptr 0 0 0) rfl (fK rfl rfl) ?_;refine gd ?_;refine aQ rfl (dX rfl rfl (hZ (cI .i64) fJ.h (aZ i5.h) (by decide) (m5 .i64) (vo rfl) h8)) ?_;refine RD.actn (u:=.junk) (X':=⟨[(0,.row [.iM bA p2,.vl 1 t4 0 p3.length,.vl 2 t6 0 p5.length] 214),(1,.bv (cI .i64) (p3.set (0+p1.toNat) (p5.length:Int)) 3 1 t4),(2,.bv (cI .i64) p5 3 1 t6)],3⟩) rfl (Es (cI .i64) (aZ i5.h) (m5 .i64) rfl rfl rfl rfl rfl rfl rfl (oP h8) rfl) rfl ?_;refine bI ⟨by kernel_rfl,trivial,?_⟩;refine go ?_;exact⟨_,_,⟨rfl,rfl⟩,NL,oF ⟨rfl,rfl,trivial⟩ (by simp only[OQ,List.length_set])⟩
def Rj(jC:Int)(l27:List aN)(hO:Int->(List aN)->Option (GFS))(oG:aN)(o7:List aK):Option (GFS):=
 aF ((l27.length+1)*32<=140737488355328/\l27.length+1<=140737488355328) (
 hO (IntKind.i64.wrap (jC+1)) (l27++[(aN.mk oG.Typex o7)]))
def YV(eF:(List Int)×(List Int))(jC:Int)(l27:List aN)(hO:Int->(List aN)->Option (GFS))(oG:aN):Nat->Int->(List aK)->Option (GFS)
 |0,_,_=>none|m3+1,CV,rR=>
  cond (decide (CV<(rR.length:Int))) (a8 (aB rR CV) fun CY=>
   a8 (aB eF.1 CY.To) fun CX=>
   a8 (aB rR CV) fun GS=>(YV eF jC l27 hO oG m3) (IntKind.i64.wrap (CV+1)) (rR.set (0+CV.toNat) (aK.mk GS.Feat CX))) (Rj jC l27 hO oG rR)
def vt  (fB:List aN):Option (GFS):=
 some (GFS.mk fB)
def P6(p1:GFS)(n:Nat)(eF:(List Int)×(List Int)):Nat->Int->(List aN)->Option (GFS)
 |0,_,_=>none|m2+1,jC,l27=>
  cond (decide (jC<(eF.2.length:Int))) (a8 (aB eF.2 jC) fun uP=>
   a8 (aB p1.Nodes uP) fun oG=>
   a8 (Rb n oG.Arcs) fun Fh=>
   YV eF jC l27 (P6 p1 n eF m2) oG n 0 Fh) (vt l27)
def Rk(p1:GFS)(p2:Int)(n:Nat)(gT:List Int):Option (GFS):=
 a8 (PO n p2 p1.Nodes gT ([]:List Int)) fun eF=>
 P6 p1 n eF n 0 ([]:List aN)
def Ie(p1:GFS)(p2:Int)(n:Nat):Nat->Int->(List Int)->Option (GFS)
 |0,_,_=>none|m1+1,z9,l10=>cond (decide (z9<(p1.Nodes.length:Int))) (aF ((l10.length+1)*8<=140737488355328/\l10.length+1<=140737488355328) ((Ie p1 p2 n m1) (IntKind.i64.wrap (z9+1)) (l10++[(-1)]))) (Rk p1 p2 n l10)
def Hf(n:Nat)(p1:GFS)(p2:Int):Option (GFS):=
 Ie p1 p2 n n 0 ([]:List Int)
theorem qnn(n:Nat)(p1:GFS)(p2:Int)(r:GFS)(J:Hf n p1 p2=some r):d5 prog 106 [.agg [.isl false (p1.Nodes.map bA)],.int .i64 p2] (.agg [.isl false (r.Nodes.map bA)]):=by
 unfold Hf at J;refine gI 88 L4 ?_;refine gr ?_;refine gr ?_;refine gr ?_;refine cE (tm':=fr 88 [(1,.i6 p2),(2,.ptr 0 0 0),(4,.ptr 1 0 0),(5,.ptr 2 0 0),(6,.i6 0)]) (X':=⟨(3,.bv (cI .i64) ([]:List Int) 3 1 0)::(2,.row [.iM bA p1.Nodes,.vl 3 0 0 (([]:List Int).length),.nils] 214)::Gr p1.Nodes,4⟩) (Gh.trans (xI 2 1 3 1 (by decide) NZ rfl rfl) (oF ⟨rfl,rfl,rfl,rfl,rfl,trivial⟩ rfl)) NZ ?_;refine gL (fun m tm X=>∃z9 l10 lN,Ie p1 p2 n m z9 l10=some r/\tm=fr 88 [(1,.i6 p2),(2,.ptr 0 0 0),(4,.ptr 1 0 0),(5,.ptr 2 0 0),(6,.i6 z9)]/\X=⟨(3,.bv (cI .i64) l10 3 1 lN)::(2,.row [.iM bA p1.Nodes,.vl 3 lN 0 l10.length,.nils] 214)::Gr p1.Nodes,4⟩) (fun tm X=>∃gT m9,Rk p1 p2 n gT=some r/\tm=fr 88 [(1,.i6 p2),(2,.ptr 0 0 0),(4,.ptr 1 0 0),(5,.ptr 2 0 0)]/\X=⟨(3,.bv (cI .i64) gT 3 1 m9)::(2,.row [.iM bA p1.Nodes,.vl 3 m9 0 gT.length,.nils] 214)::Gr p1.Nodes,4⟩) n ⟨0,([]:List Int),0,J,rfl,rfl⟩ ?_ ?_;rintro _ _ ⟨gT,m9,J,rfl,rfl⟩;unfold Rk at J;refine gn ?_;refine cE (tm':=fr 88 [(1,.i6 p2),(2,.ptr 0 0 0),(4,.ptr 1 0 0),(5,.ptr 2 0 0)]) (X':=⟨(4,.bv (cI .i64) ([]:List Int) 3 1 0)::(3,.bv (cI .i64) gT 3 1 m9)::(2,.row [.iM bA p1.Nodes,.vl 3 m9 0 gT.length,.vl 4 0 0 (([]:List Int).length)] 214)::Gr p1.Nodes,5⟩) (Gh.trans (xI 2 2 3 1 (by decide) NZ rfl rfl) (oF ⟨rfl,rfl,rfl,rfl,trivial⟩ rfl)) NZ ?_;obtain⟨eF,eN,J⟩:=aC J;refine go ?_;refine kJ (args:=[.ptr 2 0 0,.i6 p2]) rfl (gC rfl rfl KX hb136 rfl rfl) (bE.st [2,3,4] (qcv n p2 p1.Nodes gT ([]:List Int) eF eN m9 0)) rfl rfl ?_;rintro _ _ ⟨eY,rfl,rfl⟩;refine gr ?_;refine gr ?_;refine cE (tm':=fr 88 [(2,.ptr 0 0 0),(4,.ptr 1 0 0),(5,.ptr 2 0 0),(7,.ptr 5 0 0),(8,.i6 0)]) (X':=⟨(6,.bv bA ([]:List aN) 78 2 0)::(5,.row [.vl 6 0 0 (([]:List aN).length)] 40)::(4,.bv (cI .i64) eF.2 3 1 (eY 0))::(3,.bv (cI .i64) eF.1 3 1 m9)::(2,.row [.iM bA p1.Nodes,.vl 3 m9 0 eF.1.length,.vl 4 (eY 0) 0 eF.2.length] 214)::Gr p1.Nodes,7⟩) (Gh.trans (xI 5 0 78 2 (by decide) NZ rfl rfl) (oF ⟨rfl,rfl,rfl,rfl,rfl,trivial⟩ rfl)) NZ ?_;refine gL (fun m tm X=>∃jC l27 qN,P6 p1 n eF m jC l27=some r/\tm=fr 88 [(2,.ptr 0 0 0),(4,.ptr 1 0 0),(5,.ptr 2 0 0),(7,.ptr 5 0 0),(8,.i6 jC)]/\X=⟨OR l27 qN eF.2 (eY 0) eF.1 m9 p1.Nodes p1.Nodes,7⟩) (fun tm X=>∃fB oI,vt fB=some r/\tm=fr 88 [(4,.ptr 1 0 0),(7,.ptr 5 0 0)]/\X=⟨OR fB oI eF.2 (eY 0) eF.1 m9 p1.Nodes p1.Nodes,7⟩) n ⟨0,([]:List aN),0,J,rfl,rfl⟩ ?_ ?_;rintro _ _ ⟨fB,oI,J,rfl,rfl⟩;unfold vt at J;refine go ?_;obtain rfl:=sI J;exact rT (us:=[.agg [.vl 6 oI 0 fB.length]]) (u:=.agg [.iM bA fB]) (lZ (iP jF.h rfl (aZ nG.h) rfl rfl rfl) (dL)) (fR 6 2);rintro(_|m2) _ _ ⟨jC,l27,qN,J,rfl,rfl⟩;cases J;unfold P6 at J;refine go ?_;refine aP (u:=.ptr 2 0 0) rfl (fK rfl rfl) ?_;refine gF J ?_ ?_<;>intro vB J;refine go ?_;apply aV;obtain⟨uP,tO,J⟩:=aC J;obtain⟨oG,rA,J⟩:=aC J;refine go ?_;refine dE [(0,11),(1,11),(2,11),(3,11),(4,11),(5,11),(6,11),(7,11),(8,11),(9,11),(10,11)] ?_;refine gd ?_;refine aQ (u:=.ptr 2 0 0) rfl (fK rfl rfl) ?_;refine gd ?_;refine aQ rfl (dX rfl rfl (hZ (cI .i64) fJ.h (aZ i5.h) (by decide) (m5 .i64) (vo rfl) tO)) ?_;refine aQ rfl (AV (cI .i64) (fun x=>.i6 x) lW.h rfl (fun _=>rfl) rfl rfl tO) ?_;refine cA rA ?_;refine gd ?_;refine eC ?_;refine qJ ?_;refine bI ⟨by kernel_rfl,⟨jW jF.h rfl (aZ FR.h) rfl rfl rfl,⟨oO jG.h rfl rfl rfl rfl,⟨iQ rfl,⟨fK rfl rfl,⟨jW RL.h rfl (aZ D_.h) rfl rfl rfl,⟨oO fJ.h rfl rfl rfl rfl,⟨iQ rfl,⟨dX rfl rfl (hZ (cI .i64) fJ.h (aZ i5.h) (by decide) (m5 .i64) (vo rfl) tO),⟨AV (cI .i64) (fun x=>.i6 x) lW.h rfl (fun _=>rfl) rfl rfl tO,⟨dX rfl rfl (Fs bA jG.h (aZ mD.h) SU rA rfl),⟨z9o wD.h rfl (aZ mD.h) rfl rfl,trivial⟩⟩⟩⟩⟩⟩⟩⟩⟩⟩⟩,?_⟩;obtain⟨Fh,HO,J⟩:=aC J;refine go ?_;refine kJ (R:=fun u X'=>u=.vl 8 0 0 Fh.length/\X'=⟨(8,.bv aU Fh 98 2 0)::(7,.row (bA oG) 78)::OR l27 qN eF.2 (eY 0) eF.1 m9 p1.Nodes p1.Nodes,9⟩) (args:=[.iM aU oG.Arcs]) rfl (gC rfl rfl KW hb137 rfl rfl) (ql aU (qjs n oG.Arcs Fh HO) _ 8 rfl) rfl rfl ?_;rintro _ _ ⟨rfl,rfl⟩;refine go ?_;refine gL (fun m tm X=>∃CV rR,YV eF jC l27 (P6 p1 n eF m2) oG m CV rR=some r/\tm=fr 88 [(2,.ptr 0 0 0),(4,.ptr 1 0 0),(5,.ptr 2 0 0),(7,.ptr 5 0 0),(8,.i6 jC),(9,.ptr 7 0 0),(10,.vl 8 0 0 rR.length),(11,.i6 CV)]/\X=⟨(8,.bv aU rR 98 2 0)::(7,.row (bA oG) 78)::OR l27 qN eF.2 (eY 0) eF.1 m9 p1.Nodes p1.Nodes,9⟩) (fun tm X=>∃o7,Rj jC l27 (P6 p1 n eF m2) oG o7=some r/\tm=fr 88 [(2,.ptr 0 0 0),(4,.ptr 1 0 0),(5,.ptr 2 0 0),(7,.ptr 5 0 0),(8,.i6 jC),(9,.ptr 7 0 0),(10,.vl 8 0 0 o7.length)]/\X=⟨(8,.bv aU o7 98 2 0)::(7,.row (bA oG) 78)::OR l27 qN eF.2 (eY 0) eF.1 m9 p1.Nodes p1.Nodes,9⟩) n ⟨0,Fh,J,rfl,rfl⟩ ?_ ?_;rintro _ _ ⟨o7,J,rfl,rfl⟩;unfold Rj at J;refine gn ?_;refine cE (tm':=fr 88 [(2,.ptr 0 0 0),(4,.ptr 1 0 0),(5,.ptr 2 0 0),(7,.ptr 5 0 0),(8,.i6 jC),(9,.ptr 7 0 0),(10,.iM aU o7)]) (X':=⟨(7,.row (bA oG) 78)::OR l27 qN eF.2 (eY 0) eF.1 m9 p1.Nodes p1.Nodes,9⟩) (Gh.trans (Gh.sub (l':=[(2,.ptr 0 0 0),(4,.ptr 1 0 0),(5,.ptr 2 0 0),(7,.ptr 5 0 0),(8,.i6 jC),(9,.ptr 7 0 0),(10,.vl 8 0 0 o7.length)]) ⟨rfl,rfl,rfl,rfl,rfl,rfl,rfl,trivial⟩) (HW 8 2)) NZ ?_;obtain⟨Kr,J⟩:=d9 J;refine go ?_;refine bR ?_;refine bR ?_;refine go ?_;exact lC ⟨_,(l27++[(aN.mk oG.Typex o7)]),(qN+1),J,rfl,rfl⟩;rintro(_|m3) _ _ ⟨CV,rR,J,rfl,rfl⟩;cases J;unfold YV at J;refine gF J ?_ ?_<;>intro KO J;refine go ?_;apply aV;obtain⟨CY,QB,J⟩:=aC J;obtain⟨CX,Cl,J⟩:=aC J;obtain⟨GS,KN,J⟩:=aC J;refine gn ?_;refine dM (fun tm X=>tm=fr 88 [(2,.ptr 0 0 0),(4,.ptr 1 0 0),(5,.ptr 2 0 0),(7,.ptr 5 0 0),(8,.i6 jC),(9,.ptr 7 0 0),(10,.vl 8 0 0 ((rR.set (0+CV.toNat) (aK.mk GS.Feat CX)).length)),(11,.i6 CV)]/\X=⟨(8,.bv aU (rR.set (0+CV.toNat) (aK.mk GS.Feat CX)) 98 2 0)::(7,.row (bA oG) 78)::OR l27 qN eF.2 (eY 0) eF.1 m9 p1.Nodes p1.Nodes,9⟩) ?_ ?_;rintro _ _ ⟨rfl,rfl⟩;refine go ?_;exact lC ⟨_,(rR.set (0+CV.toNat) (aK.mk GS.Feat CX)),J,rfl,rfl⟩;refine dE [] ?_;refine gd ?_;refine aQ (u:=.ptr 2 0 0) rfl (fK rfl rfl) ?_;refine gd ?_;refine aQ rfl (dX rfl rfl (hZ aU eJ.h (aZ kG.h) (by decide) rQ (vo rfl) QB)) ?_;refine aQ rfl (jW y9.h rfl (aZ i5.h) rfl (uB rfl) rfl) (aQ (u:=.i6 CY.To) rfl (wL aU lW.h rfl rQ rfl rfl (oP QB) rfl) ?_);refine aQ rfl (dX rfl rfl (hZ (cI .i64) fJ.h (aZ i5.h) (by decide) (m5 .i64) (vo rfl) Cl)) ?_;refine aQ rfl (AV (cI .i64) (fun x=>.i6 x) lW.h rfl (fun _=>rfl) rfl rfl Cl) ?_;refine aQ rfl (dX rfl rfl (hZ aU eJ.h (aZ kG.h) (by decide) rQ (vo rfl) KN)) ?_;refine aQ rfl (jW y9.h rfl (aZ i5.h) rfl (uB rfl) rfl) (RD.actn (u:=.junk) (X':=⟨(8,.bv aU (rR.set (0+CV.toNat) (aK.mk GS.Feat CX)) 98 2 0)::(7,.row (bA oG) 78)::OR l27 qN eF.2 (eY 0) eF.1 m9 p1.Nodes p1.Nodes,9⟩) rfl (bz (y:=(aK.mk GS.Feat CX)) aU (aZ i5.h) rQ rfl rfl rfl rfl rfl rfl (oP KN) rfl rfl) rfl ?_);refine bI ⟨by kernel_rfl,trivial,?_⟩;refine go ?_;exact⟨_,_,⟨rfl,rfl⟩,NZ,oF ⟨rfl,rfl,rfl,rfl,rfl,rfl,(by simp only[Gr,OR,List.length_set];rfl),rfl,trivial⟩ rfl⟩;refine go ?_;exact xC ⟨rR,J,rfl,rfl⟩;refine go ?_;exact xC ⟨l27,qN,J,rfl,rfl⟩;rintro(_|m1) _ _ ⟨z9,l10,lN,J,rfl,rfl⟩;cases J;unfold Ie at J;refine gF J ?_ ?_<;>intro h63 J;refine go ?_;apply aV;obtain⟨tN,J⟩:=d9 J;refine go ?_;refine aP (u:=.ptr 2 0 0) rfl (fK rfl rfl) ?_;refine go ?_;refine bR ?_;refine bR ?_;refine aP (u:=.ptr 2 0 0) rfl (fK rfl rfl) ?_;refine go ?_;exact lC ⟨_,(l10++[(-1)]),(lN+1),J,rfl,rfl⟩;refine go ?_;exact xC ⟨l10,lN,J,rfl,rfl⟩
def vn: Option (Int×Bool):=
 some (0,false)
def Hz(p3:Int)(x4:aN):Nat->Int->Option (Int×Bool)
 |0,_=>none|m1+1,dN=>cond (decide (dN<(x4.Arcs.length:Int))) (a8 (aB x4.Arcs dN) fun iD=>cond (iD.Feat==p3) (a8 (aB x4.Arcs dN) fun sE=>some (sE.To,true)) ((Hz p3 x4 m1) (IntKind.i64.wrap (dN+1)))) (vn)
def Pv(n:Nat)(p1:GFS)(p2:Int)(p3:Int):Option (Int×Bool):=
 a8 (aB p1.Nodes p2) fun x4=>
 Hz p3 x4 n 0
theorem qvk(n:Nat)(p1:GFS)(p2:Int)(p3:Int)(r:Int×Bool)(J:Pv n p1 p2 p3=some r):d5 prog 105 [.agg [.isl false (p1.Nodes.map bA)],.int .i64 p2,.int .i64 p3] (.tup [.int .i64 r.1,.bool r.2]):=by
 unfold Pv at J;refine CP 34 VK ?_;obtain⟨x4,h5,J⟩:=aC J;refine go ?_;refine aY h5 ?_;refine go ?_;refine gL (fun m tm X=>∃dN,Hz p3 x4 m dN=some r/\tm=fr 34 [(2,.i6 p3),(8,.iM aU x4.Arcs),(9,.i6 dN)]/\X=⟨[(0,.row [.iM bA p1.Nodes] 40)],1⟩) (fun tm X=>vn=some r/\tm=fr 34 []/\X=⟨[(0,.row [.iM bA p1.Nodes] 40)],1⟩) n ⟨0,J,rfl,rfl⟩ ?_ ?_;rintro _ _ ⟨J,rfl,rfl⟩;unfold vn at J;refine go ?_;obtain rfl:=sI J;exact yG rfl rfl rfl rfl rfl;rintro(_|m1) _ _ ⟨dN,J,rfl,rfl⟩;cases J;unfold Hz at J;refine gF J ?_ ?_<;>intro iT J;refine go ?_;apply aV;obtain⟨iD,dF,J⟩:=aC J;refine go ?_;refine aY dF ?_;refine gF J ?_ ?_<;>intro iA J;obtain⟨sE,oW,J⟩:=aC J;refine go ?_;refine aY oW ?_;refine go ?_;obtain rfl:=sI J;exact yG rfl rfl rfl rfl rfl;refine go ?_;exact lC ⟨_,J,rfl,rfl⟩;refine go ?_;exact xC ⟨J,rfl,rfl⟩
end Go.Proofs
namespace Go.Vx
open Go Go.Rx
theorem fg(K:Nat)(b:B)(sz:Nat):∀(l m:List U),jT K b sz (l++m)=jT K b sz l++jT K b sz m
 |[],m=>by simp[yR]
 |u::l,m=>by rw[List.cons_append,vS,vS,fg K b sz l m,List.cons_append]
theorem Gh.three{n:Nat}{l:List (Nat×U)}{h:List (Nat×B)}{nx:Nat}{a b c:B}(h2:gt h 2=some c)(h1:gt h 1=some b)(h0:gt h 0=some a)(hn:3<=nx)(hl:aL 3 (fr n l))(ha:BelB 3 a)(hb:BelB 3 b)(hc:BelB 3 c):Gh 0 (fr n l) ⟨h,nx⟩ (fr n l) ⟨[(2,c),(1,b),(0,a)],3⟩:=by
 have key:∀k,gt [(2,c),(1,b),(0,a)] k=gt (Vx.cut 3 h) k:=fun k=>by rw[Fu];rcases k with _ |_ |_ |k;simp[dY,h0];simp[dY,h1];simp[dY,h2];simp[dY,gt];omega
 refine(Gh.cutG (X:=⟨h,nx⟩) (n1:=3) (Nat.zero_le _) hn hl fun k d hd=>?_).trans (Gh.same (X:=⟨Vx.cut 3 h,3⟩) _ key);rw[<-key]at hd;rcases k with _ |_ |_ |k;simp[dY]at hd;subst hd;exact ha;simp[dY]at hd;subst hd;exact hb;simp[dY]at hd;subst hd;exact hc;have hz:gt [(2,c),(1,b),(0,a)] (k+3)=none:=by rw[dY,if_neg (by omega),dY,if_neg (by omega),dY,if_neg (by omega)];rfl
 have bG:gt [(2,c),(1,b),(0,a)] (k+3)=some d:=hd;rw[hz]at bG;cases bG
end Go.Vx
namespace Go.Proofs
open Go Go.Rx Go.Vx
structure QN where
 ty:Int
 nm:Nat
 st:Nat
 ar:List aK
def QN.nd(q:QN):aN:=⟨q.ty,q.ar⟩
def cQ(q:QN):List U:=[.int .i64 q.ty,.vl q.nm q.st 0 q.ar.length]
theorem XX(q:QN):(cQ q).length=2:=rfl
instance:fY cQ 2:=⟨XX⟩
structure QI(l:List aN)(qs:List QN)(M st:Nat)(h:List (Nat×B)):Prop where
 el:l=qs.map QN.nd
 g0:gt h 0=some (.row [.nils] 40)
 g1:gt h 1=some (.row [.vl 2 st 0 qs.length] 40)
 g2:gt h 2=some (.bv cQ qs 78 2 st)
 ga:∀q∈qs,gt h q.nm=some (.bv aU q.ar 98 2 q.st)
 lo:∀q∈qs,3<=q.nm/\q.nm<M+3
 nd:(qs.map QN.nm).Nodup
theorem z6p(n:Nat)(l:List aK):aL n (l.map aU).flatten:=BP n (fun q=>Hc n q) l
theorem fz_dn(K:Nat)(b:B)(sz:Nat)(l:List aN):jT K b sz (l.map bA).flatten=(l.map bA).flatten:=sX _ _ _ (BP K (fun q=>P0 K q) l)
theorem fz_qs(K:Nat)(b:B)(sz:Nat):∀(l:List QN),(∀q∈l,q.nm≠K)->jT K b sz (l.map cQ).flatten=(l.map cQ).flatten
 |[],_=>by simp[yR]
 |q::l,h=>by
  have h1:Nat.beq q.nm K=false:=by rw[beq_eq];simpa using h q (by simp)
  rw[zQ,List.flatten_cons,fg,fz_qs K b sz l fun x hx=>h x (by simp[hx])];simp only[cQ,vS,yR,H5,Hi h1]
theorem frz{n0:Nat}{tm:List U}(hb:aL 3 tm){st N nx:Nat}:∀(qs:List QN)(dn:List aN)(h:List (Nat×B)),
  gt h 2=some (.vec ((dn.map bA).flatten++(qs.map cQ).flatten) 78 2 st)->gt h 1=some (.row [.vl 2 st 0 N] 40)->gt h 0=some (.row [.nils] 40)->
  (∀q∈qs,gt h q.nm=some (.bv aU q.ar 98 2 q.st)/\3<=q.nm)->(qs.map QN.nm).Nodup->
  ∃h',Gh n0 tm ⟨h,nx⟩ tm ⟨h',nx⟩/\gt h' 2=some (.bv bA (dn++qs.map QN.nd) 78 2 st)/\gt h' 1=some (.row [.vl 2 st 0 N] 40)/\gt h' 0=some (.row [.nils] 40)
 |[],dn,h,h2,h1,h0,_,_=>⟨h,Gh.refl _ _ _,by simpa using h2,h1,h0⟩|q::qs,dn,h,h2,h1,h0,hq,hn=>by
  obtain⟨g1,g2⟩:=hq q (by simp);rw[zQ,List.nodup_cons]at hn;have cZ:∀x∈qs,x.nm≠q.nm:=fun x hx e=>hn.1 (by rw[<-e];exact List.mem_map_of_mem hx);have hbq:aL q.nm tm:=(F7 _ _).2 fun u hu=>bB.le g2 u ((F7 _ _).1 hb u hu);have step:Gh n0 tm ⟨h,nx⟩ tm ⟨fzH q.nm (.bv aU q.ar 98 2 q.st) 2 h,nx⟩:=Gh.fz q.nm _ 2 g1 nofun (sX _ _ _ hbq) rfl;obtain⟨h',e1,e2,e3,e4⟩:=frz hb (n0:=n0) (nx:=nx) (N:=N) (st:=st) qs (dn++[q.nd]) (fzH q.nm (.bv aU q.ar 98 2 q.st) 2 h)
   (by
    rw[Ft,if_neg (by omega),h2];simp only[zM,fzB,fg,fz_dn,zQ,List.flatten_cons,fz_qs _ _ _ qs cZ];have:jT q.nm (.bv aU q.ar 98 2 q.st) 2 (cQ q)=bA q.nd:=by simp only[cQ,vS,yR,H5,Le rQ,bA,QN.nd]
    rw[this];simp)
   (by
    rw[Ft,if_neg (by omega),h1];have:Nat.beq 2 q.nm=false:=by rw[beq_eq];simp;omega
    simp only[zM,fzB,vS,yR,Hi this])
   (by rw[Ft,if_neg (by omega),h0];simp only[zM,fzB,vS,yR,J5])
   (fun x hx=>by obtain⟨k1,k2⟩:=hq x (by simp[hx]);refine⟨?_,k2⟩;rw[Ft,if_neg (cZ x hx),k1];simp only[zM,fzB,sX _ _ _ (z6p _ _)])
   hn.2
  exact⟨h',step.trans e1,by simpa using e2,e3,e4⟩
theorem QI.same{l:List aN}{qs:List QN}{M st nx:Nat}{h:List (Nat×B)}(q:QI l qs M st h)(tm:List U):∃t,Gh 0 tm ⟨h,nx⟩ tm ⟨(2,.bv cQ qs 78 2 st)::(1,.row [.vl 2 st 0 qs.length] 40)::(0,.row [.nils] 40)::t,nx⟩/\QI l qs M st ((2,.bv cQ qs 78 2 st)::(1,.row [.vl 2 st 0 qs.length] 40)::(0,.row [.nils] 40)::t):=by
 have key:∀k,gt ((2,.bv cQ qs 78 2 st)::(1,.row [.vl 2 st 0 qs.length] 40)::(0,.row [.nils] 40)::h) k=gt h k:=fun k=>by simp only[dY];by_cases e2:2=k;subst e2;simp[q.g2];by_cases e1:1=k;subst e1;simp[q.g1];by_cases e0:0=k;subst e0;simp[q.g0];simp[e2,e1,e0]
 refine⟨h,Gh.same (X:=⟨h,nx⟩) _ key,⟨q.el,?_,?_,?_,fun x hx=>?_,q.lo,q.nd⟩⟩;rw[key];exact q.g0;rw[key];exact q.g1;rw[key];exact q.g2;rw[key];exact q.ga x hx
variable{l:List aN}
variable{qs:List QN}
variable{M:Nat}
theorem QI.more{st:Nat}{h:List (Nat×B)}(q:QI l qs M st h)(b:B):QI l qs (M+1) st ((M+3,b)::h) where
 el:=q.el
 g0:=by rw[dY,if_neg (by omega)];exact q.g0
 g1:=by rw[dY,if_neg (by omega)];exact q.g1
 g2:=by rw[dY,if_neg (by omega)];exact q.g2
 ga:=fun x hx=>by have:=q.lo x hx;rw[dY,if_neg (by omega)];exact q.ga x hx
 lo:=fun x hx=>by have:=q.lo x hx;omega
 nd:=q.nd
theorem QI.viewG{st nx:Nat}{h:List (Nat×B)}(q:QI l qs M st h)(az:List U)(ha:aL 2 az):∃X1,Gh 0 (.agg [.vl 2 st 0 qs.length]::az) ⟨h,nx⟩ (.agg [.isl false (l.map bA)]::az) X1:=by
 have hb:aL 3 (.agg [.vl 2 st 0 qs.length]::az):=by
  refine(F7 _ _).2 fun u hu=>?_;rcases zI.1 hu with rfl |hu
  simp[bB,aL];exact bB.le (by omega) u ((F7 _ _).1 ha u hu)
 obtain⟨h',e1,e2,e3,e4⟩:=frz (n0:=0) hb (st:=st) (N:=qs.length) (nx:=nx) qs [] h (by simpa using q.g2) q.g1 q.g0 (fun x hx=>⟨q.ga x hx,(q.lo x hx).1⟩) q.nd;rw[List.nil_append,<-q.el]at e2;have hl:qs.length=l.length:=by rw[q.el,yA]
 refine⟨⟨fzH 2 (.bv bA l 78 2 st) 2 h',nx⟩,e1.trans (Gh.fz 2 (.bv bA l 78 2 st) 2 e2 nofun ?_ rfl)⟩;rw[vS,sX _ _ _ ha,J2,vS,yR,hl,Le SU]
variable{i:Int}
theorem zb1{O β:Type}{f:O->β}{l:List O}{y:β}(h:aB (l.map f) i=some y):∃x,aB l i=some x/\f x=y:=by
 obtain⟨h1,h2,h3⟩:=YJ h;rw[List.getElem?_map]at h3;rcases e:l[i.toNat]? with _|x;rw[e]at h3;cases h3;rw[e]at h3;refine⟨x,?_,Option.some.inj h3⟩;rw[yA]at h2;rw[aB,if_pos ⟨h1,h2⟩];exact e
theorem z3m{O:Type}{l:List O}{y:O}(h:aB l i=some y):y∈l:=zX (YJ h).2.2
variable{t:List (Nat×B)}
theorem pullG{n0:Nat}{tm:List U}{st e:Nat}{y:QN}{a:aK}(he:y.nm=e+3)(gl:e<M)
  (hy:gt ((2,.bv cQ qs 78 2 st)::(1,.row [.vl 2 st 0 qs.length] 40)::(0,.row [.nils] 40)::t) y.nm=some (.bv aU y.ar 98 2 y.st)):
  Gh n0 tm ⟨(M+3,.row (aU a) 98)::(2,.bv cQ qs 78 2 st)::(1,.row [.vl 2 st 0 qs.length] 40)::(0,.row [.nils] 40)::t,M+4⟩ tm
   ⟨(M+3,.row (aU a) 98)::(2,.bv cQ qs 78 2 st)::(1,.row [.vl 2 st 0 qs.length] 40)::(0,.row [.nils] 40)::(e+3,.bv aU y.ar 98 2 y.st)::rg t (e+3),M+4⟩:=by
 refine Gh.same (X:=⟨_,M+4⟩) _ fun k=>?_;rw[he,dY,if_neg (by omega),dY,if_neg (by omega),dY,if_neg (by omega)]at hy;simp only[dY];split;rfl;split;rfl;split;rfl;split;rfl;split
 ·next h=>rw[<-h,hy]
 ·next h=>rw[gt_rg,if_neg h]
theorem QI.upd{st e:Nat}{y:QN}(q:QI l qs M st ((2,.bv cQ qs 78 2 st)::(1,.row [.vl 2 st 0 qs.length] 40)::(0,.row [.nils] 40)::t))(hy:aB qs i=some y)(he:y.nm=e+3)(gl:e<M)(a:aK)(z:aK):
  QI (l.set (0+i.toNat) ⟨y.nd.Typex,y.nd.Arcs++[z]⟩) (qs.set (0+i.toNat) ⟨y.ty,e+3,y.st+1,y.ar++[z]⟩) (M+2) st ((M+4,.row [.i6 z.Feat,.i6 z.To] 98)::(M+3,.row (aU a) 98)::(2,.bv cQ (qs.set (0+i.toNat) ⟨y.ty,e+3,y.st+1,y.ar++[z]⟩) 78 2 st)::(1,.row [.vl 2 st 0 qs.length] 40)::(0,.row [.nils] 40)::(e+3,.bv aU (y.ar++[z]) 98 2 (y.st+1))::rg t (e+3)):=by
 obtain⟨h1,h2,h3⟩:=YJ hy;have hi:i.toNat<qs.length:=(zG.1 h3).1;have p?:(qs.set (0+i.toNat) ⟨y.ty,e+3,y.st+1,y.ar++[z]⟩).map QN.nm=qs.map QN.nm:=by
  rw[Nat.zero_add,List.map_set];have:(⟨y.ty,e+3,y.st+1,y.ar++[z]⟩:QN).nm=y.nm:=by rw[he]
  rw[this];have hz:(qs.map QN.nm)[i.toNat]? = some y.nm:=by rw[List.getElem?_map,h3];rfl
  obtain⟨a1,b1⟩:=zG.1 hz;rw[<-b1,List.set_getElem_self]
 have zE:∀x∈qs.set (0+i.toNat) ⟨y.ty,e+3,y.st+1,y.ar++[z]⟩,x=⟨y.ty,e+3,y.st+1,y.ar++[z]⟩\/(x∈qs/\x.nm≠e+3):=fun x hx=>by
  obtain⟨j,hj⟩:=List.getElem?_of_mem hx;rw[Nat.zero_add,List.getElem?_set]at hj;by_cases cZ:i.toNat=j;rw[if_pos cZ]at hj;by_cases aE:i.toNat<qs.length;rw[if_pos aE]at hj;exact .inl (Option.some.inj hj).symm;rw[if_neg aE]at hj;cases hj;rw[if_neg cZ]at hj;refine .inr ⟨zX hj,fun hc=>cZ ?_⟩;have p1:(qs.map QN.nm)[i.toNat]? = some (e+3):=by rw[List.getElem?_map,h3,<-he];rfl
  have p2:(qs.map QN.nm)[j]? = some (e+3):=by rw[List.getElem?_map,hj,<-hc];rfl
  obtain⟨a1,b1⟩:=zG.1 p1;obtain⟨a2,b2⟩:=zG.1 p2;exact(List.getElem_inj (h₀:=a1) (h₁:=a2) q.nd).1 (by rw[b1,b2])
 refine⟨?_,?_,?_,?_,fun x hx=>?_,fun x hx=>?_,by rw[p?];exact q.nd⟩;rw[List.map_set,q.el];rfl;simp only[dY];rw[if_neg (by omega),if_neg (by omega),if_neg (by omega),if_neg (by omega)];rfl;simp only[dY];rw[if_neg (by omega),if_neg (by omega),if_neg (by omega),List.length_set];rfl;simp only[dY];rw[if_neg (by omega),if_neg (by omega)];rfl;rcases zE x hx with rfl |⟨hx,cZ⟩;simp only[dY];rw[if_neg (by omega),if_neg (by omega),if_neg (by omega),if_neg (by omega),if_neg (by omega)];simp;have l1:=q.lo x hx;have g1:=q.ga x hx;rw[dY,if_neg (by omega),dY,if_neg (by omega),dY,if_neg (by omega)]at g1;simp only[dY];rw[if_neg (by omega),if_neg (by omega),if_neg (by omega),if_neg (by omega),if_neg (by omega),if_neg (by omega),gt_rg,if_neg (by omega)];exact g1;rcases zE x hx with rfl |⟨hx,cZ⟩;show 3<=e+3/\e+3<M+2+3;omega;have l1:=q.lo x hx;omega
instance{a:Int}{k:Nat}:DeC cQ [.int .i64 a,.vl k 0 0 0] ⟨a,k,0,[]⟩:=⟨rfl⟩
theorem nilRow{tm:List U}{x:Int}{H:List (Nat×B)}:Gh (M+4) tm ⟨(M+3,.row [.i6 x,.nils] 78)::H,M+4⟩ tm ⟨(M+4,.vec [] 98 2 0)::(M+3,.row [.i6 x,.vl (M+4) 0 0 0] 78)::H,M+5⟩:=by
 have h1:Nat.beq (M+4) (M+3)=false:=by rw[beq_eq];simp
 have h2:Nat.beq (M+3) (M+3)=true:=by rw[beq_eq];simp
 have:=xI (n0:=M+4) (tm:=tm) (X:=⟨(M+3,.row [.i6 x,.nils] 78)::H,M+4⟩) (q:=[.i6 x,.nils]) (e0:=78) (M+3) 1 98 2 (by decide) (zF _) (by simp only[gt,h2,zC]) rfl;simp only[newU,ug,h1,h2,zC,zD,List.set]at this;exact this
theorem QI.app{st:Nat}(q:QI l qs M st ((2,.bv cQ qs 78 2 st)::(1,.row [.vl 2 st 0 qs.length] 40)::(0,.row [.nils] 40)::t))(x:Int):
  QI (l++[aN.mk x []]) (qs++[(⟨x,M+4,0,[]⟩:QN)]) (M+2) (st+1) ((M+4,.vec [] 98 2 0)::(M+3,.row [.i6 x,.vl (M+4) 0 0 0] 78)::(2,.bv cQ (qs++[(⟨x,M+4,0,[]⟩:QN)]) 78 2 (st+1))::(1,.row [.vl 2 (st+1) 0 (qs++[(⟨x,M+4,0,[]⟩:QN)]).length] 40)::(0,.row [.nils] 40)::t) where
 el:=by rw[q.el];simp[QN.nd]
 g0:=by simp only[dY];rw[if_neg (by omega),if_neg (by omega),if_neg (by omega),if_neg (by omega)];rfl
 g1:=by simp only[dY];rw[if_neg (by omega),if_neg (by omega),if_neg (by omega)];rfl
 g2:=by simp only[dY];rw[if_neg (by omega),if_neg (by omega)];rfl
 ga:=fun y hy=>by rcases yD.1 hy with hy |hy;have l1:=q.lo y hy;have g1:=q.ga y hy;rw[dY,if_neg (by omega),dY,if_neg (by omega),dY,if_neg (by omega)]at g1;simp only[dY];rw[if_neg (by omega),if_neg (by omega),if_neg (by omega),if_neg (by omega),if_neg (by omega)];exact g1;simp at hy;subst hy;simp[dY]
 lo:=fun y hy=>by rcases yD.1 hy with hy |hy;have l1:=q.lo y hy;omega;simp at hy;subst hy;show 3<=M+4/\M+4<M+2+3;omega
 nd:=by rw[List.map_append,List.nodup_append];refine⟨q.nd,by simp,fun a ha b hb=>?_⟩;obtain⟨y,hy,rfl⟩:=List.mem_map.1 ha;simp at hb;subst hb;have:=q.lo y hy;omega
theorem qi0:QI [] [] 0 0 [(2,.bv cQ ([]:List QN) 78 2 0),(1,.row [.vl 2 0 0 (([]:List QN).length)] 40),(0,.row [.nils] 40)]:=⟨rfl,rfl,rfl,rfl,(fun q hq=>by cases hq),(fun q hq=>by cases hq),List.nodup_nil⟩
end Go.Proofs
namespace Go.Proofs
open Go Go.Rx Go.Vx Tryz
instance:TbP prog Tryz.tb:=⟨tb_ok⟩
set_option maxRecDepth 20000
set_option maxHeartbeats 4000000
set_option synthInstance.maxSize 4000
set_option synthInstance.maxHeartbeats 200000
def Ta(BA:Int)(XK:Int->(List aN)->Option (GFS))(o7:List aN):Option (GFS):=
 XK (IntKind.i64.wrap (BA+1)) o7
def ux(dU:Int)(hO:Int->(List aN)->Option (GFS))(qT:List aN):Option (GFS):=
 hO (IntKind.i64.wrap (dU+1)) qT
def T9(p1:List aN)(p2:List Int)(n:Nat)(dU:Int)(hO:Int->(List aN)->Option (GFS))(lD:Int):Nat->Int->(List aN)->Option (GFS)
 |0,_,_=>none|m3+1,BA,jX=>
  a8 (aB p1 dU) fun x44=>cond (decide (BA<(x44.Arcs.length:Int))) (a8 (aB p1 dU) fun x47=>
   a8 (aB x47.Arcs BA) fun rJ=>
   a8 (Pv n (GFS.mk jX) lD rJ.Feat) fun P'=>cond (!P'.2) (a8 (aB jX lD) fun R8=>
    a8 (aB p2 rJ.To) fun CY=>
    aF ((R8.Arcs.length+1)*16<=140737488355328/\R8.Arcs.length+1<=140737488355328) (
    a8 (aB jX lD) fun R7=>
    Ta BA (T9 p1 p2 n dU hO lD m3) (jX.set (0+lD.toNat) (aN.mk R7.Typex (R8.Arcs++[(aK.mk rJ.Feat CY)]))))) (Ta BA (T9 p1 p2 n dU hO lD m3) jX)) (ux dU hO jX)
def Jb(p2:List Int)(p4:Int)(n:Nat)(oS:List aN):Option (GFS):=
 a8 (aB p2 p4) fun I9=>
 a8 (Hf n (GFS.mk oS) I9) fun O3=>some O3
def MV(p1:List aN)(p2:List Int)(p4:Int)(n:Nat):Nat->Int->(List aN)->Option (GFS)
 |0,_,_=>none|m2+1,dU,l24=>cond (decide (dU<(p1.length:Int))) (a8 (aB p2 dU) fun lD=>T9 p1 p2 n dU (MV p1 p2 p4 n m2) lD n 0 l24) (Jb p2 p4 n l24)
def Sz(p1:List aN)(p2:List Int)(p4:Int)(n:Nat)(cM:List aN):Option (GFS):=
 MV p1 p2 p4 n n 0 cM
def Ja(p1:List aN)(p2:List Int)(p3:List Int)(p4:Int)(n:Nat):Nat->Int->(List aN)->Option (GFS)
 |0,_,_=>none|m1+1,eB,c6=>cond (decide (eB<(p1.length:Int))) (a8 (aB p3 eB) fun LU=>aF ((c6.length+1)*32<=140737488355328/\c6.length+1<=140737488355328) ((Ja p1 p2 p3 p4 n m1) (IntKind.i64.wrap (eB+1)) (c6++[(aN.mk LU [])]))) (Sz p1 p2 p4 n c6)
def Rs(n:Nat)(p1:List aN)(p2:List Int)(p3:List Int)(p4:Int):Option (GFS):=
 Ja p1 p2 p3 p4 n n 0 ([]:List aN)
theorem qnx(n:Nat)(p1:List aN)(p2:List Int)(p3:List Int)(p4:Int)(r:GFS)(J:Rs n p1 p2 p3 p4=some r):d5 prog 69 [.isl false (p1.map bA),.isl false (p2.map (cI .i64)),.isl false (p3.map (cI .i64)),.int .i64 p4] (.agg [.isl false (r.Nodes.map bA)]):=by
 unfold Rs at J;refine bg4 98 Yj ?_;refine gr ?_;refine gr ?_;refine gr ?_;refine cE (tm':=fr 98 [(0,.iM bA p1),(1,.iM (cI .i64) p2),(2,.iM (cI .i64) p3),(3,.i6 p4),(8,.ptr 0 0 0),(9,.ptr 1 0 0),(10,.i6 0)]) (X':=⟨[(2,.bv cQ ([]:List QN) 78 2 0),(1,.row [.vl 2 0 0 (([]:List QN).length)] 40),(0,.row [.nils] 40)],3⟩) (Gh.trans (xI 1 0 78 2 (by decide) NZ rfl rfl) (oF ⟨rfl,rfl,rfl,rfl,rfl,rfl,rfl,trivial⟩ rfl)) NZ ?_;refine gL (fun m tm X=>∃eB c6 fS,Ja p1 p2 p3 p4 n m eB c6=some r/\tm=fr 98 [(0,.iM bA p1),(1,.iM (cI .i64) p2),(2,.iM (cI .i64) p3),(3,.i6 p4),(8,.ptr 0 0 0),(9,.ptr 1 0 0),(10,.i6 eB)]/\∃qs M h,QI c6 qs M fS h/\X=⟨h,M+3⟩) (fun tm X=>∃cM eY,Sz p1 p2 p4 n cM=some r/\tm=fr 98 [(0,.iM bA p1),(1,.iM (cI .i64) p2),(3,.i6 p4),(8,.ptr 0 0 0),(9,.ptr 1 0 0)]/\∃qs M h,QI cM qs M eY h/\X=⟨h,M+3⟩) n ⟨0,([]:List aN),0,J,rfl,[],0,_,qi0,rfl⟩ ?_ ?_;rintro _ _ ⟨cM,eY,J,rfl,qs0,M0,H?,hq0,rfl⟩;unfold Sz at J;refine go ?_;refine gL (fun m tm X=>∃dU l24,MV p1 p2 p4 n m dU l24=some r/\tm=fr 98 [(0,.iM bA p1),(1,.iM (cI .i64) p2),(3,.i6 p4),(8,.ptr 0 0 0),(9,.ptr 1 0 0),(11,.i6 dU)]/\∃qs M h,QI l24 qs M eY h/\X=⟨h,M+3⟩) (fun tm X=>∃oS,Jb p2 p4 n oS=some r/\tm=fr 98 [(1,.iM (cI .i64) p2),(3,.i6 p4),(8,.ptr 0 0 0),(9,.ptr 1 0 0)]/\∃qs M h,QI oS qs M eY h/\X=⟨h,M+3⟩) n ⟨0,cM,J,rfl,qs0,M0,H?,hq0,rfl⟩ ?_ ?_ NZ;rintro _ _ ⟨oS,J,rfl,qs,M,h,hq,rfl⟩;unfold Jb at J;have Ce:BelS 3 [(1,.iM (cI .i64) p2),(3,.i6 p4),(8,.ptr 0 0 0),(9,.ptr 1 0 0)]:=BS.h;obtain⟨h',e1,e2,e3,e4⟩:=frz (n0:=0) (xg (n:=98) Ce) (st:=eY) (N:=qs.length) (nx:=M+3) qs [] h (by simpa using hq.g2) hq.g1 hq.g0 (fun q hx=>⟨hq.ga q hx,(hq.lo q hx).1⟩) hq.nd;rw[List.nil_append,<-hq.el]at e2;have rY:qs.length=oS.length:=by rw[hq.el,yA]
 rw[rY]at e3;refine cE (e1.trans (Gh.three e2 e3 e4 (by omega) (xg (n:=98) Ce) (by simp[BelB,aL,bB]) (by simp[BelB,aL,bB]) (BP 3 (fun q=>P0 3 q) oS))) NZ ?_;refine gn ?_;refine cE (tm':=fr 98 [(1,.iM (cI .i64) p2),(3,.i6 p4),(8,.ptr 0 0 0),(9,.ptr 1 0 0)]) (X':=⟨[(1,.row [.iM bA oS] 40),(0,.row [.nils] 40)],3⟩) (Gh.trans (Gh.sub (l':=[(1,.iM (cI .i64) p2),(3,.i6 p4),(8,.ptr 0 0 0),(9,.ptr 1 0 0)]) ⟨rfl,rfl,rfl,rfl,trivial⟩) (HW 2 2)) NZ ?_;obtain⟨I9,w6,J⟩:=aC J;obtain⟨O3,oV,J⟩:=aC J;refine go ?_;refine dE [] ?_;refine gd ?_;refine cA w6 ?_;refine gd ?_;refine fT rfl (pC (qnn n (GFS.mk oS) I9 O3 oV)) L4 ?_;refine qJ ?_;refine bI ⟨by kernel_rfl,trivial,?_⟩;refine go ?_;obtain rfl:=sI J;exact rT (lZ (iP jF.h rfl (aZ nG.h) rfl rfl rfl) (dL)) (uM _ rfl);rintro(_|m2) _ _ ⟨dU,l24,J,rfl,qs,M,h,hq,rfl⟩;cases J;unfold MV at J;refine gF J ?_ ?_<;>intro sA J;refine go ?_;apply aV;obtain⟨lD,oB,J⟩:=aC J;refine go ?_;refine aY oB ?_;refine go ?_;refine gL (fun m tm X=>∃BA jX,T9 p1 p2 n dU (MV p1 p2 p4 n m2) lD m BA jX=some r/\tm=fr 98 [(0,.iM bA p1),(1,.iM (cI .i64) p2),(3,.i6 p4),(8,.ptr 0 0 0),(9,.ptr 1 0 0),(11,.i6 dU),(12,.i6 lD),(13,.i6 BA)]/\∃qs M h,QI jX qs M eY h/\X=⟨h,M+3⟩) (fun tm X=>∃qT,ux dU (MV p1 p2 p4 n m2) qT=some r/\tm=fr 98 [(0,.iM bA p1),(1,.iM (cI .i64) p2),(3,.i6 p4),(8,.ptr 0 0 0),(9,.ptr 1 0 0),(11,.i6 dU)]/\∃qs M h,QI qT qs M eY h/\X=⟨h,M+3⟩) n ⟨0,l24,J,rfl,qs,M,h,hq,rfl⟩ ?_ ?_ NZ;rintro _ _ ⟨qT,J,rfl,qs,M,h,hq,rfl⟩;unfold ux at J;refine go ?_;exact⟨_,_,_,zN _,⟨_,qT,J,rfl,qs,M,h,hq,rfl⟩,NZ,Gh.sub (by((repeat refine⟨rfl,?_⟩);exact trivial))⟩;rintro(_|m3) _ _ ⟨BA,jX,J,rfl,qs,M,h,hq,rfl⟩;cases J;unfold T9 at J;obtain⟨x44,qG,J⟩:=aC J;refine go ?_;refine aY qG ?_;refine gF J ?_ ?_<;>intro Ku J;obtain⟨t,CB,hq⟩:=hq.same (nx:=M+3) (fr 98 [(0,.iM bA p1),(1,.iM (cI .i64) p2),(3,.i6 p4),(8,.ptr 0 0 0),(9,.ptr 1 0 0),(11,.i6 dU),(12,.i6 lD),(13,.i6 BA)]);refine cE (Gh.sub (l':=[(0,.iM bA p1),(1,.iM (cI .i64) p2),(3,.i6 p4),(8,.ptr 0 0 0),(9,.ptr 1 0 0),(11,.i6 dU),(12,.i6 lD),(13,.i6 BA)]) (by((repeat refine⟨rfl,?_⟩);exact trivial))) NZ ?_;refine cE CB NZ ?_
 haveI:SuC (M+3) (M+4):=⟨rfl⟩
 haveI:SuC (M+4) (M+5):=⟨rfl⟩
 haveI:Nq (M+1) M:=⟨by rw[beq_eq];simp⟩
 refine go ?_;apply aV;obtain⟨x47,KP,J⟩:=aC J;obtain⟨rJ,UR,J⟩:=aC J;refine go ?_;refine aY KP ?_;refine go ?_;refine aY UR ?_;obtain⟨P',G7,J⟩:=aC J;refine go ?_;have hq3:QI jX qs (M+1) eY ((M+3,.row (aU rJ) 98)::(2,.bv cQ qs 78 2 eY)::(1,.row [.vl 2 eY 0 qs.length] 40)::(0,.row [.nils] 40)::t):=hq.more (.row (aU rJ) 98);obtain⟨Xv,hgv⟩:=hq3.viewG (nx:=M+4) [.i6 lD,.i6 rJ.Feat] (by simp[aL,bB]);refine aR rfl (bE.viewT (qvk n (GFS.mk jX) lD rJ.Feat P' G7) eU.h (by simp only[toV,eP,okL,okC,zC]<;>rfl) (fun m=>by simp[aI,aJ]) hgv) VK ?_;refine gr ?_;refine dM (fun tm X=>∃o7,Ta BA (T9 p1 p2 n dU (MV p1 p2 p4 n m2) lD m3) o7=some r/\tm=fr 98 [(0,.iM bA p1),(1,.iM (cI .i64) p2),(3,.i6 p4),(8,.ptr 0 0 0),(9,.ptr 1 0 0),(11,.i6 dU),(12,.i6 lD),(13,.i6 BA)]/\∃qs M h,QI o7 qs M eY h/\X=⟨h,M+3⟩) ?_ ?_;rintro _ _ ⟨o7,J,rfl,qs,M,h,hq,rfl⟩;unfold Ta at J;refine go ?_;exact⟨_,_,_,zN _,⟨_,o7,J,rfl,qs,M,h,hq,rfl⟩,NZ,Gh.sub (by((repeat refine⟨rfl,?_⟩);exact trivial))⟩;refine cF J ?_ ?_<;>intro UQ J;obtain⟨R8,KO,J⟩:=aC J;obtain⟨CY,QB,J⟩:=aC J;obtain⟨Xh,J⟩:=d9 J;obtain⟨R7,h61,J⟩:=aC J;have I_:=KO.symm.trans h61;cases I_;rw[hq.el]at KO;obtain⟨y,hy,rfl⟩:=zb1 KO;obtain⟨e,he,gl⟩:∃e,y.nm=e+3/\e<M:=by have:=hq.lo y (z3m hy);exact⟨y.nm-3,by omega,by omega⟩
 haveI:Nq (M+1) e:=⟨by rw[beq_eq];simp;omega⟩
 haveI:Nq M e:=⟨by rw[beq_eq];simp;omega⟩
 have pu:=hq.ga y (z3m hy);refine cE (pullG (a:=rJ) he gl pu) NZ ?_;rw[show y.nd.Arcs=y.ar from rfl]at Xh;refine gn ?_;refine dM (fun tm X=>tm=fr 98 [(0,.iM bA p1),(1,.iM (cI .i64) p2),(3,.i6 p4),(8,.ptr 0 0 0),(9,.ptr 1 0 0),(11,.i6 dU),(12,.i6 lD),(13,.i6 BA)]/\X=⟨(M+4,.row [.i6 rJ.Feat,.i6 CY] 98)::(M+3,.row (aU rJ) 98)::(2,.bv cQ (qs.set (0+lD.toNat) ⟨y.ty,e+3,y.st+1,y.ar++[aK.mk rJ.Feat CY]⟩) 78 2 eY)::(1,.row [.vl 2 eY 0 qs.length] 40)::(0,.row [.nils] 40)::(e+3,.bv aU (y.ar++[aK.mk rJ.Feat CY]) 98 2 (y.st+1))::rg t (e+3),M+5⟩) ?_ ?_;rintro _ _ ⟨rfl,rfl⟩;refine go ?_;refine⟨_,_,⟨_,J,rfl,_,M+2,_,hq.upd hy he gl rJ ⟨rJ.Feat,CY⟩,rfl⟩,NZ,Gh.sub (by((repeat refine⟨rfl,?_⟩);exact trivial))⟩;refine dE [(0,17),(0,18),(1,17),(1,18),(2,17),(2,18),(3,17),(4,17),(5,17),(6,17),(7,17),(8,17)] ?_;refine gd ?_;refine aQ rfl (dX rfl rfl (hZ cQ jG.h (aZ mD.h) (by decide) XX (vo rfl) hy)) ?_;refine aQ rfl (jW wD.h rfl (aZ jY.h) rfl (uB rfl) rfl) ?_;refine aQ (u:=.vl (e+3) y.st 0 y.ar.length) rfl (wL cQ eJ.h rfl XX rfl rfl (oP hy) (by rw[<-he];rfl)) ?_;refine gd ?_;refine cA QB ?_;refine gd ?_;refine eC ?_;refine eC ?_;refine aQ rfl (dX rfl rfl (hZ cQ jG.h (aZ mD.h) (by decide) XX (vo rfl) hy)) ?_;refine aQ rfl (jW wD.h rfl (aZ jY.h) rfl (uB rfl) rfl) (RD.actn (u:=.junk) (X':=⟨(M+4,.row [.i6 rJ.Feat,.i6 CY] 98)::(M+3,.row (aU rJ) 98)::(2,.bv cQ (qs.set (0+lD.toNat) ⟨y.ty,e+3,y.st+1,y.ar++[aK.mk rJ.Feat CY]⟩) 78 2 eY)::(1,.row [.vl 2 eY 0 qs.length] 40)::(0,.row [.nils] 40)::(e+3,.bv aU (y.ar++[aK.mk rJ.Feat CY]) 98 2 (y.st+1))::rg t (e+3),M+5⟩) rfl (bz (y:=(⟨y.ty,e+3,y.st+1,y.ar++[aK.mk rJ.Feat CY]⟩:QN)) cQ (aZ jY.h) XX rfl rfl rfl rfl rfl rfl (oP hy) rfl rfl) rfl ?_);refine bI ⟨by kernel_rfl,⟨jW jF.h rfl (aZ FR.h) rfl rfl rfl,⟨jW jF.h rfl (aZ FR.h) rfl rfl rfl,⟨oO jG.h rfl rfl rfl rfl,⟨oO jG.h rfl rfl rfl rfl,⟨iQ rfl,⟨iQ rfl,⟨jW jF.h rfl (aZ FR.h) rfl rfl rfl,⟨oO jG.h rfl rfl rfl rfl,⟨iQ rfl,⟨dX rfl rfl (hZ cQ jG.h (aZ mD.h) (by decide) XX (vo rfl) hy),⟨jW wD.h rfl (aZ jY.h) rfl (uB rfl) rfl,⟨wL cQ eJ.h rfl XX rfl rfl (oP hy) (by rw[<-he];rfl),trivial⟩⟩⟩⟩⟩⟩⟩⟩⟩⟩⟩⟩,?_⟩;refine go ?_;exact⟨_,_,⟨rfl,rfl⟩,NZ,Gh.sub (by((repeat refine⟨rfl,?_⟩);exact trivial))⟩;refine go ?_;exact⟨_,_,⟨jX,J,rfl,qs,M+1,_,hq3,rfl⟩,NZ,Gh.sub (by((repeat refine⟨rfl,?_⟩);exact trivial))⟩;refine go ?_;exact⟨_,_,⟨jX,J,rfl,qs,M,h,hq,rfl⟩,NZ,Gh.sub (by((repeat refine⟨rfl,?_⟩);exact trivial))⟩;refine go ?_;exact⟨_,_,⟨l24,J,rfl,qs,M,h,hq,rfl⟩,NZ,Gh.sub (by((repeat refine⟨rfl,?_⟩);exact trivial))⟩;rintro(_|m1) _ _ ⟨eB,c6,fS,J,rfl,qs,M,h,hq,rfl⟩;cases J;unfold Ja at J;refine gF J ?_ ?_<;>intro KN J;obtain⟨t,CB,hq⟩:=hq.same (nx:=M+3) (fr 98 [(0,.iM bA p1),(1,.iM (cI .i64) p2),(2,.iM (cI .i64) p3),(3,.i6 p4),(8,.ptr 0 0 0),(9,.ptr 1 0 0),(10,.i6 eB)]);refine cE (Gh.sub (l':=[(0,.iM bA p1),(1,.iM (cI .i64) p2),(2,.iM (cI .i64) p3),(3,.i6 p4),(8,.ptr 0 0 0),(9,.ptr 1 0 0),(10,.i6 eB)]) (by((repeat refine⟨rfl,?_⟩);exact trivial))) NZ ?_;refine cE CB NZ ?_
 haveI:SuC (M+3) (M+4):=⟨rfl⟩
 haveI:Nq (M+1) M:=⟨by rw[beq_eq];simp⟩
 refine go ?_;apply aV;obtain⟨LU,tN,J⟩:=aC J;obtain⟨Xg,J⟩:=d9 J;rw[show c6.length=qs.length by rw[hq.el,yA]]at Xg;refine go ?_;refine dE [(0,7),(1,7)] ?_;refine gd ?_;refine cA tN ?_;refine gd ?_;refine RD.fz (u1:=.sl (M+3) 0 1 1) (u:=.sl (M+3) 0 1 1) (s1:=⟨(M+3,.row [.i6 LU,.nils] 78)::(2,.bv cQ qs 78 2 fS)::(1,.row [.vl 2 fS 0 qs.length] 40)::(0,.row [.nils] 40)::t,M+4⟩) rfl Go.Vx.opz nilRow (by show M+4<=M+5;omega) rfl rfl ?_;refine eC ?_;refine gd ?_;refine qJ ?_;refine bI ⟨by kernel_rfl,⟨jW jF.h rfl (aZ FR.h) rfl rfl rfl,⟨oO jG.h rfl rfl rfl rfl,trivial⟩⟩,?_⟩;refine go ?_;exact⟨_,_,_,zN _,⟨_,(c6++[(aN.mk LU [])]),(fS+1),J,rfl,_,M+2,_,hq.app LU,rfl⟩,NZ,Gh.sub (by((repeat refine⟨rfl,?_⟩);exact trivial))⟩;refine go ?_;exact⟨_,_,⟨c6,fS,J,rfl,qs,M,h,hq,rfl⟩,NZ,Gh.sub (by((repeat refine⟨rfl,?_⟩);exact trivial))⟩
end Go.Proofs
namespace Go.Proofs
open Go Go.Rx Go.Vx Tryz
set_option maxRecDepth 20000
def sd(n:Nat)(p1:Int)(p2:List aK)(p4:Int)(p5:Int):Option ((List aK)):=
 aF ((0:Int)<=p1/\p1<=((p2.length:Nat):Int)) (cond (1==0) (some p2) (cond (p1==(p2.length:Int)) (aF ((p2.length+1)*16<=140737488355328/\p2.length+1<=140737488355328) (some (p2++[(aK.mk p4 p5)]))) (none)))
theorem qjc(n:Nat)(p1:Int)(p2:List aK)(p4:Int)(p5:Int)(r:(List aK))(J:sd n p1 p2 p4 p5=some r):∀t3:Nat,bE prog 77 [.vl 0 t3 0 p2.length,.int .i64 p1,.sl 1 0 1 1] ⟨[(0,.bv aU p2 98 2 t3),(1,.row [.int .i64 p4,.int .i64 p5] 98)],2⟩ (fun u X'=>∃t:Nat->Nat,u=.vl 0 (t 0) 0 r.length/\X'=⟨[(0,.bv aU r 98 2 (t 0)),(1,.row [.int .i64 p4,.int .i64 p5] 98)],2⟩):=by
 unfold sd at J;intro t3;refine CP 95 Yc ?_;obtain⟨h6,J⟩:=d9 J;refine go ?_;refine aP (u:=.vl 0 t3 (0+p1.toNat) (p2.length-p1.toNat)) rfl (AW rfl (AL rfl) mL mL (O6 aU eJ.h (aZ kG.h) rQ (vo rfl) (Nat.le_of_eq (Nat.zero_add _)) (wm h6.1 h6.2))) ?_;refine go ?_;refine aP (u:=.i6 1) rfl (SA rfl rfl rfl (by simp only[lenU,bU,gt,Nat.beq,zC,zD,B.st,eJ.h]<;>rfl)) ?_;refine gF J ?_ ?_<;>intro h7 J;refine go ?_;obtain rfl:=sI J;exact⟨.inr rfl,[.vl 0 t3 0 p2.length],eA rfl (dL),.vl 0 t3 0 p2.length,⟨[(0,.bv aU p2 98 2 t3),(1,.row [.i6 p4,.i6 p5] 98)],2⟩,NL,Gh.to (n1:=2) [] rfl rfl NL NL eU.h BH.h,stF [t3],rfl,rfl⟩;refine gF J ?_ ?_<;>intro h8 J;obtain⟨h9,J⟩:=d9 J;refine go ?_;refine bR ?_;refine go ?_;obtain rfl:=sI J;exact⟨.inr rfl,[.vl 0 (t3+1) 0 ((p2++[(aK.mk p4 p5)]).length)],eA rfl (dL),.vl 0 (t3+1) 0 ((p2++[(aK.mk p4 p5)]).length),⟨[(0,.bv aU (p2++[(aK.mk p4 p5)]) 98 2 (t3+1)),(1,.row [.i6 p4,.i6 p5] 98)],2⟩,NL,Gh.to (n1:=2) [] rfl rfl NL NL eU.h BH.h,stF [(t3+1)],rfl,rfl⟩;refine gn ?_;cases J
end Go.Proofs
