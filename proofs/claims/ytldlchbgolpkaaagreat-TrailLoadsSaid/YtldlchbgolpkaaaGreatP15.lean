import Derived.Test.YtldlchbgolpkaaaGreatP14
set_option linter.all false
namespace Go.Proofs
open Go Go.Rx Go.Vx Tryz
instance:TbP prog tb:=⟨tb_ok⟩
set_option maxRecDepth 20000
set_option maxHeartbeats 4000000
set_option synthInstance.maxSize 4000
set_option synthInstance.maxHeartbeats 200000
instance:y8 tb 214 [.nils,.nils,.nils] [(0,1),(1,1),(2,1)]:=⟨AN QM.h Ua.h rfl (by kernel_rfl)⟩
abbrev O7(a)(b:Nat)(c)(d:Nat)(e)(f:Nat)(g)(h):=([(6,.bv aW a 78 2 b),(5,.row [.vl 6 b 0 a.length] 40),(4,.bv (cI .i64) c 3 1 d),(3,.bv (cI .i64) e 3 1 f),(2,.row [.iM aW g,.vl 3 f 0 e.length,.vl 4 d 0 c.length] 214),(1,.row [.nils] 40),(0,.row [.iM aW h] 40)]:V (Nat×B))
abbrev O6(a)(b:Nat)(c:Nat)(d)(e):=([(0,.row [.iM aW a,.vl 1 b 0 d.length,.vl 2 c 0 e.length] 214),(1,.bv (cI .i64) d 3 1 b),(2,.bv (cI .i64) e 3 1 c)]:V (Nat×B))
abbrev Ga(a):=([(1,.row [.nils] 40),(0,.row [.iM aW a] 40)]:V (Nat×B))
def Rg(p1:V aG)(z6:Int)(l7:V aG)(cA:Int->(V aG)->M ((V aG)))(dV:Int):M ((V aG)):=
 aH ((0:Int)<=dV/\dV<=((l7.length:Nat):Int)) (
 aH (0+dV.toNat<=l7.length) (
 aH (((l7.drop 0).take dV.toNat).length*16<=140737488355328/\((l7.drop 0).take dV.toNat).length<=140737488355328) (
 a8 (aC p1 z6) fun kJ=>
 aH ((((l7.drop 0).take dV.toNat).length+1)*16<=140737488355328/\((l7.drop 0).take dV.toNat).length+1<=140737488355328) (
 aH ((0:Int)<=dV/\dV<=((l7.length:Nat):Int)) (
 aH ((0+dV.toNat)+(l7.length-dV.toNat)<=l7.length) (
 aH (((((l7.drop 0).take dV.toNat)++[kJ]).length+((l7.drop (0+dV.toNat)).take (l7.length-dV.toNat)).length)*16<=140737488355328/\(((l7.drop 0).take dV.toNat)++[kJ]).length+((l7.drop (0+dV.toNat)).take (l7.length-dV.toNat)).length<=140737488355328) (
 cA (IntKind.i64.wrap (z6+1)) ((((l7.drop 0).take dV.toNat)++[kJ])++((l7.drop (0+dV.toNat)).take (l7.length-dV.toNat))))))))))
def Rf(p1:V aG)(z6:Int)(l7:V aG)(cA:Int->(V aG)->M ((V aG))):Nat->Int->M ((V aG))
 |0,_=>none|m2+1,LY=>a8 (cond (decide (LY>0)) (a8 (aC l7 (IntKind.i64.wrap (LY-1))) fun jC=>a8 (aC p1 z6) fun lR=>some (decide (jC.Feat>lR.Feat))) (some false)) fun b33=>cond b33 ((Rf p1 z6 l7 cA m2) (IntKind.i64.wrap (LY-1))) (Rg p1 z6 l7 cA LY)
def L_  (l9:V aG):M ((V aG)):=
 some l9
def SK(p1:V aG)(n:Nat):Nat->Int->(V aG)->M ((V aG))
 |0,_,_=>none|m1+1,z6,l7=>cond (decide (z6<(p1.length:Int))) (Rf p1 z6 l7 (SK p1 n m1) n (l7.length:Int)) (L_ l7)
def Pb(n:Nat)(p1:V aG):M ((V aG)):=
 SK p1 n n 0 ([]:V aG)
theorem qkr(n:Nat)(p1:V aG)(r:(V aG))(J:Pb n p1=some r):b7 prog 137 [.isl false (p1.map aL)] ⟨[],0⟩ (fun u X'=>∃t,u=.vl 0 t 0 r.length/\X'=⟨[(0,.bv aL r 98 2 t)],0+1⟩):=by unfold Pb at J;refine jO 52 KX ?_;refine gr ?_;refine gr ?_;refine gr ?_;refine gV 3 98 2 1 ?_;refine gL (fun m tm X=>∃z6 l7 t8,SK p1 n m z6 l7=some r/\tm=fr 52 [(0,.iM aL p1),(3,.vl 0 t8 0 l7.length),(4,.i6 z6)]/\X=⟨[(0,.bv aL l7 98 2 t8)],1⟩) (fun tm X=>∃l9 cN,L_ l9=some r/\tm=fr 52 [(3,.vl 0 cN 0 l9.length)]/\X=⟨[(0,.bv aL l9 98 2 cN)],1⟩) n ⟨0,([]:V aG),0,J,rfl,rfl⟩ ?_ ?_;rintro _ _ ⟨l9,cN,J,rfl,rfl⟩;refine go ?_;obtain rfl:=sI J;exact⟨.inr rfl,[.vl 0 cN 0 l9.length],dS rfl d9,.vl 0 cN 0 l9.length,⟨[(0,.bv aL l9 98 2 cN)],1⟩,NZ,Gh.trans (LP (fun k=>Nat.beq k 0)) (Gh.to (n1:=1) [] rfl rfl NZ NL eQ.h BH.h),cN,rfl,rfl⟩;rintro(_|m1) _ _ ⟨z6,l7,t8,J,rfl,rfl⟩;cases J;refine gF J ?_ ?_<;>intro iT J;refine go ?_;apply aU;refine go ?_;refine gL (fun m tm X=>∃LY,Rf p1 z6 l7 (SK p1 n m1) m LY=some r/\tm=fr 52 [(0,.iM aL p1),(3,.vl 0 t8 0 l7.length),(4,.i6 z6),(5,.i6 LY)]/\X=⟨[(0,.bv aL l7 98 2 t8)],1⟩) (fun tm X=>∃dV,Rg p1 z6 l7 (SK p1 n m1) dV=some r/\tm=fr 52 [(0,.iM aL p1),(3,.vl 0 t8 0 l7.length),(4,.i6 z6),(5,.i6 dV)]/\X=⟨[(0,.bv aL l7 98 2 t8)],1⟩) n ⟨(l7.length:Int),J,rfl,rfl⟩ ?_ ?_;rintro _ _ ⟨dV,J,rfl,rfl⟩;obtain⟨j8,J⟩:=d7 J;obtain⟨pG,J⟩:=d7 J;obtain⟨mM,J⟩:=d7 J;refine go ?_;refine aO (u:=.vl 0 t8 0 dV.toNat) rfl (yX rfl mI (yN rfl) mI (NQ aL dW.h (aX iO.h) mT (vo rfl) (Nat.le_of_eq (Nat.zero_add _)) (XP j8.1 j8.2))) (aO (u:=.vl 1 0 0 (((l7.drop 0).take dV.toNat).length)) (X':=⟨[(1,.bv aL ((l7.drop 0).take dV.toNat) 98 2 0),(0,.bv aL l7 98 2 t8)],2⟩) rfl (uZ rfl rfl rfl rfl (ai aL ((l7.drop 0).take dV.toNat) dW.h dW.h iO.h rfl (qo aL mT (vo rfl) pG) mM)) ?_);obtain⟨kJ,nF,J⟩:=aN J;obtain⟨oR,J⟩:=d7 J;refine go ?_;refine aY nF ?_;refine go ?_;refine aO (u:=.sl 2 0 1 1) (X':=⟨[(2,.row (aL kJ) 98),(1,.bv aL ((l7.drop 0).take dV.toNat) 98 2 0),(0,.bv aL l7 98 2 t8)],3⟩) rfl (tH dW.h iO.h rfl rfl rfl rfl rfl rfl rfl) ?_;refine bN ?_;obtain⟨qR,J⟩:=d7 J;obtain⟨mL,J⟩:=d7 J;obtain⟨uP,J⟩:=d7 J;refine go ?_;refine aO (u:=.vl 0 t8 (0+dV.toNat) (l7.length-dV.toNat)) rfl (yX rfl (yN rfl) mI mI (NQ aL dW.h (aX iO.h) mT (vo rfl) (Nat.le_of_eq (Nat.zero_add _)) (wa qR.1 qR.2))) (aO (u:=.vl 1 2 0 (((((l7.drop 0).take dV.toNat)++[kJ])++((l7.drop (0+dV.toNat)).take (l7.length-dV.toNat))).length)) (X':=⟨[(2,.row (aL kJ) 98),(1,.bv aL ((((l7.drop 0).take dV.toNat)++[kJ])++((l7.drop (0+dV.toNat)).take (l7.length-dV.toNat))) 98 2 2),(0,.bv aL l7 98 2 t8)],3⟩) rfl (uZ rfl rfl rfl rfl (RN aL ((l7.drop (0+dV.toNat)).take (l7.length-dV.toNat)) dW.h dW.h iO.h rfl mT rfl (qo aL mT (vo rfl) mL) uP)) ?_);refine go ?_;exact⟨m1,_,_,zN _,⟨(IntKind.i64.wrap (z6+1)),((((l7.drop 0).take dV.toNat)++[kJ])++((l7.drop (0+dV.toNat)).take (l7.length-dV.toNat))),2,J,rfl,rfl⟩,NZ,Gh.trans (Gh.sub (l':=[(0,.iM aL p1),(3,.vl 1 2 0 (((((l7.drop 0).take dV.toNat)++[kJ])++((l7.drop (0+dV.toNat)).take (l7.length-dV.toNat))).length)),(4,.i6 (IntKind.i64.wrap (z6+1)))]) ⟨rfl,rfl,rfl,trivial⟩) (Gh.trans (Gh.mv (l':=[(0,.iM aL p1),(3,.vl 0 2 0 (((((l7.drop 0).take dV.toNat)++[kJ])++((l7.drop (0+dV.toNat)).take (l7.length-dV.toNat))).length)),(4,.i6 (IntKind.i64.wrap (z6+1)))]) (h':=[(2,.row (aL kJ) 98),(0,.bv aL ((((l7.drop 0).take dV.toNat)++[kJ])++((l7.drop (0+dV.toNat)).take (l7.length-dV.toNat))) 98 2 2)]) 0 1 NZ rfl rfl (by simp only[rS,rU,iQ,H7,BC,Nat.beq,zC,zD]) rfl (by simp only[Q0,rB,RG,iQ,rU,H7,Ez,BC,Nat.beq,zC,zD,and_self])) (Gh.toC (n1:=1) ⟨rfl,rfl,rfl,trivial⟩ rfl NZ (by simp)))⟩;rintro(_|m2) _ _ ⟨LY,J,rfl,rfl⟩;cases J;obtain⟨b33,mW,J⟩:=aN J;refine gn ?_;refine dJ (fun tm X=>tm=fr 52 [(0,.iM aL p1),(3,.vl 0 t8 0 l7.length),(4,.i6 z6),(5,.i6 LY),(30,.bool b33)]/\X=⟨[(0,.bv aL l7 98 2 t8)],1⟩) ?_ ?_;rintro _ _ ⟨rfl,rfl⟩;refine gF J ?_ ?_<;>intro rO J;refine go ?_;apply aU;refine go ?_;exact lC ⟨_,J,rfl,rfl⟩;refine go ?_;exact xC ⟨LY,J,rfl,rfl⟩;refine dE [] ?_;refine gd ?_;rcases gB mW with⟨oQ,mW⟩|⟨oQ,mW⟩;obtain⟨jC,pS,mW⟩:=aN mW;obtain⟨lR,nE,mW⟩:=aN mW;obtain rfl:=sI mW;refine gd ?_;refine RD.wq rfl (dO rfl rfl (gR aL dW.h (aX iO.h) (by decide) mT (vo rfl) pS)) ?_;refine RD.wq rfl (j5 sS.h rfl (aX gH.h) rfl (sE rfl) rfl) (RD.wq (u:=.i6 jC.Feat) rfl (vZ aL kC.h rfl mT rfl rfl (o7 pS) rfl) ?_);refine gd ?_;refine c8 nE ?_;refine gd ?_;refine bC ⟨by kernel_rfl,trivial,?_⟩;refine go ?_;exact xC ⟨rfl,rfl⟩;obtain rfl:=sI mW;refine gd ?_;refine bC ⟨by kernel_rfl,trivial,?_⟩;refine go ?_;exact xC ⟨rfl,rfl⟩;refine go ?_;exact xC ⟨l7,t8,J,rfl,rfl⟩
def Ij(dQ:Int)(cA:Int->(V Int)->(V Int)->M ((V Int)×(V Int)))(mK:V Int)(pA:V Int):M ((V Int)×(V Int)):=
 cA (IntKind.i64.wrap (dQ+1)) mK pA
def q?  (l27:V Int) (c6:V Int):M ((V Int)×(V Int)):=
 some (l27,c6)
def YY(p2:V aJ)(dD:V aG)(self:Int->(V aJ)->(V Int)->(V Int)->M ((V Int)×(V Int))):Nat->Int->(V Int)->(V Int)->M ((V Int)×(V Int))
 |0,_,_,_=>none|m1+1,dQ,l24,kO=>
  cond (decide (dQ<(dD.length:Int))) (a8 (aC dD dQ) fun lR=>
   a8 (aC l24 lR.To) fun qV=>cond (decide (qV<0)) (a8 (aC dD dQ) fun x39=>
    a8 (self x39.To p2 l24 kO) fun pY=>
    Ij dQ (YY p2 dD self m1) pY.1 pY.2) (Ij dQ (YY p2 dD self m1) l24 kO)) (q? l24 kO)
def ut(n:Nat)(self:Int->(V aJ)->(V Int)->(V Int)->M ((V Int)×(V Int)))(p1:Int)(p2:V aJ)(p3:V Int)(p5:V Int):M ((V Int)×(V Int)):=
 a8 (aC p3 p1) fun x7=>
 aH ((p5.length+1)*8<=140737488355328/\p5.length+1<=140737488355328) (
 a8 (aC p2 p1) fun x10=>
 a8 (Pb n x10.Arcs) fun dD=>
 YY p2 dD self n 0 (p3.set (0+p1.toNat) (p5.length:Int)) (p5++[p1]))
def OQ:Nat->Int->(V aJ)->(V Int)->(V Int)->M ((V Int)×(V Int))
 |0,_,_,_,_=>none|n+1,p1,p2,p3,p5=>ut n (OQ n) p1 p2 p3 p5
theorem qdx:∀(n:Nat)(p1:Int)(p2:V aJ)(p3:V Int)(p5:V Int)(r:(V Int)×(V Int)),OQ n p1 p2 p3 p5=some r->∀t4 t6:Nat,b7 prog 136 [.ptr 0 0 0,.int .i64 p1] ⟨O6 p2 t4 t6 p3 p5,3⟩ (fun u X'=>∃t:Nat->Nat,u=.tup []/\X'=⟨O6 p2 t4 (t 0) r.1 r.2,3⟩)
 |0,p1,p2,p3,p5,r,J=>by cases J
 |n+1,p1,p2,p3,p5,r,J=>by have ih:=qdx n;unfold OQ ut at J;intro t4 t6;refine fQ 62 KY ?_;obtain⟨x7,h8,J⟩:=aN J;apply(gn);refine dJ (fun tm X=>tm=fr 62 [(0,.ptr 0 0 0),(1,.i6 p1)]/\X=⟨O6 p2 t4 t6 (p3.set (0+p1.toNat) (p5.length:Int)) p5,3⟩) ?_ ?_;rintro _ _ ⟨rfl,rfl⟩;obtain⟨h9,J⟩:=d7 J;apply(go);refine aO (u:=.ptr 0 0 0) rfl (fS rfl rfl) ?_;apply(go);refine bN ?_;refine bN ?_;refine aO (u:=.ptr 0 0 0) rfl (fS rfl rfl) ?_;obtain⟨x10,iT,dD,dC,J⟩:=bS J;apply(go);refine aO (u:=.ptr 0 0 0) rfl (fS rfl rfl) ?_;apply(go);refine aY iT ?_;apply(go);refine jQ (R:=fun u X'=>u=.vl 4 0 0 dD.length/\X'=⟨(4,.bv aL dD 98 2 0)::(3,.row [.i6 p1] 3)::O6 p2 t4 (t6+1) (p3.set (0+p1.toNat) (p5.length:Int)) (p5++[p1]),5⟩) (args:=[.iM aL x10.Arcs]) rfl (fH rfl rfl KX rfl rfl rfl) (qc aL (qkr n x10.Arcs dD dC) _ 4 rfl) rfl rfl ?_;rintro _ _ ⟨rfl,rfl⟩;apply(go);refine gL (fun m tm X=>∃dQ l24,∃kO IL,YY p2 dD (OQ n) m dQ l24 kO=some r/\tm=fr 62 [(0,.ptr 0 0 0),(4,.vl 4 0 0 dD.length),(5,.i6 dQ)]/\X=⟨(4,.bv aL dD 98 2 0)::(3,.row [.i6 p1] 3)::O6 p2 t4 IL l24 kO,5⟩) (fun tm X=>∃l27 c6 iV,q? l27 c6=some r/\tm=fr 62 []/\X=⟨(4,.bv aL dD 98 2 0)::(3,.row [.i6 p1] 3)::O6 p2 t4 iV l27 c6,5⟩) n ⟨0,(p3.set (0+p1.toNat) (p5.length:Int)),(p5++[p1]),(t6+1),J,rfl,rfl⟩ ?_ ?_;rintro _ _ ⟨l27,c6,iV,J,rfl,rfl⟩;apply(go);cases J;exact⟨.inl rfl,[],d9,.tup [],⟨O6 p2 t4 iV l27 c6,3⟩,NL,Gh.to (n1:=3) [] rfl rfl NL NL eQ.h BH.h,stF [iV],rfl,rfl⟩;rintro(_|m1) _ _ ⟨dQ,l24,kO,IL,J,rfl,rfl⟩;cases J;refine gF J ?_ ?_<;>intro pS J;apply(go);apply aU;have⟨lR,nE,qV,mW,J⟩:=bS J;apply(go);apply dE [];apply(gd);apply aQ (u:=.ptr 0 0 0) rfl (fS rfl rfl);apply(gd);apply aQ rfl (dO rfl rfl (gR aL dW.h (aX iO.h) (by decide) mT (vo rfl) nE));refine aQ rfl (j5 sS.h rfl (aX gH.h) rfl (sE rfl) rfl) (aQ (u:=.i6 lR.To) rfl (vZ aL kC.h rfl mT rfl rfl (o7 nE) rfl) ?_);apply aQ rfl (dO rfl rfl (gR (cI .i64) fJ.h (aX gH.h) (by decide) (m9 .i64) (vo rfl) mW));refine aQ rfl (yW (cI .i64) (fun x=>.i6 x) kC.h rfl (fun _=>rfl) rfl rfl mW) ?_;apply(gd);refine bC ⟨by kernel_rfl,trivial,?_⟩;apply(gn);refine dJ (fun tm X=>∃mK pA M4,Ij dQ (YY p2 dD (OQ n) m1) mK pA=some r/\tm=fr 62 [(0,.ptr 0 0 0),(4,.vl 4 0 0 dD.length),(5,.i6 dQ)]/\X=⟨(4,.bv aL dD 98 2 0)::(3,.row [.i6 p1] 3)::O6 p2 t4 M4 mK pA,5⟩) ?_ ?_;rintro _ _ ⟨mK,pA,M4,J,rfl,rfl⟩;unfold Ij at J;apply(go);exact lC ⟨_,mK,pA,M4,J,rfl,rfl⟩;refine cF J ?_ ?_<;>intro rO J;obtain⟨x39,sN,pY,pR,J⟩:=bS J;apply(go);refine aO rfl (dO rfl rfl (gR aL dW.h (aX iO.h) (by decide) mT (vo rfl) sN)) ?_;refine aO rfl (j5 sS.h rfl (aX gH.h) rfl (sE rfl) rfl) (aO (u:=.i6 x39.To) rfl (vZ aL kC.h rfl mT rfl rfl (o7 sN) rfl) (jQ (args:=[.ptr 0 0 0,.i6 x39.To]) rfl (fH rfl rfl KY rfl rfl rfl) (b7.st [0,1,2] (ih x39.To p2 l24 kO pY pR t4 IL)) rfl rfl ?_));rintro _ _ ⟨DG,rfl,rfl⟩;apply(go);exact xC ⟨pY.1,pY.2,(DG 0),J,rfl,rfl⟩;apply(go);exact xC ⟨l24,kO,IL,J,rfl,rfl⟩;apply(go);exact xC ⟨l24,kO,IL,J,rfl,rfl⟩;refine dE [] ?_;apply(gd);refine aQ (u:=.ptr 0 0 0) rfl (fS rfl rfl) ?_;apply(gd);refine aQ (u:=.ptr 0 0 0) rfl (fS rfl rfl) ?_;apply(gd);refine aQ rfl (dO rfl rfl (gR (cI .i64) fJ.h (aX gH.h) (by decide) (m9 .i64) (vo rfl) h8)) ?_;refine HX (u:=.junk) (X':=⟨[(0,.row [.iM aW p2,.vl 1 t4 0 p3.length,.vl 2 t6 0 p5.length] 214),(1,.bv (cI .i64) (p3.set (0+p1.toNat) (p5.length:Int)) 3 1 t4),(2,.bv (cI .i64) p5 3 1 t6)],3⟩) rfl (Ee (cI .i64) (aX gH.h) (m9 .i64) rfl rfl rfl rfl rfl rfl rfl (o7 h8) rfl) rfl ?_;refine bC ⟨by kernel_rfl,trivial,?_⟩;apply(go);exact⟨_,_,⟨rfl,rfl⟩,NL,mX ⟨rfl,rfl,trivial⟩ (by simp[O6,List.length_set])⟩
def mc(jE:Int)(l27:V aJ)(iW:Int->(V aJ)->M (GFS))(oV:aJ)(oK:V aG):M (GFS):=
 aH ((l27.length+1)*32<=140737488355328/\l27.length+1<=140737488355328) (
 iW (IntKind.i64.wrap (jE+1)) (l27++[(aJ.mk oV.Typex oK)]))
def Hf(eH:(V Int)×(V Int))(jE:Int)(l27:V aJ)(iW:Int->(V aJ)->M (GFS))(oV:aJ):Nat->Int->(V aG)->M (GFS)
 |0,_,_=>none|m3+1,D6,sJ=>
  cond (decide (D6<(sJ.length:Int))) (a8 (aC sJ D6) fun DC=>
   a8 (aC eH.1 DC.To) fun DB=>
   a8 (aC sJ D6) fun GP=>(Hf eH jE l27 iW oV m3) (IntKind.i64.wrap (D6+1)) (sJ.set (0+D6.toNat) (aG.mk GP.Feat DB))) (mc jE l27 iW oV sJ)
def a_  (fL:V aJ):M (GFS):=
 some (GFS.mk fL)
def S8(p1:GFS)(n:Nat)(eH:(V Int)×(V Int)):Nat->Int->(V aJ)->M (GFS)
 |0,_,_=>none|m2+1,jE,l27=>
  cond (decide (jE<(eH.2.length:Int))) (a8 (aC eH.2 jE) fun mY=>
   a8 (aC p1.Nodes mY) fun oV=>
   a8 (Pb n oV.Arcs) fun Eu=>
   Hf eH jE l27 (S8 p1 n eH m2) oV n 0 Eu) (a_ l27)
def me(p1:GFS)(p2:Int)(n:Nat)(hZ:V Int):M (GFS):=
 a8 (OQ n p2 p1.Nodes hZ ([]:V Int)) fun eH=>
 S8 p1 n eH n 0 ([]:V aJ)
def Qf(p1:GFS)(p2:Int)(n:Nat):Nat->Int->(V Int)->M (GFS)
 |0,_,_=>none|m1+1,z9,l10=>cond (decide (z9<(p1.Nodes.length:Int))) (aH ((l10.length+1)*8<=140737488355328/\l10.length+1<=140737488355328) ((Qf p1 p2 n m1) (IntKind.i64.wrap (z9+1)) (l10++[(-1)]))) (me p1 p2 n l10)
def Gq(n:Nat)(p1:GFS)(p2:Int):M (GFS):=
 Qf p1 p2 n n 0 ([]:V Int)
theorem qox(n:Nat)(p1:GFS)(p2:Int)(r:GFS)(J:Gq n p1 p2=some r):cV prog 106 [.agg [.isl false (p1.Nodes.map aW)],.int .i64 p2] (.agg [.isl false (r.Nodes.map aW)]):=by unfold Gq at J;refine fQ 88 L5 ?_;apply(gr);apply(gr);apply(gr);refine c9 (tm':=fr 88 [(1,.i6 p2),(2,.ptr 0 0 0),(4,.ptr 1 0 0),(5,.ptr 2 0 0),(6,.i6 0)]) (X':=⟨(3,.bv (cI .i64) ([]:V Int) 3 1 0)::(2,.row [.iM aW p1.Nodes,.vl 3 0 0 (([]:V Int).length),.nils] 214)::Ga p1.Nodes,4⟩) (Gh.trans (vP 2 1 3 1 (by decide) NZ rfl rfl) (mX ⟨rfl,rfl,rfl,rfl,rfl,trivial⟩ rfl)) NZ ?_;refine gL (fun m tm X=>∃z9 l10 jH,Qf p1 p2 n m z9 l10=some r/\tm=fr 88 [(1,.i6 p2),(2,.ptr 0 0 0),(4,.ptr 1 0 0),(5,.ptr 2 0 0),(6,.i6 z9)]/\X=⟨(3,.bv (cI .i64) l10 3 1 jH)::(2,.row [.iM aW p1.Nodes,.vl 3 jH 0 l10.length,.nils] 214)::Ga p1.Nodes,4⟩) (fun tm X=>∃hZ mP,me p1 p2 n hZ=some r/\tm=fr 88 [(1,.i6 p2),(2,.ptr 0 0 0),(4,.ptr 1 0 0),(5,.ptr 2 0 0)]/\X=⟨(3,.bv (cI .i64) hZ 3 1 mP)::(2,.row [.iM aW p1.Nodes,.vl 3 mP 0 hZ.length,.nils] 214)::Ga p1.Nodes,4⟩) n ⟨0,([]:V Int),0,J,rfl,rfl⟩ ?_ ?_;rintro _ _ ⟨hZ,mP,J,rfl,rfl⟩;apply(gn);refine c9 (tm':=fr 88 [(1,.i6 p2),(2,.ptr 0 0 0),(4,.ptr 1 0 0),(5,.ptr 2 0 0)]) (X':=⟨(4,.bv (cI .i64) ([]:V Int) 3 1 0)::(3,.bv (cI .i64) hZ 3 1 mP)::(2,.row [.iM aW p1.Nodes,.vl 3 mP 0 hZ.length,.vl 4 0 0 (([]:V Int).length)] 214)::Ga p1.Nodes,5⟩) (Gh.trans (vP 2 2 3 1 (by decide) NZ rfl rfl) (mX ⟨rfl,rfl,rfl,rfl,trivial⟩ rfl)) NZ ?_;obtain⟨eH,eM,J⟩:=aN J;apply(go);refine jQ (args:=[.ptr 2 0 0,.i6 p2]) rfl (fH rfl rfl KY rfl rfl rfl) (b7.st [2,3,4] (qdx n p2 p1.Nodes hZ ([]:V Int) eH eM mP 0)) rfl rfl ?_;rintro _ _ ⟨fE,rfl,rfl⟩;apply(gr);apply(gr);refine c9 (tm':=fr 88 [(2,.ptr 0 0 0),(4,.ptr 1 0 0),(5,.ptr 2 0 0),(7,.ptr 5 0 0),(8,.i6 0)]) (X':=⟨(6,.bv aW ([]:V aJ) 78 2 0)::(5,.row [.vl 6 0 0 (([]:V aJ).length)] 40)::(4,.bv (cI .i64) eH.2 3 1 (fE 0))::(3,.bv (cI .i64) eH.1 3 1 mP)::(2,.row [.iM aW p1.Nodes,.vl 3 mP 0 eH.1.length,.vl 4 (fE 0) 0 eH.2.length] 214)::Ga p1.Nodes,7⟩) (Gh.trans (vP 5 0 78 2 (by decide) NZ rfl rfl) (mX ⟨rfl,rfl,rfl,rfl,rfl,trivial⟩ rfl)) NZ ?_;refine gL (fun m tm X=>∃jE l27 m5,S8 p1 n eH m jE l27=some r/\tm=fr 88 [(2,.ptr 0 0 0),(4,.ptr 1 0 0),(5,.ptr 2 0 0),(7,.ptr 5 0 0),(8,.i6 jE)]/\X=⟨O7 l27 m5 eH.2 (fE 0) eH.1 mP p1.Nodes p1.Nodes,7⟩) (fun tm X=>∃fL oX,a_ fL=some r/\tm=fr 88 [(4,.ptr 1 0 0),(7,.ptr 5 0 0)]/\X=⟨O7 fL oX eH.2 (fE 0) eH.1 mP p1.Nodes p1.Nodes,7⟩) n ⟨0,([]:V aJ),0,J,rfl,rfl⟩ ?_ ?_;rintro _ _ ⟨fL,oX,J,rfl,rfl⟩;apply(go);obtain rfl:=sI J;exact rT (us:=[.agg [.vl 6 oX 0 fL.length]]) (u:=.agg [.iM aW fL]) (lV (jA iA.h rfl (aX mB.h) rfl rfl rfl) (d9)) (fR 6 2);rintro(_|m2) _ _ ⟨jE,l27,m5,J,rfl,rfl⟩;cases J;apply(go);refine aO (u:=.ptr 2 0 0) rfl (fS rfl rfl) ?_;refine gF J ?_ ?_<;>intro uO J;apply(go);apply aU;obtain⟨mY,qQ,oV,rO,J⟩:=bS J;apply(go);refine dE [(0,11),(1,11),(2,11),(3,11),(4,11),(5,11),(6,11),(7,11),(8,11),(9,11),(10,11)] ?_;apply(gd);refine aQ (u:=.ptr 2 0 0) rfl (fS rfl rfl) ?_;apply(gd);refine aQ rfl (dO rfl rfl (gR (cI .i64) fJ.h (aX gH.h) (by decide) (m9 .i64) (vo rfl) qQ)) ?_;refine aQ rfl (yW (cI .i64) (fun x=>.i6 x) kC.h rfl (fun _=>rfl) rfl rfl qQ) ?_;refine c8 rO ?_;apply(gd);refine dZ ?_;refine qU ?_;refine bC ⟨by kernel_rfl,⟨j5 iA.h rfl (aX xD.h) rfl rfl rfl,⟨nQ g8.h rfl rfl rfl rfl,⟨i7 rfl,⟨fS rfl rfl,⟨j5 QM.h rfl (aX R?.h) rfl rfl rfl,⟨nQ fJ.h rfl rfl rfl rfl,⟨i7 rfl,⟨dO rfl rfl (gR (cI .i64) fJ.h (aX gH.h) (by decide) (m9 .i64) (vo rfl) qQ),⟨yW (cI .i64) (fun x=>.i6 x) kC.h rfl (fun _=>rfl) rfl rfl qQ,⟨dO rfl rfl (Fc aW g8.h (aX kP.h) MM rO rfl),⟨zbr wQ.h rfl (aX kP.h) rfl rfl,trivial⟩⟩⟩⟩⟩⟩⟩⟩⟩⟩⟩,?_⟩;obtain⟨Eu,HO,J⟩:=aN J;apply(go);refine jQ (R:=fun u X'=>u=.vl 8 0 0 Eu.length/\X'=⟨(8,.bv aL Eu 98 2 0)::(7,.row (aW oV) 78)::O7 l27 m5 eH.2 (fE 0) eH.1 mP p1.Nodes p1.Nodes,9⟩) (args:=[.iM aL oV.Arcs]) rfl (fH rfl rfl KX rfl rfl rfl) (qc aL (qkr n oV.Arcs Eu HO) _ 8 rfl) rfl rfl ?_;rintro _ _ ⟨rfl,rfl⟩;apply(go);refine gL (fun m tm X=>∃D6 sJ,Hf eH jE l27 (S8 p1 n eH m2) oV m D6 sJ=some r/\tm=fr 88 [(2,.ptr 0 0 0),(4,.ptr 1 0 0),(5,.ptr 2 0 0),(7,.ptr 5 0 0),(8,.i6 jE),(9,.ptr 7 0 0),(10,.vl 8 0 0 sJ.length),(11,.i6 D6)]/\X=⟨(8,.bv aL sJ 98 2 0)::(7,.row (aW oV) 78)::O7 l27 m5 eH.2 (fE 0) eH.1 mP p1.Nodes p1.Nodes,9⟩) (fun tm X=>∃oK,mc jE l27 (S8 p1 n eH m2) oV oK=some r/\tm=fr 88 [(2,.ptr 0 0 0),(4,.ptr 1 0 0),(5,.ptr 2 0 0),(7,.ptr 5 0 0),(8,.i6 jE),(9,.ptr 7 0 0),(10,.vl 8 0 0 oK.length)]/\X=⟨(8,.bv aL oK 98 2 0)::(7,.row (aW oV) 78)::O7 l27 m5 eH.2 (fE 0) eH.1 mP p1.Nodes p1.Nodes,9⟩) n ⟨0,Eu,J,rfl,rfl⟩ ?_ ?_;rintro _ _ ⟨oK,J,rfl,rfl⟩;apply(gn);refine c9 (tm':=fr 88 [(2,.ptr 0 0 0),(4,.ptr 1 0 0),(5,.ptr 2 0 0),(7,.ptr 5 0 0),(8,.i6 jE),(9,.ptr 7 0 0),(10,.iM aL oK)]) (X':=⟨(7,.row (aW oV) 78)::O7 l27 m5 eH.2 (fE 0) eH.1 mP p1.Nodes p1.Nodes,9⟩) (Gh.trans (Gh.sub (l':=[(2,.ptr 0 0 0),(4,.ptr 1 0 0),(5,.ptr 2 0 0),(7,.ptr 5 0 0),(8,.i6 jE),(9,.ptr 7 0 0),(10,.vl 8 0 0 oK.length)]) ⟨rfl,rfl,rfl,rfl,rfl,rfl,rfl,trivial⟩) (HW 8 2)) NZ ?_;obtain⟨Jp,J⟩:=d7 J;apply(go);refine bN ?_;refine bN ?_;apply(go);exact lC ⟨_,(l27++[(aJ.mk oV.Typex oK)]),(m5+1),J,rfl,rfl⟩;rintro(_|m3) _ _ ⟨D6,sJ,J,rfl,rfl⟩;cases J;refine gF J ?_ ?_<;>intro KO J;apply(go);apply aU;obtain⟨DC,PN,DB,Bo,GP,KN,J⟩:=lG J;apply(gn);refine dJ (fun tm X=>tm=fr 88 [(2,.ptr 0 0 0),(4,.ptr 1 0 0),(5,.ptr 2 0 0),(7,.ptr 5 0 0),(8,.i6 jE),(9,.ptr 7 0 0),(10,.vl 8 0 0 ((sJ.set (0+D6.toNat) (aG.mk GP.Feat DB)).length)),(11,.i6 D6)]/\X=⟨(8,.bv aL (sJ.set (0+D6.toNat) (aG.mk GP.Feat DB)) 98 2 0)::(7,.row (aW oV) 78)::O7 l27 m5 eH.2 (fE 0) eH.1 mP p1.Nodes p1.Nodes,9⟩) ?_ ?_;rintro _ _ ⟨rfl,rfl⟩;apply(go);exact lC ⟨_,(sJ.set (0+D6.toNat) (aG.mk GP.Feat DB)),J,rfl,rfl⟩;refine dE [] ?_;apply(gd);refine aQ (u:=.ptr 2 0 0) rfl (fS rfl rfl) ?_;apply(gd);refine aQ rfl (dO rfl rfl (gR aL dW.h (aX iO.h) (by decide) mT (vo rfl) PN)) ?_;refine aQ rfl (j5 sS.h rfl (aX gH.h) rfl (sE rfl) rfl) (aQ (u:=.i6 DC.To) rfl (vZ aL kC.h rfl mT rfl rfl (o7 PN) rfl) ?_);refine aQ rfl (dO rfl rfl (gR (cI .i64) fJ.h (aX gH.h) (by decide) (m9 .i64) (vo rfl) Bo)) ?_;refine aQ rfl (yW (cI .i64) (fun x=>.i6 x) kC.h rfl (fun _=>rfl) rfl rfl Bo) ?_;refine aQ rfl (dO rfl rfl (gR aL dW.h (aX iO.h) (by decide) mT (vo rfl) KN)) ?_;refine aQ rfl (j5 sS.h rfl (aX gH.h) rfl (sE rfl) rfl) (HX (u:=.junk) (X':=⟨(8,.bv aL (sJ.set (0+D6.toNat) (aG.mk GP.Feat DB)) 98 2 0)::(7,.row (aW oV) 78)::O7 l27 m5 eH.2 (fE 0) eH.1 mP p1.Nodes p1.Nodes,9⟩) rfl (qf (y:=(aG.mk GP.Feat DB)) aL (aX gH.h) mT rfl rfl rfl rfl rfl rfl (o7 KN) rfl rfl) rfl ?_);refine bC ⟨by kernel_rfl,trivial,?_⟩;apply(go);exact⟨_,_,⟨rfl,rfl⟩,NZ,mX ⟨rfl,rfl,rfl,rfl,rfl,rfl,(by simp only[Ga,O7,List.length_set];rfl),rfl,trivial⟩ rfl⟩;apply(go);exact xC ⟨sJ,J,rfl,rfl⟩;apply(go);exact xC ⟨l27,m5,J,rfl,rfl⟩;rintro(_|m1) _ _ ⟨z9,l10,jH,J,rfl,rfl⟩;cases J;refine gF J ?_ ?_<;>intro h63 J;apply(go);apply aU;obtain⟨sM,J⟩:=d7 J;apply(go);refine aO (u:=.ptr 2 0 0) rfl (fS rfl rfl) ?_;apply(go);refine bN ?_;refine bN ?_;refine aO (u:=.ptr 2 0 0) rfl (fS rfl rfl) ?_;apply(go);exact lC ⟨_,(l10++[(-1)]),(jH+1),J,rfl,rfl⟩;apply(go);exact xC ⟨l10,jH,J,rfl,rfl⟩
def rl: M (Int×D1):=
 some (0,false)
def Qc(p3:Int)(x4:aJ):Nat->Int->M (Int×D1)
 |0,_=>none|m1+1,dL=>cond (decide (dL<(x4.Arcs.length:Int))) (a8 (aC x4.Arcs dL) fun iJ=>cond (iJ.Feat==p3) (a8 (aC x4.Arcs dL) fun sR=>some (sR.To,true)) ((Qc p3 x4 m1) (IntKind.i64.wrap (dL+1)))) (rl)
def vi(n:Nat)(p1:GFS)(p2:Int)(p3:Int):M (Int×D1):=
 a8 (aC p1.Nodes p2) fun x4=>
 Qc p3 x4 n 0
theorem qx4(n:Nat)(p1:GFS)(p2:Int)(p3:Int)(r:Int×D1)(J:vi n p1 p2 p3=some r):cV prog 105 [.agg [.isl false (p1.Nodes.map aW)],.int .i64 p2,.int .i64 p3] (.tup [.int .i64 r.1,.bool r.2]):=by apply D2 34 V3;have⟨x4,h5,J⟩:=aN J;apply(go);apply aY h5;apply(go);refine gL (fun m tm X=>∃dL,Qc p3 x4 m dL=some r/\tm=fr 34 [(2,.i6 p3),(8,.iM aL x4.Arcs),(9,.i6 dL)]/\X=⟨[(0,.row [.iM aW p1.Nodes] 40)],1⟩) (fun tm X=>rl=some r/\tm=fr 34 []/\X=⟨[(0,.row [.iM aW p1.Nodes] 40)],1⟩) n ⟨0,J,rfl,rfl⟩ ?_ ?_;rintro _ _ ⟨J,rfl,rfl⟩;apply(go);cases J;exact yI rfl rfl rfl rfl rfl;rintro(_|m1) _ _ ⟨dL,J,rfl,rfl⟩;cases J;refine gF J ?_ ?_<;>intro iT J;apply(go);apply aU;have⟨iJ,dC,J⟩:=aN J;apply(go);apply aY dC;refine gF J ?_ ?_<;>intro i4 J;have⟨sR,pH,J⟩:=aN J;apply(go);apply aY pH;apply(go);cases J;exact yI rfl rfl rfl rfl rfl;apply(go);exact lC ⟨_,J,rfl,rfl⟩;apply(go);exact xC ⟨J,rfl,rfl⟩
end Go.Proofs
namespace Go.Vx
open Go Go.Rx
theorem du(K:Nat)(b:B)(sz:Nat):∀(l m:V U),jW K b sz (l++m)=jW K b sz l++jW K b sz m
 |[],m=>by simp[v6]
 |u::l,m=>by rw[List.cons_append,sG,sG,du K b sz l m,List.cons_append]
theorem Gh.three{n:Nat}{l:V (Nat×U)}{h:V (Nat×B)}{nx:Nat}{a b c:B}(h2:gt h 2=some c)(h1:gt h 1=some b)(h0:gt h 0=some a)(hn:3<=nx)(hl:aM 3 (fr n l))(ha:BelB 3 a)(hb:BelB 3 b)(hc:BelB 3 c):Gh 0 (fr n l) ⟨h,nx⟩ (fr n l) ⟨[(2,c),(1,b),(0,a)],3⟩:=by
 have key:∀k,gt [(2,c),(1,b),(0,a)] k=gt (Vx.cut 3 h) k:=fun k=>by rw[Ff];rcases k with _ |_ |_ |k;simp[eN,h0];simp[eN,h1];simp[eN,h2];simp[eN,gt];omega
 refine(Gh.cutG (X:=⟨h,nx⟩) (n1:=3) (Nat.zero_le _) hn hl fun k d hd=>?_).trans (Gh.same (X:=⟨Vx.cut 3 h,3⟩) _ key);rw[<-key]at hd;rcases k with _ |_ |_ |k;simp[eN]at hd;subst hd;exact ha;simp[eN]at hd;subst hd;exact hb;simp[eN]at hd;subst hd;exact hc;have hz:gt [(2,c),(1,b),(0,a)] (k+3)=none:=by rw[eN,if_neg (by omega),eN,if_neg (by omega),eN,if_neg (by omega)];rfl
 have bF:gt [(2,c),(1,b),(0,a)] (k+3)=some d:=hd;rw[hz]at bF;cases bF
end Go.Vx
namespace Go.Proofs
open Go Go.Rx Go.Vx
structure QN where
 ty:Int
 nm:Nat
 st:Nat
 ar:V aG
def QN.nd(q:QN):aJ:=⟨q.ty,q.ar⟩
def cQ(q:QN):V U:=[.int .i64 q.ty,.vl q.nm q.st 0 q.ar.length]
theorem XI(q:QN):(cQ q).length=2:=rfl
instance:gC cQ 2:=⟨XI⟩
structure QI(l:V aJ)(qs:V QN)(v10 st:Nat)(h:V (Nat×B)):Prop where
 el:l=qs.map QN.nd
 g0:gt h 0=some (.row [.nils] 40)
 g1:gt h 1=some (.row [.vl 2 st 0 qs.length] 40)
 g2:gt h 2=some (.bv cQ qs 78 2 st)
 ga:∀q∈qs,gt h q.nm=some (.bv aL q.ar 98 2 q.st)
 lo:∀q∈qs,3<=q.nm/\q.nm<v10+3
 nd:(qs.map QN.nm).Nodup
theorem z8u(n:Nat)(l:V aG):aM n (l.map aL).flatten:=w7 n (fun q=>Y8 n q) l
theorem fz_dn(K:Nat)(b:B)(sz:Nat)(l:V aJ):jW K b sz (l.map aW).flatten=(l.map aW).flatten:=oH _ _ _ (w7 K (fun q=>JC K q) l)
theorem fz_qs(K:Nat)(b:B)(sz:Nat):∀(l:V QN),(∀q∈l,q.nm≠K)->jW K b sz (l.map cQ).flatten=(l.map cQ).flatten
 |[],_=>by simp[v6]
 |q::l,h=>by
  have h1:Nat.beq q.nm K=false:=by rw[beq_eq];simpa using h q (by simp)
  rw[zQ,List.flatten_cons,du,fz_qs K b sz l fun x hx=>h x (by simp[hx])];simp[cQ,sG,v6,C4,OF h1]
theorem frz{n0:Nat}{tm:V U}(hb:aM 3 tm){st N nx:Nat}:∀(qs:V QN)(dn:V aJ)(h:V (Nat×B)),
  gt h 2=some (.vec ((dn.map aW).flatten++(qs.map cQ).flatten) 78 2 st)->gt h 1=some (.row [.vl 2 st 0 N] 40)->gt h 0=some (.row [.nils] 40)->
  (∀q∈qs,gt h q.nm=some (.bv aL q.ar 98 2 q.st)/\3<=q.nm)->(qs.map QN.nm).Nodup->
  ∃h',Gh n0 tm ⟨h,nx⟩ tm ⟨h',nx⟩/\gt h' 2=some (.bv aW (dn++qs.map QN.nd) 78 2 st)/\gt h' 1=some (.row [.vl 2 st 0 N] 40)/\gt h' 0=some (.row [.nils] 40)
 |[],dn,h,h2,h1,h0,_,_=>⟨h,Gh.refl _ _ _,by simpa using h2,h1,h0⟩|q::qs,dn,h,h2,h1,h0,hq,hn=>by
  have⟨g1,g2⟩:=hq q (by simp);rw[zQ,List.nodup_cons]at hn;have d5:∀x∈qs,x.nm≠q.nm:=fun x hx e=>hn.1 (by rw[<-e];exact List.mem_map_of_mem hx);have hbq:aM q.nm tm:=(HE _ _).2 fun u hu=>bA.le g2 u ((HE _ _).1 hb u hu);have step:Gh n0 tm ⟨h,nx⟩ tm ⟨fzH q.nm (.bv aL q.ar 98 2 q.st) 2 h,nx⟩:=Gh.fz q.nm _ 2 g1 nofun (oH _ _ _ hbq) rfl;obtain⟨h',e1,e2,e3,e4⟩:=frz hb (n0:=n0) (nx:=nx) (N:=N) (st:=st) qs (dn++[q.nd]) (fzH q.nm (.bv aL q.ar 98 2 q.st) 2 h)
   (by
    rw[Fe,if_neg (by omega),h2];simp only[zM,fzB,du,fz_dn,zQ,List.flatten_cons,fz_qs _ _ _ qs d5];have:jW q.nm (.bv aL q.ar 98 2 q.st) 2 (cQ q)=aW q.nd:=by simp only[cQ,sG,v6,C4,R9 mT,aW,QN.nd]
    rw[this];simp)
   (by
    rw[Fe,if_neg (by omega),h1];have:Nat.beq 2 q.nm=false:=by rw[beq_eq];simp;omega
    simp[zM,fzB,sG,v6,OF this])
   (by rw[Fe,if_neg (by omega),h0];simp[zM,fzB,sG,v6,DV])
   (fun x hx=>by have⟨k1,k2⟩:=hq x (by simp[hx]);refine⟨?_,k2⟩;rw[Fe,if_neg (d5 x hx),k1];simp[zM,fzB,oH _ _ _ (z8u _ _)])
   hn.2
  exact⟨h',step.trans e1,by simpa using e2,e3,e4⟩
theorem QI.same{l:V aJ}{qs:V QN}{v10 st nx:Nat}{h:V (Nat×B)}(q:QI l qs v10 st h)(tm:V U):∃t,Gh 0 tm ⟨h,nx⟩ tm ⟨(2,.bv cQ qs 78 2 st)::(1,.row [.vl 2 st 0 qs.length] 40)::(0,.row [.nils] 40)::t,nx⟩/\QI l qs v10 st ((2,.bv cQ qs 78 2 st)::(1,.row [.vl 2 st 0 qs.length] 40)::(0,.row [.nils] 40)::t):=by
 have key:∀k,gt ((2,.bv cQ qs 78 2 st)::(1,.row [.vl 2 st 0 qs.length] 40)::(0,.row [.nils] 40)::h) k=gt h k:=fun k=>by simp[eN];by_cases e2:2=k;subst e2;simp[q.g2];by_cases e1:1=k;subst e1;simp[q.g1];by_cases e0:0=k;subst e0;simp[q.g0];simp[e2,e1,e0]
 refine⟨h,Gh.same (X:=⟨h,nx⟩) _ key,⟨q.el,?_,?_,?_,fun x hx=>?_,q.lo,q.nd⟩⟩;rw[key];exact q.g0;rw[key];exact q.g1;rw[key];exact q.g2;rw[key];exact q.ga x hx
variable{l:V aJ}
variable{qs:V QN}
variable{v10:Nat}
theorem QI.more{st:Nat}{h:V (Nat×B)}(q:QI l qs v10 st h)(b:B):QI l qs (v10+1) st ((v10+3,b)::h) where
 el:=q.el
 g0:=by rw[eN,if_neg (by omega)];exact q.g0
 g1:=by rw[eN,if_neg (by omega)];exact q.g1
 g2:=by rw[eN,if_neg (by omega)];exact q.g2
 ga:=fun x hx=>by have:=q.lo x hx;rw[eN,if_neg (by omega)];exact q.ga x hx
 lo:=fun x hx=>by have:=q.lo x hx;omega
 nd:=q.nd
theorem QI.viewG{st nx:Nat}{h:V (Nat×B)}(q:QI l qs v10 st h)(az:V U)(ha:aM 2 az):∃X1,Gh 0 (.agg [.vl 2 st 0 qs.length]::az) ⟨h,nx⟩ (.agg [.isl false (l.map aW)]::az) X1:=by
 have hb:aM 3 (.agg [.vl 2 st 0 qs.length]::az):=by
  refine(HE _ _).2 fun u hu=>?_;rcases zI.1 hu with rfl |hu
  simp[bA,aM];exact bA.le (by omega) u ((HE _ _).1 ha u hu)
 have⟨h',e1,e2,e3,e4⟩:=frz (n0:=0) hb (st:=st) (N:=qs.length) (nx:=nx) qs [] h (by simpa using q.g2) q.g1 q.g0 (fun x hx=>⟨q.ga x hx,(q.lo x hx).1⟩) q.nd;rw[List.nil_append,<-q.el]at e2;have hl:qs.length=l.length:=by rw[q.el,yA]
 refine⟨⟨fzH 2 (.bv aW l 78 2 st) 2 h',nx⟩,e1.trans (Gh.fz 2 (.bv aW l 78 2 st) 2 e2 nofun ?_ rfl)⟩;rw[sG,oH _ _ _ ha,DS,sG,v6,hl,R9 MM]
variable{i:Int}
theorem zd5{v11 I:Type}{f:v11->I}{l:V v11}{y:I}(h:aC (l.map f) i=some y):∃x,aC l i=some x/\f x=y:=by have⟨h1,h2,h3⟩:=Y3 h;rw[List.getElem?_map]at h3;rcases e:l[i.toNat]? with _|x;rw[e]at h3;cases h3;rw[e]at h3;refine⟨x,?_,Option.some.inj h3⟩;rw[yA]at h2;rw[aC,if_pos ⟨h1,h2⟩];exact e
theorem z5u{v11:Type}{l:V v11}{y:v11}(h:aC l i=some y):y∈l:=zX (Y3 h).2.2
variable{t:V (Nat×B)}
theorem pullG{n0:Nat}{tm:V U}{st e:Nat}{y:QN}{a:aG}(he:y.nm=e+3)(pq:e<v10)
  (hy:gt ((2,.bv cQ qs 78 2 st)::(1,.row [.vl 2 st 0 qs.length] 40)::(0,.row [.nils] 40)::t) y.nm=some (.bv aL y.ar 98 2 y.st)):
  Gh n0 tm ⟨(v10+3,.row (aL a) 98)::(2,.bv cQ qs 78 2 st)::(1,.row [.vl 2 st 0 qs.length] 40)::(0,.row [.nils] 40)::t,v10+4⟩ tm
   ⟨(v10+3,.row (aL a) 98)::(2,.bv cQ qs 78 2 st)::(1,.row [.vl 2 st 0 qs.length] 40)::(0,.row [.nils] 40)::(e+3,.bv aL y.ar 98 2 y.st)::rg t (e+3),v10+4⟩:=by
 refine Gh.same (X:=⟨_,v10+4⟩) _ fun k=>?_;rw[he,eN,if_neg (by omega),eN,if_neg (by omega),eN,if_neg (by omega)]at hy;simp[eN];split;rfl;split;rfl;split;rfl;split;rfl;split
 ·next h=>rw[<-h,hy]
 ·next h=>rw[gt_rg,if_neg h]
theorem QI.upd{st e:Nat}{y:QN}(q:QI l qs v10 st ((2,.bv cQ qs 78 2 st)::(1,.row [.vl 2 st 0 qs.length] 40)::(0,.row [.nils] 40)::t))(hy:aC qs i=some y)(he:y.nm=e+3)(pq:e<v10)(a:aG)(z:aG):
  QI (l.set (0+i.toNat) ⟨y.nd.Typex,y.nd.Arcs++[z]⟩) (qs.set (0+i.toNat) ⟨y.ty,e+3,y.st+1,y.ar++[z]⟩) (v10+2) st ((v10+4,.row [.i6 z.Feat,.i6 z.To] 98)::(v10+3,.row (aL a) 98)::(2,.bv cQ (qs.set (0+i.toNat) ⟨y.ty,e+3,y.st+1,y.ar++[z]⟩) 78 2 st)::(1,.row [.vl 2 st 0 qs.length] 40)::(0,.row [.nils] 40)::(e+3,.bv aL (y.ar++[z]) 98 2 (y.st+1))::rg t (e+3)):=by
 obtain⟨h1,h2,h3⟩:=Y3 hy;have hi:i.toNat<qs.length:=(zG.1 h3).1;have hnm:(qs.set (0+i.toNat) ⟨y.ty,e+3,y.st+1,y.ar++[z]⟩).map QN.nm=qs.map QN.nm:=by
  rw[Nat.zero_add,List.map_set];have:(⟨y.ty,e+3,y.st+1,y.ar++[z]⟩:QN).nm=y.nm:=by rw[he]
  rw[this];have hz:(qs.map QN.nm)[i.toNat]? = some y.nm:=by rw[List.getElem?_map,h3];rfl
  obtain⟨a1,b1⟩:=zG.1 hz;rw[<-b1,List.set_getElem_self]
 have A9:∀x∈qs.set (0+i.toNat) ⟨y.ty,e+3,y.st+1,y.ar++[z]⟩,x=⟨y.ty,e+3,y.st+1,y.ar++[z]⟩\/(x∈qs/\x.nm≠e+3):=fun x hx=>by
  obtain⟨j,hj⟩:=List.getElem?_of_mem hx;rw[Nat.zero_add,List.getElem?_set]at hj;by_cases d5:i.toNat=j;rw[if_pos d5]at hj;by_cases aF:i.toNat<qs.length;rw[if_pos aF]at hj;exact .inl (Option.some.inj hj).symm;rw[if_neg aF]at hj;cases hj;rw[if_neg d5]at hj;refine .inr ⟨zX hj,fun hc=>d5 ?_⟩;have p1:(qs.map QN.nm)[i.toNat]? = some (e+3):=by rw[List.getElem?_map,h3,<-he];rfl
  have p2:(qs.map QN.nm)[j]? = some (e+3):=by rw[List.getElem?_map,hj,<-hc];rfl
  obtain⟨a1,b1⟩:=zG.1 p1;obtain⟨a2,b2⟩:=zG.1 p2;exact(List.getElem_inj (h₀:=a1) (h₁:=a2) q.nd).1 (by rw[b1,b2])
 refine⟨?_,?_,?_,?_,fun x hx=>?_,fun x hx=>?_,by rw[hnm];exact q.nd⟩;rw[List.map_set,q.el];rfl;simp only[eN];rw[if_neg (by omega),if_neg (by omega),if_neg (by omega),if_neg (by omega)];rfl;simp only[eN];rw[if_neg (by omega),if_neg (by omega),if_neg (by omega),List.length_set];rfl;simp only[eN];rw[if_neg (by omega),if_neg (by omega)];rfl;rcases A9 x hx with rfl |⟨hx,d5⟩;simp only[eN];rw[if_neg (by omega),if_neg (by omega),if_neg (by omega),if_neg (by omega),if_neg (by omega)];simp;have l1:=q.lo x hx;have g1:=q.ga x hx;rw[eN,if_neg (by omega),eN,if_neg (by omega),eN,if_neg (by omega)]at g1;simp[eN];rw[if_neg (by omega),if_neg (by omega),if_neg (by omega),if_neg (by omega),if_neg (by omega),if_neg (by omega),gt_rg,if_neg (by omega)];exact g1;rcases A9 x hx with rfl |⟨hx,d5⟩;show 3<=e+3/\e+3<v10+2+3;omega;have l1:=q.lo x hx;omega
instance{a:Int}{k:Nat}:DeC cQ [.int .i64 a,.vl k 0 0 0] ⟨a,k,0,[]⟩:=⟨rfl⟩
theorem nilRow{tm:V U}{x:Int}{H:V (Nat×B)}:Gh (v10+4) tm ⟨(v10+3,.row [.i6 x,.nils] 78)::H,v10+4⟩ tm ⟨(v10+4,.vec [] 98 2 0)::(v10+3,.row [.i6 x,.vl (v10+4) 0 0 0] 78)::H,v10+5⟩:=by
 have h1:Nat.beq (v10+4) (v10+3)=false:=by rw[beq_eq];simp
 have h2:Nat.beq (v10+3) (v10+3)=true:=by rw[beq_eq];simp
 have:=vP (n0:=v10+4) (tm:=tm) (X:=⟨(v10+3,.row [.i6 x,.nils] 78)::H,v10+4⟩) (q:=[.i6 x,.nils]) (e0:=78) (v10+3) 1 98 2 (by decide) (zF _) (by simp[gt,h2,zC]) rfl;simp[newU,ug,h1,h2,zC,zD,List.set]at this;exact this
theorem QI.app{st:Nat}(q:QI l qs v10 st ((2,.bv cQ qs 78 2 st)::(1,.row [.vl 2 st 0 qs.length] 40)::(0,.row [.nils] 40)::t))(x:Int):
  QI (l++[aJ.mk x []]) (qs++[(⟨x,v10+4,0,[]⟩:QN)]) (v10+2) (st+1) ((v10+4,.vec [] 98 2 0)::(v10+3,.row [.i6 x,.vl (v10+4) 0 0 0] 78)::(2,.bv cQ (qs++[(⟨x,v10+4,0,[]⟩:QN)]) 78 2 (st+1))::(1,.row [.vl 2 (st+1) 0 (qs++[(⟨x,v10+4,0,[]⟩:QN)]).length] 40)::(0,.row [.nils] 40)::t) where
 el:=by rw[q.el];simp[QN.nd]
 g0:=by simp only[eN];rw[if_neg (by omega),if_neg (by omega),if_neg (by omega),if_neg (by omega)];rfl
 g1:=by simp only[eN];rw[if_neg (by omega),if_neg (by omega),if_neg (by omega)];rfl
 g2:=by simp only[eN];rw[if_neg (by omega),if_neg (by omega)];rfl
 ga:=fun y hy=>by rcases yD.1 hy with hy |hy;have l1:=q.lo y hy;have g1:=q.ga y hy;rw[eN,if_neg (by omega),eN,if_neg (by omega),eN,if_neg (by omega)]at g1;simp[eN];rw[if_neg (by omega),if_neg (by omega),if_neg (by omega),if_neg (by omega),if_neg (by omega)];exact g1;simp at hy;subst hy;simp[eN]
 lo:=fun y hy=>by rcases yD.1 hy with hy |hy;have l1:=q.lo y hy;omega;simp at hy;subst hy;show 3<=v10+4/\v10+4<v10+2+3;omega
 nd:=by rw[List.map_append,List.nodup_append];refine⟨q.nd,by simp,fun a ha b hb=>?_⟩;obtain⟨y,hy,rfl⟩:=List.mem_map.1 ha;simp at hb;subst hb;have:=q.lo y hy;omega
theorem qi0:QI [] [] 0 0 [(2,.bv cQ ([]:V QN) 78 2 0),(1,.row [.vl 2 0 0 (([]:V QN).length)] 40),(0,.row [.nils] 40)]:=⟨rfl,rfl,rfl,rfl,(fun q hq=>by cases hq),(fun q hq=>by cases hq),List.nodup_nil⟩
end Go.Proofs
namespace Go.Proofs
open Go Go.Rx Go.Vx Tryz
instance:TbP prog tb:=⟨tb_ok⟩
set_option maxRecDepth 20000
set_option maxHeartbeats 4000000
set_option synthInstance.maxSize 4000
set_option synthInstance.maxHeartbeats 200000
def Re(BP:Int)(X4:Int->(V aJ)->M (GFS))(oK:V aJ):M (GFS):=
 X4 (IntKind.i64.wrap (BP+1)) oK
def ui(dQ:Int)(iW:Int->(V aJ)->M (GFS))(kG:V aJ):M (GFS):=
 iW (IntKind.i64.wrap (dQ+1)) kG
def YU(p1:V aJ)(p2:V Int)(n:Nat)(dQ:Int)(iW:Int->(V aJ)->M (GFS))(lR:Int):Nat->Int->(V aJ)->M (GFS)
 |0,_,_=>none|m3+1,BP,nC=>
  a8 (aC p1 dQ) fun x44=>cond (decide (BP<(x44.Arcs.length:Int))) (a8 (aC p1 dQ) fun x47=>
   a8 (aC x47.Arcs BP) fun rV=>
   a8 (vi n (GFS.mk nC) lR rV.Feat) fun tz=>cond (!tz.2) (a8 (aC nC lR) fun QC=>
    a8 (aC p2 rV.To) fun DC=>
    aH ((QC.Arcs.length+1)*16<=140737488355328/\QC.Arcs.length+1<=140737488355328) (
    a8 (aC nC lR) fun QB=>
    Re BP (YU p1 p2 n dQ iW lR m3) (nC.set (0+lR.toNat) (aJ.mk QB.Typex (QC.Arcs++[(aG.mk rV.Feat DC)]))))) (Re BP (YU p1 p2 n dQ iW lR m3) nC)) (ui dQ iW nC)
def Ro(p2:V Int)(p4:Int)(n:Nat)(kO:V aJ):M (GFS):=
 a8 (aC p2 p4) fun IA=>
 a8 (Gq n (GFS.mk kO) IA) fun NM=>some NM
def OP(p1:V aJ)(p2:V Int)(p4:Int)(n:Nat):Nat->Int->(V aJ)->M (GFS)
 |0,_,_=>none|m2+1,dQ,l24=>cond (decide (dQ<(p1.length:Int))) (a8 (aC p2 dQ) fun lR=>YU p1 p2 n dQ (OP p1 p2 p4 n m2) lR n 0 l24) (Ro p2 p4 n l24)
def Rd(p1:V aJ)(p2:V Int)(p4:Int)(n:Nat)(l15:V aJ):M (GFS):=
 OP p1 p2 p4 n n 0 l15
def Rn(p1:V aJ)(p2:V Int)(p3:V Int)(p4:Int)(n:Nat):Nat->Int->(V aJ)->M (GFS)
 |0,_,_=>none|m1+1,dY,c7=>cond (decide (dY<(p1.length:Int))) (a8 (aC p3 dY) fun LZ=>aH ((c7.length+1)*32<=140737488355328/\c7.length+1<=140737488355328) ((Rn p1 p2 p3 p4 n m1) (IntKind.i64.wrap (dY+1)) (c7++[(aJ.mk LZ [])]))) (Rd p1 p2 p4 n c7)
def Pp(n:Nat)(p1:V aJ)(p2:V Int)(p3:V Int)(p4:Int):M (GFS):=
 Rn p1 p2 p3 p4 n n 0 ([]:V aJ)
theorem qpb(n:Nat)(p1:V aJ)(p2:V Int)(p3:V Int)(p4:Int)(r:GFS)(J:Pp n p1 p2 p3 p4=some r):cV prog 69 [.isl false (p1.map aW),.isl false (p2.map (cI .i64)),.isl false (p3.map (cI .i64)),.int .i64 p4] (.agg [.isl false (r.Nodes.map aW)]):=by
 unfold Pp at J;refine gk 98 Xw ?_;apply(gr);apply(gr);apply(gr);refine c9 (tm':=fr 98 [(0,.iM aW p1),(1,.iM (cI .i64) p2),(2,.iM (cI .i64) p3),(3,.i6 p4),(8,.ptr 0 0 0),(9,.ptr 1 0 0),(10,.i6 0)]) (X':=⟨[(2,.bv cQ ([]:V QN) 78 2 0),(1,.row [.vl 2 0 0 (([]:V QN).length)] 40),(0,.row [.nils] 40)],3⟩) (Gh.trans (vP 1 0 78 2 (by decide) NZ rfl rfl) (mX ⟨rfl,rfl,rfl,rfl,rfl,rfl,rfl,trivial⟩ rfl)) NZ ?_;refine gL (fun m tm X=>∃dY c7 fA,Rn p1 p2 p3 p4 n m dY c7=some r/\tm=fr 98 [(0,.iM aW p1),(1,.iM (cI .i64) p2),(2,.iM (cI .i64) p3),(3,.i6 p4),(8,.ptr 0 0 0),(9,.ptr 1 0 0),(10,.i6 dY)]/\∃qs v10 h,QI c7 qs v10 fA h/\X=⟨h,v10+3⟩) (fun tm X=>∃l15 fE,Rd p1 p2 p4 n l15=some r/\tm=fr 98 [(0,.iM aW p1),(1,.iM (cI .i64) p2),(3,.i6 p4),(8,.ptr 0 0 0),(9,.ptr 1 0 0)]/\∃qs v10 h,QI l15 qs v10 fE h/\X=⟨h,v10+3⟩) n ⟨0,([]:V aJ),0,J,rfl,[],0,_,qi0,rfl⟩ ?_ ?_;rintro _ _ ⟨l15,fE,J,rfl,qs0,M0,hh0,hq0,rfl⟩;unfold Rd at J;apply(go);refine gL (fun m tm X=>∃dQ l24,OP p1 p2 p4 n m dQ l24=some r/\tm=fr 98 [(0,.iM aW p1),(1,.iM (cI .i64) p2),(3,.i6 p4),(8,.ptr 0 0 0),(9,.ptr 1 0 0),(11,.i6 dQ)]/\∃qs v10 h,QI l24 qs v10 fE h/\X=⟨h,v10+3⟩) (fun tm X=>∃kO,Ro p2 p4 n kO=some r/\tm=fr 98 [(1,.iM (cI .i64) p2),(3,.i6 p4),(8,.ptr 0 0 0),(9,.ptr 1 0 0)]/\∃qs v10 h,QI kO qs v10 fE h/\X=⟨h,v10+3⟩) n ⟨0,l15,J,rfl,qs0,M0,hh0,hq0,rfl⟩ ?_ ?_ NZ;rintro _ _ ⟨kO,J,rfl,qs,v10,h,hq,rfl⟩;have BM:BelS 3 [(1,.iM (cI .i64) p2),(3,.i6 p4),(8,.ptr 0 0 0),(9,.ptr 1 0 0)]:=BS.h;obtain⟨h',e1,e2,e3,e4⟩:=frz (n0:=0) (Ni (n:=98) BM) (st:=fE) (N:=qs.length) (nx:=v10+3) qs [] h (by simpa using hq.g2) hq.g1 hq.g0 (fun q hx=>⟨hq.ga q hx,(hq.lo q hx).1⟩) hq.nd;rw[List.nil_append,<-hq.el]at e2;have sL:qs.length=kO.length:=by rw[hq.el,yA]
 rw[sL]at e3;refine c9 (e1.trans (Gh.three e2 e3 e4 (by omega) (Ni (n:=98) BM) (by simp[BelB,aM,bA]) (by simp[BelB,aM,bA]) (w7 3 (fun q=>JC 3 q) kO))) NZ ?_;apply(gn);refine c9 (tm':=fr 98 [(1,.iM (cI .i64) p2),(3,.i6 p4),(8,.ptr 0 0 0),(9,.ptr 1 0 0)]) (X':=⟨[(1,.row [.iM aW kO] 40),(0,.row [.nils] 40)],3⟩) (Gh.trans (Gh.sub (l':=[(1,.iM (cI .i64) p2),(3,.i6 p4),(8,.ptr 0 0 0),(9,.ptr 1 0 0)]) ⟨rfl,rfl,rfl,rfl,trivial⟩) (HW 2 2)) NZ ?_;obtain⟨IA,uP,NM,pF,J⟩:=bS J;apply(go);refine dE [] ?_;apply(gd);refine c8 uP ?_;apply(gd);refine fC rfl (pC (qox n (GFS.mk kO) IA NM pF)) L5 ?_;refine qU ?_;refine bC ⟨by kernel_rfl,trivial,?_⟩;apply(go);obtain rfl:=sI J;exact rT (lV (jA iA.h rfl (aX mB.h) rfl rfl rfl) (d9)) (pU _ rfl);rintro(_|m2) _ _ ⟨dQ,l24,J,rfl,qs,v10,h,hq,rfl⟩;cases J;refine gF J ?_ ?_<;>intro pS J;apply(go);apply aU;obtain⟨lR,nE,J⟩:=aN J;apply(go);refine aY nE ?_;apply(go);refine gL (fun m tm X=>∃BP nC,YU p1 p2 n dQ (OP p1 p2 p4 n m2) lR m BP nC=some r/\tm=fr 98 [(0,.iM aW p1),(1,.iM (cI .i64) p2),(3,.i6 p4),(8,.ptr 0 0 0),(9,.ptr 1 0 0),(11,.i6 dQ),(12,.i6 lR),(13,.i6 BP)]/\∃qs v10 h,QI nC qs v10 fE h/\X=⟨h,v10+3⟩) (fun tm X=>∃kG,ui dQ (OP p1 p2 p4 n m2) kG=some r/\tm=fr 98 [(0,.iM aW p1),(1,.iM (cI .i64) p2),(3,.i6 p4),(8,.ptr 0 0 0),(9,.ptr 1 0 0),(11,.i6 dQ)]/\∃qs v10 h,QI kG qs v10 fE h/\X=⟨h,v10+3⟩) n ⟨0,l24,J,rfl,qs,v10,h,hq,rfl⟩ ?_ ?_ NZ;rintro _ _ ⟨kG,J,rfl,qs,v10,h,hq,rfl⟩;unfold ui at J;apply(go);exact⟨_,_,_,zN _,⟨_,kG,J,rfl,qs,v10,h,hq,rfl⟩,NZ,Gh.sub (by((repeat refine⟨rfl,?_⟩);exact trivial))⟩;rintro(_|m3) _ _ ⟨BP,nC,J,rfl,qs,v10,h,hq,rfl⟩;cases J;obtain⟨x44,pQ,J⟩:=aN J;apply(go);refine aY pQ ?_;refine gF J ?_ ?_<;>intro U5 J;obtain⟨t,G0,hq⟩:=hq.same (nx:=v10+3) (fr 98 [(0,.iM aW p1),(1,.iM (cI .i64) p2),(3,.i6 p4),(8,.ptr 0 0 0),(9,.ptr 1 0 0),(11,.i6 dQ),(12,.i6 lR),(13,.i6 BP)]);refine c9 (Gh.sub (l':=[(0,.iM aW p1),(1,.iM (cI .i64) p2),(3,.i6 p4),(8,.ptr 0 0 0),(9,.ptr 1 0 0),(11,.i6 dQ),(12,.i6 lR),(13,.i6 BP)]) (by((repeat refine⟨rfl,?_⟩);exact trivial))) NZ ?_;refine c9 G0 NZ ?_
 haveI:SuC (v10+3) (v10+4):=⟨rfl⟩
 haveI:SuC (v10+4) (v10+5):=⟨rfl⟩
 haveI:Nq (v10+1) v10:=⟨by rw[beq_eq];simp⟩
 apply(go);apply aU;obtain⟨x47,EG,rV,U4,J⟩:=bS J;apply(go);refine aY EG ?_;apply(go);refine aY U4 ?_;obtain⟨tz,G4,J⟩:=aN J;apply(go);have hq3:QI nC qs (v10+1) fE ((v10+3,.row (aL rV) 98)::(2,.bv cQ qs 78 2 fE)::(1,.row [.vl 2 fE 0 qs.length] 40)::(0,.row [.nils] 40)::t):=hq.more (.row (aL rV) 98);obtain⟨v12,hgv⟩:=hq3.viewG (nx:=v10+4) [.i6 lR,.i6 rV.Feat] (by simp[aM,bA]);refine aR rfl (b7.viewT (qx4 n (GFS.mk nC) lR rV.Feat tz G4) eQ.h (by simp only[toV,eG,okL,okC,zC]<;>rfl) (fun m=>by simp[ren,aE]) hgv) V3 ?_;apply(gr);refine dJ (fun tm X=>∃oK,Re BP (YU p1 p2 n dQ (OP p1 p2 p4 n m2) lR m3) oK=some r/\tm=fr 98 [(0,.iM aW p1),(1,.iM (cI .i64) p2),(3,.i6 p4),(8,.ptr 0 0 0),(9,.ptr 1 0 0),(11,.i6 dQ),(12,.i6 lR),(13,.i6 BP)]/\∃qs v10 h,QI oK qs v10 fE h/\X=⟨h,v10+3⟩) ?_ ?_;rintro _ _ ⟨oK,J,rfl,qs,v10,h,hq,rfl⟩;unfold Re at J;apply(go);exact⟨_,_,_,zN _,⟨_,oK,J,rfl,qs,v10,h,hq,rfl⟩,NZ,Gh.sub (by((repeat refine⟨rfl,?_⟩);exact trivial))⟩;refine cF J ?_ ?_<;>intro PO J;obtain⟨QC,KO,DC,PN,J⟩:=bS J;obtain⟨Wr,J⟩:=d7 J;obtain⟨QB,h61,J⟩:=aN J;have hxx:=KO.symm.trans h61;cases hxx;rw[hq.el]at KO;obtain⟨y,hy,rfl⟩:=zd5 KO;obtain⟨e,he,pq⟩:∃e,y.nm=e+3/\e<v10:=by have:=hq.lo y (z5u hy);exact⟨y.nm-3,by omega,by omega⟩
 haveI:Nq (v10+1) e:=⟨by rw[beq_eq];simp;omega⟩
 haveI:Nq v10 e:=⟨by rw[beq_eq];simp;omega⟩
 have su:=hq.ga y (z5u hy);refine c9 (pullG (a:=rV) he pq su) NZ ?_;rw[show y.nd.Arcs=y.ar from rfl]at Wr;apply(gn);refine dJ (fun tm X=>tm=fr 98 [(0,.iM aW p1),(1,.iM (cI .i64) p2),(3,.i6 p4),(8,.ptr 0 0 0),(9,.ptr 1 0 0),(11,.i6 dQ),(12,.i6 lR),(13,.i6 BP)]/\X=⟨(v10+4,.row [.i6 rV.Feat,.i6 DC] 98)::(v10+3,.row (aL rV) 98)::(2,.bv cQ (qs.set (0+lR.toNat) ⟨y.ty,e+3,y.st+1,y.ar++[aG.mk rV.Feat DC]⟩) 78 2 fE)::(1,.row [.vl 2 fE 0 qs.length] 40)::(0,.row [.nils] 40)::(e+3,.bv aL (y.ar++[aG.mk rV.Feat DC]) 98 2 (y.st+1))::rg t (e+3),v10+5⟩) ?_ ?_;rintro _ _ ⟨rfl,rfl⟩;apply(go);refine⟨_,_,⟨_,J,rfl,_,v10+2,_,hq.upd hy he pq rV ⟨rV.Feat,DC⟩,rfl⟩,NZ,Gh.sub (by((repeat refine⟨rfl,?_⟩);exact trivial))⟩;refine dE [(0,17),(0,18),(1,17),(1,18),(2,17),(2,18),(3,17),(4,17),(5,17),(6,17),(7,17),(8,17)] ?_;apply(gd);refine aQ rfl (dO rfl rfl (gR cQ g8.h (aX kP.h) (by decide) XI (vo rfl) hy)) ?_;refine aQ rfl (j5 wQ.h rfl (aX jZ.h) rfl (sE rfl) rfl) ?_;refine aQ (u:=.vl (e+3) y.st 0 y.ar.length) rfl (vZ cQ dW.h rfl XI rfl rfl (o7 hy) (by rw[<-he];rfl)) ?_;apply(gd);refine c8 PN ?_;apply(gd);refine dZ ?_;refine dZ ?_;refine aQ rfl (dO rfl rfl (gR cQ g8.h (aX kP.h) (by decide) XI (vo rfl) hy)) ?_;refine aQ rfl (j5 wQ.h rfl (aX jZ.h) rfl (sE rfl) rfl) (HX (u:=.junk) (X':=⟨(v10+4,.row [.i6 rV.Feat,.i6 DC] 98)::(v10+3,.row (aL rV) 98)::(2,.bv cQ (qs.set (0+lR.toNat) ⟨y.ty,e+3,y.st+1,y.ar++[aG.mk rV.Feat DC]⟩) 78 2 fE)::(1,.row [.vl 2 fE 0 qs.length] 40)::(0,.row [.nils] 40)::(e+3,.bv aL (y.ar++[aG.mk rV.Feat DC]) 98 2 (y.st+1))::rg t (e+3),v10+5⟩) rfl (qf (y:=(⟨y.ty,e+3,y.st+1,y.ar++[aG.mk rV.Feat DC]⟩:QN)) cQ (aX jZ.h) XI rfl rfl rfl rfl rfl rfl (o7 hy) rfl rfl) rfl ?_);refine bC ⟨by kernel_rfl,⟨j5 iA.h rfl (aX xD.h) rfl rfl rfl,⟨j5 iA.h rfl (aX xD.h) rfl rfl rfl,⟨nQ g8.h rfl rfl rfl rfl,⟨nQ g8.h rfl rfl rfl rfl,⟨i7 rfl,⟨i7 rfl,⟨j5 iA.h rfl (aX xD.h) rfl rfl rfl,⟨nQ g8.h rfl rfl rfl rfl,⟨i7 rfl,⟨dO rfl rfl (gR cQ g8.h (aX kP.h) (by decide) XI (vo rfl) hy),⟨j5 wQ.h rfl (aX jZ.h) rfl (sE rfl) rfl,⟨vZ cQ dW.h rfl XI rfl rfl (o7 hy) (by rw[<-he];rfl),trivial⟩⟩⟩⟩⟩⟩⟩⟩⟩⟩⟩⟩,?_⟩;apply(go);exact⟨_,_,⟨rfl,rfl⟩,NZ,Gh.sub (by((repeat refine⟨rfl,?_⟩);exact trivial))⟩;apply(go);exact⟨_,_,⟨nC,J,rfl,qs,v10+1,_,hq3,rfl⟩,NZ,Gh.sub (by((repeat refine⟨rfl,?_⟩);exact trivial))⟩;apply(go);exact⟨_,_,⟨nC,J,rfl,qs,v10,h,hq,rfl⟩,NZ,Gh.sub (by((repeat refine⟨rfl,?_⟩);exact trivial))⟩;apply(go);exact⟨_,_,⟨l24,J,rfl,qs,v10,h,hq,rfl⟩,NZ,Gh.sub (by((repeat refine⟨rfl,?_⟩);exact trivial))⟩;rintro(_|m1) _ _ ⟨dY,c7,fA,J,rfl,qs,v10,h,hq,rfl⟩;cases J;refine gF J ?_ ?_<;>intro KN J;obtain⟨t,G0,hq⟩:=hq.same (nx:=v10+3) (fr 98 [(0,.iM aW p1),(1,.iM (cI .i64) p2),(2,.iM (cI .i64) p3),(3,.i6 p4),(8,.ptr 0 0 0),(9,.ptr 1 0 0),(10,.i6 dY)]);refine c9 (Gh.sub (l':=[(0,.iM aW p1),(1,.iM (cI .i64) p2),(2,.iM (cI .i64) p3),(3,.i6 p4),(8,.ptr 0 0 0),(9,.ptr 1 0 0),(10,.i6 dY)]) (by((repeat refine⟨rfl,?_⟩);exact trivial))) NZ ?_;refine c9 G0 NZ ?_
 haveI:SuC (v10+3) (v10+4):=⟨rfl⟩
 haveI:Nq (v10+1) v10:=⟨by rw[beq_eq];simp⟩
 apply(go);apply aU;obtain⟨LZ,sM,J⟩:=aN J;obtain⟨Wq,J⟩:=d7 J;rw[show c7.length=qs.length by rw[hq.el,yA]]at Wq;apply(go);refine dE [(0,7),(1,7)] ?_;apply(gd);refine c8 sM ?_;apply(gd);refine RD.fz (u1:=.sl (v10+3) 0 1 1) (u:=.sl (v10+3) 0 1 1) (s1:=⟨(v10+3,.row [.i6 LZ,.nils] 78)::(2,.bv cQ qs 78 2 fA)::(1,.row [.vl 2 fA 0 qs.length] 40)::(0,.row [.nils] 40)::t,v10+4⟩) rfl Go.Vx.opz nilRow (by show v10+4<=v10+5;omega) rfl rfl ?_;refine dZ ?_;apply(gd);refine qU ?_;refine bC ⟨by kernel_rfl,⟨j5 iA.h rfl (aX xD.h) rfl rfl rfl,⟨nQ g8.h rfl rfl rfl rfl,trivial⟩⟩,?_⟩;apply(go);exact⟨_,_,_,zN _,⟨_,(c7++[(aJ.mk LZ [])]),(fA+1),J,rfl,_,v10+2,_,hq.app LZ,rfl⟩,NZ,Gh.sub (by((repeat refine⟨rfl,?_⟩);exact trivial))⟩;apply(go);exact⟨_,_,⟨c7,fA,J,rfl,qs,v10,h,hq,rfl⟩,NZ,Gh.sub (by((repeat refine⟨rfl,?_⟩);exact trivial))⟩
end Go.Proofs
namespace Go.Vx
open Go Go.Rx
variable{l:V (Nat×U)}
variable{X:Sg}
theorem Gh.rn{n0 n:Nat}{l':V (Nat×U)}{h':V (Nat×B)}(f:Nat->Nat)(AB:∀k,k<n0->f k=k)(key:∀k b,gt h' k=some b->k<X.nx/\gt X.h (f k)=some b)(inj:∀k k' b b',gt h' k=some b->gt h' k'=some b'->f k=f k'->k=k')(hl:fr n (rS f l')=fr n l)(ha:Q0 f h')(An:n0<=X.nx)[hb:BS X.nx l']:Gh n0 (fr n l) X (fr n l') ⟨h',X.nx⟩:=fun F x tv hx hr hf he=>by
 subst hx
 let y:Cx:=⟨fun k=>x.Y (f k),⟨h',x.X.nx⟩,x.s⟩
 have hU:RO x.X.nx f x y:=⟨fun k st off v hk h=>by
   simp[aD,Ref]at h ⊢;exact⟨h.1,hk,fun b hb=>h.2.2 b (key k b hb).2⟩,fun k off m c v hk h=>by
   simp[aD,Ref]at h ⊢;exact⟨h.1,hk,fun b hb=>h.2.2 b (key k b hb).2⟩,fun k st off m v hk h=>by
   simp[aD]at h ⊢;exact⟨h.1,hk,fun b hb=>h.2.2 b (key k b hb).2⟩,fun k v hk h=>by
   simp[aD,Ref]at h ⊢;exact⟨h.1,hk,fun b hb=>h.2.2 b (key k b hb).2⟩,fun _ _ _ h=>h⟩
 have KL:∀u,bA n0 u->rU f u=u:=fun u PJ=>by
  have:=P' (Z:=id) (κ:=f) (n:=n0) (fun k hk=>AB k hk) u PJ
  rwa [zt]at this
 refine⟨y,fun m w hf=>bG.refl hf,rfl,⟨fun k b hb=>?_,fun k k' b b' i hb cP h1 h2=>?_,hr.bd⟩,fun i b J=>?_,?_,fun u v PJ hv=>?_⟩;have⟨Vd,hg⟩:=key k b hb;have⟨g1,g2⟩:=hr.ok _ _ hg;refine⟨Vd,oB.unleaf hU g2.belB rfl (fun _ _ _ h=>h) ?_⟩;rw[eh ha k b hb];exact g2;exact inj k k' b b' hb cP (hr.inj _ _ b b' i (key k b hb).2 (key k' b' cP).2 h1 h2);have⟨h1,h2⟩:=hf i b J;exact⟨h1,fun k c hc=>h2 _ c (key k c hc).2⟩;apply bB.unleaf hU (Ni hb.h);rw[zc3,hl];exact he;exact aD.unleaf hU u v (bA.le An u PJ) (by rw[KL u PJ];exact hv)
theorem Gh.fin{n0 n m N1:Nat}{l0 l':V (Nat×U)}{h h':V (Nat×B)}(f:Nat->Nat)(hs:X=⟨h,m⟩)(AB:∀k,k<n0->f k=k)(key:∀k b,gt h' k=some b->k<N1/\gt h (f k)=some b)(inj:∀k k' b b',gt h' k=some b->gt h' k'=some b'->f k=f k'->k=k')(h0:D9 l l0)(hl:rS f l'=l0)(ha:Q0 f h')(ht:D9 l' l')(hc:Vx.cut N1 h'=h')(An:n0<=N1)(hN:N1<=m)[hb:BS m l'][vH:BS N1 l'][hh:BH N1 h']:Gh n0 (fr n l) X (fr n l') ⟨h',N1⟩:=by subst hs;exact Gh.trans (Gh.sub h0) (Gh.trans (Gh.rn (X:=⟨h,m⟩) f AB (fun k b hb=>⟨Nat.lt_of_lt_of_le (key k b hb).1 hN,(key k b hb).2⟩) inj (by rw[hl]) ha (Nat.le_trans An hN)) (Gh.toC (n1:=N1) ht hc An hN))
def Ej(p:Nat->Prop):V Nat->Prop
 |[]=>True|i::l=>p i/\Ej p l
theorem Ej.mem{p:Nat->Prop}:∀{l:V Nat},Ej p l->∀i∈l,p i
 |j::l,h,i,hi=>by rcases zI.1 hi with rfl |hi;exact h.1;exact Ej.mem h.2 i hi
def Ea(C:PG)(T:Tb)(aB:H2 Oper)(n0 n:Nat)(l:V (Nat×U))(X:Sg)(K:V (Nat×U)->Sg->Prop)(i:Nat): Prop :=
  ∃o,nth aB.toList i=some o/\cX aB.toList (fr n l) o=some true/\gi n o.dst=true/\ ((∃u s1,bO T X (fr n l) o.op=some (u,s1)/\∃l' X',Gh n0 (fr n (FM l o.dst u)) s1 (fr n l') X'/\n0<=X'.nx/\K l' X')\/ (∃f args R,kN T (fr n l) o.op=some (f,args)/\b7 C.prog f args X R/\∀u s1,R u s1->∃l' X',Gh n0 (fr n (FM l o.dst u)) s1 (fr n l') X'/\n0<=X'.nx/\K l' X'))
def BZ:V D1->Nat->D1
 |[],_=>false|b::_,0=>b
 |_::l,k+1=>BZ l k
theorem Nt:∀(d:V D1)(k:Nat),BZ d k=d.toArray.getD k false
 |[],k=>by simp[BZ,Array.getD]
 |b::d,0=>by simp[BZ,Array.getD]
 |b::d,k+1=>by rw[BZ,Nt d k];simp[Array.getD]
def okA(d:V D1):V Edge->D1
 |[]=>true|e::l=>cond (Region.binds .any e) (cond (BZ d e.on) (okA d l) false) (okA d l)
theorem Y'(d:V D1):∀(l:V Edge),okA d l=true↔∀e∈l,Region.binds .any e=true->d.toArray.getD e.on false=true
 |[]=>by simp[okA]
 |e::l=>by have ih:=Y' d l;rw[okA];rcases hb:Region.binds .any e with _|_;rw[zD,ih];exact⟨fun h x hx cP=>by rcases zI.1 hx with rfl |hx;(rw[hb]at cP;cases cP);exact h x hx cP,fun h x hx=>h x (List.mem_cons_of_mem _ hx)⟩;rw[zC];rcases hn:BZ d e.on with _|_;rw[zD];exact⟨fun h=>(by cases h),fun h=>by have:=h e (by simp) hb;rw[<-Nt,hn]at this;cases this⟩;rw[zC,ih];exact⟨fun h x hx cP=>by rcases zI.1 hx with rfl |hx;(rw[<-Nt];exact hn);exact h x hx cP,fun h x hx=>h x (List.mem_cons_of_mem _ hx)⟩
def IR(d:V D1):Nat->V Oper->V Nat
 |_,[]=>[]|i,o::os=>cond (BZ d i) (IR d (i+1) os) (cond (okA d o.after.toList) (i::IR d (i+1) os) (IR d (i+1) os))
theorem z72(d:V D1): ∀(os:V Oper)(i j:Nat),j∈IR d i os↔∃k o,j=i+k/\os[k]? = some o/\BZ d j=false/\okA d o.after.toList=true
  |[],i,j=> by simp[IR]
  |o::os,i,j=> by
    have ih:=z72 d os (i+1) j;have tl:(∃k o',j=i+1+k/\os[k]? = some o'/\BZ d j=false/\okA d o'.after.toList=true)->∃k o',j=i+k/\(o::os)[k]? = some o'/\BZ d j=false/\okA d o'.after.toList=true:=fun⟨k,o',h1,h2,h3⟩=> ⟨k+1,o',by omega,by simpa using h2,h3⟩;have ht:(∃k o',j=i+k/\(o::os)[k]? = some o'/\BZ d j=false/\okA d o'.after.toList=true)->(j=i/\BZ d i=false/\okA d o.after.toList=true)\/∃k o',j=i+1+k/\os[k]? = some o'/\BZ d j=false/\okA d o'.after.toList=true:=fun⟨k,o',h1,h2,h3,h4⟩=> by
      cases k with
      | zero => simp at h2; subst h2; have : j = i := by omega
                subst this;exact .inl ⟨rfl,h3,h4⟩
      |succ k=> exact .inr ⟨k,o',by omega,by simpa using h2,h3,h4⟩
    rw[IR];cases hn:BZ d i with
    |true=> rw[zC,ih];exact⟨tl,fun h=> (ht h).elim (fun q=> by rw[hn]at q;cases q.2.1) id⟩|false=>rw[zD];rcases hk:okA d o.after.toList with _|_;rw[zD,ih];exact⟨tl,fun h=> (ht h).elim (fun q=> by rw[hk]at q;cases q.2.2) id⟩;rw[zC,zI,ih];exact⟨fun h=> h.elim (fun q=> ⟨0,o,by omega,rfl,by rw[q];exact hn,hk⟩) tl,fun h=> (ht h).imp (·.1) id⟩
theorem J'(aB:H2 Oper)(d:V D1)(hd:d.length=aB.size)(i:Nat):i∈Region.ready .any aB d.toArray↔i∈IR d 0 aB.toList:=by
 rw[z72];unfold Region.ready;rw[List.mem_filter,List.mem_range];constructor;rintro⟨hi,h⟩;have ho:aB[i]? = some aB[i]:=by simp[hi]
 simp only[ho,zM,Option.getD_some,Bool.and_eq_true,Bool.not_eq_true',Array.all_eq_true_iff_forall_mem,Bool.or_eq_true]at h;refine⟨i,aB[i],by omega,by simpa using ho,?_,(Y' d _).2 fun e he hb=>?_⟩;rw[Nt];have h1:=h.1;have hl:i<d.length:=by omega
 simpa[Array.getD,hl]using h1;rcases h.2 e (by simpa using he)with h1 |h1;simp[hb]at h1;exact h1;rintro⟨k,o,rfl,h1,h2,h3⟩;rw[Nat.zero_add]at h2 ⊢;have ho:aB[k]? = some o:=by simpa using h1
 have hi:k<aB.size:=(Array.getElem?_eq_some_iff.1 ho).1;refine⟨hi,?_⟩;simp only[ho,zM,Option.getD_some,Bool.and_eq_true,Bool.not_eq_true',Array.all_eq_true_iff_forall_mem,Bool.or_eq_true];refine⟨?_,fun e he=>?_⟩;rw[Nt]at h2;have hl:k<d.length:=by omega
 simpa[Array.getD,hl]using h2;rcases hb:Region.binds .any e with _|_;exact .inl rfl;exact .inr ((Y' d _).1 h3 e (by simpa using he) hb)
def RI(C:PG)(T:Tb)(aB:H2 Oper)(n0 n:Nat)(Q:Exit->V U->Sg->Prop):Nat->V D1->V (Nat×U)->Sg->Prop
 |0,d,l,X=>IR d 0 aB.toList=[]/\∃l' X',Gh n0 (fr n l) X (fr n l') X'/\n0<=X'.nx/\Q .normal (fr n l') X'|k+1,d,l,X=>(IR d 0 aB.toList).isEmpty=false/\Ej (fun j=>Ea C T aB n0 n l X (RI C T aB n0 n Q k (d.set j true)) j) (IR d 0 aB.toList)
section
variable{C:PG}{T:Tb}(hT:kT C.prog T){n0 n:Nat}{aB:H2 Oper}{Q:Exit->V U->Sg->Prop}
include hT
theorem Me{ro:M Nat}{F:Nat->lP->Prop}{x0:Cx}{m0:Nm}{w0:PL}{E:Exit->Act->PL->Prop}{df:V Deferred}(hQ:∀y tm tv m w a,Q .normal tm y.X->St F y tm tv m w a->bG m0 x0.s w0 m y.s w->Ke n0 x0 y->n0<=y.X.nx->a.defers=df->E .normal a w):
  ∀(k:Nat)(d:V D1)(a:Act)(w:PL)(m:Nm)(l:V (Nat×U))(tv:V O)(x:Cx),d.length=aB.size->RI C T aB n0 n Q k d l x.X->St F x (fr n l) tv m w a->bG m0 x0.s w0 m x.s w->Ke n0 x0 x->n0<=x.X.nx->a.defers=df->wpAnyIn (nO ro) 0 C.prog .any aB E k d.toArray a w:=by
 intro k;induction k with
 |zero=>intro d a w m l tv x hd h st aS eC lL j7;have⟨h1,l',X',KD,uJ,hq⟩:=h;have⟨z,g1,g2,g3,g4,g5,g6⟩:=KD F x tv rfl st.h st.fr st.e;have ga:=g1 m w st.fits;refine⟨?_,hQ z _ tv m w a (by rw[g2];exact hq) ⟨g3,g4,g5,ga.fits,st.act.ext ga.agree ga.nx⟩ (aS.trans ga) (eC.trans g6) (by rw[g2];exact uJ) j7⟩;refine List.eq_nil_iff_forall_not_mem.2 fun i hi=>?_;rw[J' aB d hd,h1]at hi;cases hi
 |succ k ih=>
  intro d a w m l tv x CW h st aS eC lL j7;have⟨hr,he⟩:=h;refine⟨fun CP=>?_,fun j hj=>?_⟩;exfalso;rcases hq:IR d 0 aB.toList with _|⟨i,q⟩;rw[hq]at hr;cases hr;have:=(J' aB d CW i).2 (by rw[hq];simp);rw[CP]at this;cases this;rw[J' aB d CW]at hj;have⟨o,ho,hw,hd,hs⟩:=Ej.mem he j hj;have ho:aB[j]? = some o:=by rw[jD]at ho;simpa using ho
  rw[show d.toArray.setIfInBounds j true=(d.set j true).toArray by simp];have fin:∀y u d8 aK w₁ bE,(∃l' X',Gh n0 (fr n (FM l o.dst u)) y.X (fr n l') X'/\n0<=X'.nx/\RI C T aB n0 n Q k (d.set j true) l' X')->St F y (eS (fr n l) o.dst u) d8 aK w₁ bE->bG m x.s w aK y.s w₁->Ke x.X.nx x y->bE.defers=a.defers->wpAnyIn (nO ro) 0 C.prog .any aB E k (d.set j true).toArray bE w₁:=fun y u d8 aK w₁ bE ⟨l',X',KD,uJ,hK⟩ cD bP dA gK=>by rw[uF u hd]at cD;have⟨z,g1,g2,g3,g4,g5,g6⟩:=KD F y d8 rfl cD.h cD.fr cD.e;have ga:=g1 aK w₁ cD.fits;exact ih _ bE w₁ aK l' d8 z (by simpa using CW) (by rw[g2];exact hK) ⟨g3,g4,g5,ga.fits,cD.act.ext ga.agree ga.nx⟩ (aS.trans (bP.trans ga)) (eC.trans ((dA.le lL).trans g6)) (by rw[g2];exact uJ) (gK.trans j7)
  unfold wpOpIn;simp[ho];rw[ja (st.act m (aI.refl _ _)) aB o,B8 st.e hw];simp[if_true];rcases hs with⟨u,s1,h1,h2⟩|⟨f,args,R,h1,h2,h3⟩;exact DT (v05 h1) (st.op hT o h1 fun y d8 aK w₁ bE e1 cD bP dA oO gK=>fin y u d8 aK w₁ bE (by rw[e1];exact h2) cD bP dA gK);exact DT (Oc h1) (st.call hT o h1 h2 fun y u d8 aK w₁ bE hR cD bP dA oO gK=>fin y u d8 aK w₁ bE (h3 u _ hR) cD bP dA gK)
theorem WPU.any{id:Nat}{lF:V (Nat×U)}{XF:Sg}(h:Q .normal (fr n lF) XF->RI C T aB n0 n Q aB.size (List.replicate aB.size false) l X)(J:Q .normal (fr n lF) XF):WPU C n0 (.region id aB true) (fr n l) X Q:=fun hn F x tv m w a b0 hx st hG hd ro kH=>by
 apply wpIn_region_any hT.mixed;rw[show(Array.replicate aB.size false)=(List.replicate aB.size false).toArray by simp];refine Me hT (ro:=ro) (n0:=n0) (F:=F) (x0:=x) (m0:=m) (w0:=w) (df:=a.defers) (fun y tm' d8 m' w' a' hq h2 h3 h4 h5 h6=>⟨y,tm',d8,m',hq,h2,h3,h4,h5,by rw[h6];exact hd.adv st.fits h3⟩) aB.size _ a _ m l tv x (by simp) (hx ▸ h J) ⟨st.h,st.fr,st.e,(bG.draw _ st.fits).fits,st.act⟩ (bG.draw _ st.fits) (Ke.refl _ _) (hx ▸ hn) rfl
end
end Go.Vx
namespace Go.Proofs
open Go Go.Rx Go.Vx Tryz
set_option maxRecDepth 20000
def d?(n:Nat)(p1:Int)(p2:V aG)(p4:Int)(p5:Int):M ((V aG)):=
 aH ((0:Int)<=p1/\p1<=((p2.length:Nat):Int)) (cond (1==0) (some p2) (cond (p1==(p2.length:Int)) (aH ((p2.length+1)*16<=140737488355328/\p2.length+1<=140737488355328) (some (p2++[(aG.mk p4 p5)]))) (none)))
theorem qki(n:Nat)(p1:Int)(p2:V aG)(p4:Int)(p5:Int)(r:(V aG))(J:d? n p1 p2 p4 p5=some r):∀t3:Nat,b7 prog 77 [.vl 0 t3 0 p2.length,.int .i64 p1,.sl 1 0 1 1] ⟨[(0,.bv aL p2 98 2 t3),(1,.row [.int .i64 p4,.int .i64 p5] 98)],2⟩ (fun u X'=>∃t:Nat->Nat,u=.vl 0 (t 0) 0 r.length/\X'=⟨[(0,.bv aL r 98 2 (t 0)),(1,.row [.int .i64 p4,.int .i64 p5] 98)],2⟩):=by intro t3;refine D2 95 Xp ?_;obtain⟨h6,J⟩:=d7 J;apply(go);refine aO (u:=.vl 0 t3 (0+p1.toNat) (p2.length-p1.toNat)) rfl (yX rfl (yN rfl) mI mI (NQ aL dW.h (aX iO.h) mT (vo rfl) (Nat.le_of_eq (Nat.zero_add _)) (wa h6.1 h6.2))) ?_;apply(go);refine aO (u:=.i6 1) rfl (F5 rfl rfl rfl (by simp only[lenU,cM,gt,Nat.beq,zC,zD,B.st,dW.h]<;>rfl)) ?_;refine gF J ?_ ?_<;>intro h7 J;apply(go);obtain rfl:=sI J;exact⟨.inr rfl,[.vl 0 t3 0 p2.length],dS rfl (d9),.vl 0 t3 0 p2.length,⟨[(0,.bv aL p2 98 2 t3),(1,.row [.i6 p4,.i6 p5] 98)],2⟩,NL,Gh.to (n1:=2) [] rfl rfl NL NL eQ.h BH.h,stF [t3],rfl,rfl⟩;refine gF J ?_ ?_<;>intro h8 J;obtain⟨h9,J⟩:=d7 J;apply(go);refine bN ?_;apply(go);obtain rfl:=sI J;exact⟨.inr rfl,[.vl 0 (t3+1) 0 ((p2++[(aG.mk p4 p5)]).length)],dS rfl (d9),.vl 0 (t3+1) 0 ((p2++[(aG.mk p4 p5)]).length),⟨[(0,.bv aL (p2++[(aG.mk p4 p5)]) 98 2 (t3+1)),(1,.row [.i6 p4,.i6 p5] 98)],2⟩,NL,Gh.to (n1:=2) [] rfl rfl NL NL eQ.h BH.h,stF [(t3+1)],rfl,rfl⟩;apply(gn);cases J
end Go.Proofs
