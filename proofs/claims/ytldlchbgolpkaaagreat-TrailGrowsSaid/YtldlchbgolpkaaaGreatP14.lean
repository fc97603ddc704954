import Derived.Test.YtldlchbgolpkaaaGreatP13
set_option linter.all false
namespace Go.Proofs
open Go Go.Rx Go.Vx Tryz
instance:TbP prog tb:=⟨tb_ok⟩
set_option maxRecDepth 20000
set_option maxHeartbeats 4000000
set_option synthInstance.maxSize 4000
set_option synthInstance.maxHeartbeats 200000
instance:xW tb 214 [.nils,.nils,.nils] [(0,1),(1,1),(2,1)]:=⟨A7 RT.h Vq.h rfl (by kernel_rfl)⟩
abbrev OT(a)(b:Nat)(c)(d:Nat)(e)(f:Nat)(g)(h):=([(6,.bv aY a 78 2 b),(5,.row [.vl 6 b 0 a.length] 40),(4,.bv (cI .i64) c 3 1 d),(3,.bv (cI .i64) e 3 1 f),(2,.row [.iM aY g,.vl 3 f 0 e.length,.vl 4 d 0 c.length] 214),(1,.row [.nils] 40),(0,.row [.iM aY h] 40)]:I (Nat×B))
abbrev OS(a)(b:Nat)(c:Nat)(d)(e):=([(0,.row [.iM aY a,.vl 1 b 0 d.length,.vl 2 c 0 e.length] 214),(1,.bv (cI .i64) d 3 1 b),(2,.bv (cI .i64) e 3 1 c)]:I (Nat×B))
abbrev Hb(a):=([(1,.row [.nils] 40),(0,.row [.iM aY a] 40)]:I (Nat×B))
def Ji(p1:I aK)(z6:Int)(l7:I aK)(cE:Int->(I aK)->V ((I aK)))(dX:Int):V ((I aK)):=
 aF ((0:Int)<=dX/\dX<=((l7.length:Nat):Int)) (
 aF (0+dX.toNat<=l7.length) (
 aF (((l7.drop 0).take dX.toNat).length*16<=140737488355328/\((l7.drop 0).take dX.toNat).length<=140737488355328) (
 a8 (aB p1 z6) fun kK=>
 aF ((((l7.drop 0).take dX.toNat).length+1)*16<=140737488355328/\((l7.drop 0).take dX.toNat).length+1<=140737488355328) (
 aF ((0:Int)<=dX/\dX<=((l7.length:Nat):Int)) (
 aF ((0+dX.toNat)+(l7.length-dX.toNat)<=l7.length) (
 aF (((((l7.drop 0).take dX.toNat)++[kK]).length+((l7.drop (0+dX.toNat)).take (l7.length-dX.toNat)).length)*16<=140737488355328/\(((l7.drop 0).take dX.toNat)++[kK]).length+((l7.drop (0+dX.toNat)).take (l7.length-dX.toNat)).length<=140737488355328) (
 cE (IntKind.i64.wrap (z6+1)) ((((l7.drop 0).take dX.toNat)++[kK])++((l7.drop (0+dX.toNat)).take (l7.length-dX.toNat))))))))))
def Jh(p1:I aK)(z6:Int)(l7:I aK)(cE:Int->(I aK)->V ((I aK))):Nat->Int->V ((I aK))
 |0,_=>none|m2+1,M1=>a8 (cond (decide (M1>0)) (a8 (aB l7 (IntKind.i64.wrap (M1-1))) fun jF=>a8 (aB p1 z6) fun lM=>some (decide (jF.Feat>lM.Feat))) (some false)) fun b33=>cond b33 ((Jh p1 z6 l7 cE m2) (IntKind.i64.wrap (M1-1))) (Ji p1 z6 l7 cE M1)
def si  (l9:I aK):V ((I aK)):=
 some l9
def PO(p1:I aK)(n:Nat):Nat->Int->(I aK)->V ((I aK))
 |0,_,_=>none|m1+1,z6,l7=>cond (decide (z6<(p1.length:Int))) (Jh p1 z6 l7 (PO p1 n m1) n (l7.length:Int)) (si l7)
def Rv(n:Nat)(p1:I aK):V ((I aK)):=
 PO p1 n n 0 ([]:I aK)
theorem qkb(n:Nat)(p1:I aK)(r:(I aK))(J:Rv n p1=some r):bE prog 137 [.isl false (p1.map aU)] ⟨[],0⟩ (fun u O'=>∃t,u=.vl 0 t 0 r.length/\O'=⟨[(0,.bv aU r 98 2 t)],0+1⟩):=by unfold Rv at J;refine kJ 52 L4 ?_;refine gr ?_;refine gr ?_;refine gr ?_;refine gV 3 98 2 1 ?_;refine gL (fun m tm O=>∃z6 l7 t8,PO p1 n m z6 l7=some r/\tm=fr 52 [(0,.iM aU p1),(3,.vl 0 t8 0 l7.length),(4,.i6 z6)]/\O=⟨[(0,.bv aU l7 98 2 t8)],1⟩) (fun tm O=>∃l9 cK,si l9=some r/\tm=fr 52 [(3,.vl 0 cK 0 l9.length)]/\O=⟨[(0,.bv aU l9 98 2 cK)],1⟩) n ⟨0,([]:I aK),0,J,rfl,rfl⟩ ?_ ?_;rintro _ _ ⟨l9,cK,J,rfl,rfl⟩;unfold si at J;refine go ?_;obtain rfl:=sI J;exact⟨.inr rfl,[.vl 0 cK 0 l9.length],dW rfl dN,.vl 0 cK 0 l9.length,⟨[(0,.bv aU l9 98 2 cK)],1⟩,NZ,Gh.trans (WB (fun k=>Nat.beq k 0)) (Gh.to (n1:=1) [] rfl rfl NZ NL fB.h BH.h),cK,rfl,rfl⟩;rintro(_|m1) _ _ ⟨z6,l7,t8,J,rfl,rfl⟩;cases J;unfold PO at J;refine gF J ?_ ?_<;>intro iY J;refine go ?_;apply aV;refine go ?_;refine gL (fun m tm O=>∃M1,Jh p1 z6 l7 (PO p1 n m1) m M1=some r/\tm=fr 52 [(0,.iM aU p1),(3,.vl 0 t8 0 l7.length),(4,.i6 z6),(5,.i6 M1)]/\O=⟨[(0,.bv aU l7 98 2 t8)],1⟩) (fun tm O=>∃dX,Ji p1 z6 l7 (PO p1 n m1) dX=some r/\tm=fr 52 [(0,.iM aU p1),(3,.vl 0 t8 0 l7.length),(4,.i6 z6),(5,.i6 dX)]/\O=⟨[(0,.bv aU l7 98 2 t8)],1⟩) n ⟨(l7.length:Int),J,rfl,rfl⟩ ?_ ?_;rintro _ _ ⟨dX,J,rfl,rfl⟩;unfold Ji at J;obtain⟨iS,J⟩:=d7 J;obtain⟨tW,J⟩:=d7 J;obtain⟨lS,J⟩:=d7 J;refine go ?_;refine aO (u:=.vl 0 t8 0 dX.toNat) rfl (AR rfl mT (AH rfl) mT (OB aU eT.h (aW kO.h) sF (vo rfl) (Nat.le_of_eq (Nat.zero_add _)) (YE iS.1 iS.2))) (aO (u:=.vl 1 0 0 (((l7.drop 0).take dX.toNat).length)) (O':=⟨[(1,.bv aU ((l7.drop 0).take dX.toNat) 98 2 0),(0,.bv aU l7 98 2 t8)],2⟩) rfl (uZ rfl rfl rfl rfl (ip aU ((l7.drop 0).take dX.toNat) eT.h eT.h kO.h rfl (wb aU sF (vo rfl) tW) lS)) ?_);obtain⟨kK,mR,J⟩:=aC J;obtain⟨qC,J⟩:=d7 J;refine go ?_;refine aZ mR ?_;refine go ?_;refine aO (u:=.sl 2 0 1 1) (O':=⟨[(2,.row (aU kK) 98),(1,.bv aU ((l7.drop 0).take dX.toNat) 98 2 0),(0,.bv aU l7 98 2 t8)],3⟩) rfl (uG eT.h kO.h rfl rfl rfl rfl rfl rfl rfl) ?_;refine bT ?_;obtain⟨pL,J⟩:=d7 J;obtain⟨nB,J⟩:=d7 J;obtain⟨uR,J⟩:=d7 J;refine go ?_;refine aO (u:=.vl 0 t8 (0+dX.toNat) (l7.length-dX.toNat)) rfl (AR rfl (AH rfl) mT mT (OB aU eT.h (aW kO.h) sF (vo rfl) (Nat.le_of_eq (Nat.zero_add _)) (xl pL.1 pL.2))) (aO (u:=.vl 1 2 0 (((((l7.drop 0).take dX.toNat)++[kK])++((l7.drop (0+dX.toNat)).take (l7.length-dX.toNat))).length)) (O':=⟨[(2,.row (aU kK) 98),(1,.bv aU ((((l7.drop 0).take dX.toNat)++[kK])++((l7.drop (0+dX.toNat)).take (l7.length-dX.toNat))) 98 2 2),(0,.bv aU l7 98 2 t8)],3⟩) rfl (uZ rfl rfl rfl rfl (SL aU ((l7.drop (0+dX.toNat)).take (l7.length-dX.toNat)) eT.h eT.h kO.h rfl sF rfl (wb aU sF (vo rfl) nB) uR)) ?_);refine go ?_;exact⟨m1,_,_,zN _,⟨(IntKind.i64.wrap (z6+1)),((((l7.drop 0).take dX.toNat)++[kK])++((l7.drop (0+dX.toNat)).take (l7.length-dX.toNat))),2,J,rfl,rfl⟩,NZ,Gh.trans (Gh.sub (l':=[(0,.iM aU p1),(3,.vl 1 2 0 (((((l7.drop 0).take dX.toNat)++[kK])++((l7.drop (0+dX.toNat)).take (l7.length-dX.toNat))).length)),(4,.i6 (IntKind.i64.wrap (z6+1)))]) ⟨rfl,rfl,rfl,trivial⟩) (Gh.trans (Gh.mv (l':=[(0,.iM aU p1),(3,.vl 0 2 0 (((((l7.drop 0).take dX.toNat)++[kK])++((l7.drop (0+dX.toNat)).take (l7.length-dX.toNat))).length)),(4,.i6 (IntKind.i64.wrap (z6+1)))]) (h':=[(2,.row (aU kK) 98),(0,.bv aU ((((l7.drop 0).take dX.toNat)++[kK])++((l7.drop (0+dX.toNat)).take (l7.length-dX.toNat))) 98 2 2)]) 0 1 NZ rfl rfl (by simp only[rS,rU,jG,SM,AV,Nat.beq,zC,zD]) rfl (by simp only[qw,rB,Ga,jG,rU,SM,ww,AV,Nat.beq,zC,zD,and_self])) (Gh.toC (n1:=1) ⟨rfl,rfl,rfl,trivial⟩ rfl NZ (by simp)))⟩;rintro(_|m2) _ _ ⟨M1,J,rfl,rfl⟩;cases J;unfold Jh at J;obtain⟨b33,nT,J⟩:=aC J;refine gn ?_;refine dO (fun tm O=>tm=fr 52 [(0,.iM aU p1),(3,.vl 0 t8 0 l7.length),(4,.i6 z6),(5,.i6 M1),(30,.bool b33)]/\O=⟨[(0,.bv aU l7 98 2 t8)],1⟩) ?_ ?_;rintro _ _ ⟨rfl,rfl⟩;refine gF J ?_ ?_<;>intro o8 J;refine go ?_;apply aV;refine go ?_;exact lC ⟨_,J,rfl,rfl⟩;refine go ?_;exact xC ⟨M1,J,rfl,rfl⟩;refine dE [] ?_;refine gd ?_;rcases gB nT with⟨rN,nT⟩|⟨rN,nT⟩;obtain⟨jF,sL,nT⟩:=aC nT;obtain⟨lM,nU,nT⟩:=aC nT;obtain rfl:=sI nT;refine gd ?_;refine RD.w rfl (dC rfl rfl (i9 aU eT.h (aW kO.h) (by decide) sF (vo rfl) sL)) ?_;refine RD.w rfl (kC xY.h rfl (aW fQ.h) rfl (uH rfl) rfl) (RD.w (u:=.i6 jF.Feat) rfl (wH aU jN.h rfl sF rfl rfl (pE sL) rfl) ?_);refine gd ?_;refine bP nU ?_;refine gd ?_;refine bD ⟨by kernel_rfl,trivial,?_⟩;refine go ?_;exact xC ⟨rfl,rfl⟩;obtain rfl:=sI nT;refine gd ?_;refine bD ⟨by kernel_rfl,trivial,?_⟩;refine go ?_;exact xC ⟨rfl,rfl⟩;refine go ?_;exact xC ⟨l7,t8,J,rfl,rfl⟩
def Kb(dV:Int)(cE:Int->(I Int)->(I Int)->V ((I Int)×(I Int)))(mI:I Int)(tF:I Int):V ((I Int)×(I Int)):=
 cE (IntKind.i64.wrap (dV+1)) mI tF
def gw  (l27:I Int) (cA:I Int):V ((I Int)×(I Int)):=
 some (l27,cA)
def TO(p2:I aM)(eV:I aK)(self:Int->(I aM)->(I Int)->(I Int)->V ((I Int)×(I Int))):Nat->Int->(I Int)->(I Int)->V ((I Int)×(I Int))
 |0,_,_,_=>none|m1+1,dV,l24,pH=>
  cond (decide (dV<(eV.length:Int))) (a8 (aB eV dV) fun lM=>
   a8 (aB l24 lM.To) fun qV=>cond (decide (qV<0)) (a8 (aB eV dV) fun x39=>
    a8 (self x39.To p2 l24 pH) fun oX=>
    Kb dV (TO p2 eV self m1) oX.1 oX.2) (Kb dV (TO p2 eV self m1) l24 pH)) (gw l24 pH)
def gk(n:Nat)(self:Int->(I aM)->(I Int)->(I Int)->V ((I Int)×(I Int)))(p1:Int)(p2:I aM)(p3:I Int)(p5:I Int):V ((I Int)×(I Int)):=
 a8 (aB p3 p1) fun x7=>
 aF ((p5.length+1)*8<=140737488355328/\p5.length+1<=140737488355328) (
 a8 (aB p2 p1) fun x10=>
 a8 (Rv n x10.Arcs) fun eV=>
 TO p2 eV self n 0 (p3.set (0+p1.toNat) (p5.length:Int)) (p5++[p1]))
def PS:Nat->Int->(I aM)->(I Int)->(I Int)->V ((I Int)×(I Int))
 |0,_,_,_,_=>none|n+1,p1,p2,p3,p5=>gk n (PS n) p1 p2 p3 p5
theorem qdb:∀(n:Nat)(p1:Int)(p2:I aM)(p3:I Int)(p5:I Int)(r:(I Int)×(I Int)),PS n p1 p2 p3 p5=some r->∀t4 t6:Nat,bE prog 136 [.ptr 0 0 0,.int .i64 p1] ⟨OS p2 t4 t6 p3 p5,3⟩ (fun u O'=>∃t:Nat->Nat,u=.tup []/\O'=⟨OS p2 t4 (t 0) r.1 r.2,3⟩)
 |0,p1,p2,p3,p5,r,J=>by cases J
 |n+1,p1,p2,p3,p5,r,J=>by have ih:=qdb n;unfold PS gk at J;intro t4 t6;refine gP 62 L5 ?_;obtain⟨x7,h8,J⟩:=aC J;refine gn ?_;refine dO (fun tm O=>tm=fr 62 [(0,.ptr 0 0 0),(1,.i6 p1)]/\O=⟨OS p2 t4 t6 (p3.set (0+p1.toNat) (p5.length:Int)) p5,3⟩) ?_ ?_;rintro _ _ ⟨rfl,rfl⟩;obtain⟨h9,J⟩:=d7 J;refine go ?_;refine aO (u:=.ptr 0 0 0) rfl (fP rfl rfl) ?_;refine go ?_;refine bT ?_;refine bT ?_;refine aO (u:=.ptr 0 0 0) rfl (fP rfl rfl) ?_;obtain⟨x10,iY,J⟩:=aC J;obtain⟨eV,dG,J⟩:=aC J;refine go ?_;refine aO (u:=.ptr 0 0 0) rfl (fP rfl rfl) ?_;refine go ?_;refine aZ iY ?_;refine go ?_;refine lL (R:=fun u O'=>u=.vl 4 0 0 eV.length/\O'=⟨(4,.bv aU eV 98 2 0)::(3,.row [.i6 p1] 3)::OS p2 t4 (t6+1) (p3.set (0+p1.toNat) (p5.length:Int)) (p5++[p1]),5⟩) (args:=[.iM aU x10.Arcs]) rfl (gM rfl rfl L4 rfl rfl rfl) (zn aU (qkb n x10.Arcs eV dG) _ 4 rfl) rfl rfl ?_;rintro _ _ ⟨rfl,rfl⟩;refine go ?_;refine gL (fun m tm O=>∃dV l24,∃pH Nt,TO p2 eV (PS n) m dV l24 pH=some r/\tm=fr 62 [(0,.ptr 0 0 0),(4,.vl 4 0 0 eV.length),(5,.i6 dV)]/\O=⟨(4,.bv aU eV 98 2 0)::(3,.row [.i6 p1] 3)::OS p2 t4 Nt l24 pH,5⟩) (fun tm O=>∃l27 cA jW,gw l27 cA=some r/\tm=fr 62 []/\O=⟨(4,.bv aU eV 98 2 0)::(3,.row [.i6 p1] 3)::OS p2 t4 jW l27 cA,5⟩) n ⟨0,(p3.set (0+p1.toNat) (p5.length:Int)),(p5++[p1]),(t6+1),J,rfl,rfl⟩ ?_ ?_;rintro _ _ ⟨l27,cA,jW,J,rfl,rfl⟩;unfold gw at J;refine go ?_;obtain rfl:=sI J;exact⟨.inl rfl,[],dN,.tup [],⟨OS p2 t4 jW l27 cA,3⟩,NL,Gh.to (n1:=3) [] rfl rfl NL NL fB.h BH.h,stF [jW],rfl,rfl⟩;rintro(_|m1) _ _ ⟨dV,l24,pH,Nt,J,rfl,rfl⟩;cases J;unfold TO at J;refine gF J ?_ ?_<;>intro sL J;refine go ?_;apply aV;obtain⟨lM,nU,J⟩:=aC J;obtain⟨qV,nT,J⟩:=aC J;refine go ?_;refine dE [] ?_;refine gd ?_;refine aQ (u:=.ptr 0 0 0) rfl (fP rfl rfl) ?_;refine gd ?_;refine aQ rfl (dC rfl rfl (i9 aU eT.h (aW kO.h) (by decide) sF (vo rfl) nU)) ?_;refine aQ rfl (kC xY.h rfl (aW fQ.h) rfl (uH rfl) rfl) (aQ (u:=.i6 lM.To) rfl (wH aU jN.h rfl sF rfl rfl (pE nU) rfl) ?_);refine aQ rfl (dC rfl rfl (i9 (cI .i64) dY.h (aW fQ.h) (by decide) (kN .i64) (vo rfl) nT)) ?_;refine aQ rfl (AQ (cI .i64) (fun x=>.i6 x) jN.h rfl (fun _=>rfl) rfl rfl nT) ?_;refine gd ?_;refine bD ⟨by kernel_rfl,trivial,?_⟩;refine gn ?_;refine dO (fun tm O=>∃mI tF M6,Kb dV (TO p2 eV (PS n) m1) mI tF=some r/\tm=fr 62 [(0,.ptr 0 0 0),(4,.vl 4 0 0 eV.length),(5,.i6 dV)]/\O=⟨(4,.bv aU eV 98 2 0)::(3,.row [.i6 p1] 3)::OS p2 t4 M6 mI tF,5⟩) ?_ ?_;rintro _ _ ⟨mI,tF,M6,J,rfl,rfl⟩;unfold Kb at J;refine go ?_;exact lC ⟨_,mI,tF,M6,J,rfl,rfl⟩;refine cF J ?_ ?_<;>intro o8 J;obtain⟨x39,qB,J⟩:=aC J;obtain⟨oX,qA,J⟩:=aC J;refine go ?_;refine aO rfl (dC rfl rfl (i9 aU eT.h (aW kO.h) (by decide) sF (vo rfl) qB)) ?_;refine aO rfl (kC xY.h rfl (aW fQ.h) rfl (uH rfl) rfl) (aO (u:=.i6 x39.To) rfl (wH aU jN.h rfl sF rfl rfl (pE qB) rfl) (lL (args:=[.ptr 0 0 0,.i6 x39.To]) rfl (gM rfl rfl L5 rfl rfl rfl) (bE.st [0,1,2] (ih x39.To p2 l24 pH oX qA t4 Nt)) rfl rfl ?_));rintro _ _ ⟨CX,rfl,rfl⟩;refine go ?_;exact xC ⟨oX.1,oX.2,(CX 0),J,rfl,rfl⟩;refine go ?_;exact xC ⟨l24,pH,Nt,J,rfl,rfl⟩;refine go ?_;exact xC ⟨l24,pH,Nt,J,rfl,rfl⟩;refine dE [] ?_;refine gd ?_;refine aQ (u:=.ptr 0 0 0) rfl (fP rfl rfl) ?_;refine gd ?_;refine aQ (u:=.ptr 0 0 0) rfl (fP rfl rfl) ?_;refine gd ?_;refine aQ rfl (dC rfl rfl (i9 (cI .i64) dY.h (aW fQ.h) (by decide) (kN .i64) (vo rfl) h8)) ?_;refine RD.actn (u:=.junk) (O':=⟨[(0,.row [.iM aY p2,.vl 1 t4 0 p3.length,.vl 2 t6 0 p5.length] 214),(1,.bv (cI .i64) (p3.set (0+p1.toNat) (p5.length:Int)) 3 1 t4),(2,.bv (cI .i64) p5 3 1 t6)],3⟩) rfl (Fj (cI .i64) (aW fQ.h) (kN .i64) rfl rfl rfl rfl rfl rfl rfl (pE h8) rfl) rfl ?_;refine bD ⟨by kernel_rfl,trivial,?_⟩;refine go ?_;exact⟨_,_,⟨rfl,rfl⟩,NL,oT ⟨rfl,rfl,trivial⟩ (by simp only[OS,List.length_set])⟩
def Se(z26:Int)(l27:I aM)(rc2:Int->(I aM)->V (GFS))(oV:aM)(oJ:I aK):V (GFS):=
 aF ((l27.length+1)*32<=140737488355328/\l27.length+1<=140737488355328) (
 rc2 (IntKind.i64.wrap (z26+1)) (l27++[(aM.mk oV.Typex oJ)]))
def ZA(eK:(I Int)×(I Int))(z26:Int)(l27:I aM)(rc2:Int->(I aM)->V (GFS))(oV:aM):Nat->Int->(I aK)->V (GFS)
 |0,_,_=>none|m3+1,CQ,sG=>
  cond (decide (CQ<(sG.length:Int))) (a8 (aB sG CQ) fun CV=>
   a8 (aB eK.1 CV.To) fun CU=>
   a8 (aB sG CQ) fun GI=>(ZA eK z26 l27 rc2 oV m3) (IntKind.i64.wrap (CQ+1)) (sG.set (0+CQ.toNat) (aK.mk GI.Feat CU))) (Se z26 l27 rc2 oV sG)
def lf  (eJ:I aM):V (GFS):=
 some (GFS.mk eJ)
def P8(p1:GFS)(n:Nat)(eK:(I Int)×(I Int)):Nat->Int->(I aM)->V (GFS)
 |0,_,_=>none|m2+1,z26,l27=>
  cond (decide (z26<(eK.2.length:Int))) (a8 (aB eK.2 z26) fun uV=>
   a8 (aB p1.Nodes uV) fun oV=>
   a8 (Rv n oV.Arcs) fun Fw=>
   ZA eK z26 l27 (P8 p1 n eK m2) oV n 0 Fw) (lf l27)
def Sf(p1:GFS)(p2:Int)(n:Nat)(hJ:I Int):V (GFS):=
 a8 (PS n p2 p1.Nodes hJ ([]:I Int)) fun eK=>
 P8 p1 n eK n 0 ([]:I aM)
def Iq(p1:GFS)(p2:Int)(n:Nat):Nat->Int->(I Int)->V (GFS)
 |0,_,_=>none|m1+1,z9,l10=>cond (decide (z9<(p1.Nodes.length:Int))) (aF ((l10.length+1)*8<=140737488355328/\l10.length+1<=140737488355328) ((Iq p1 p2 n m1) (IntKind.i64.wrap (z9+1)) (l10++[(-1)]))) (Sf p1 p2 n l10)
def Ht(n:Nat)(p1:GFS)(p2:Int):V (GFS):=
 Iq p1 p2 n n 0 ([]:I Int)
theorem qo2(n:Nat)(p1:GFS)(p2:Int)(r:GFS)(J:Ht n p1 p2=some r):cY prog 106 [.agg [.isl false (p1.Nodes.map aY)],.int .i64 p2] (.agg [.isl false (r.Nodes.map aY)]):=by unfold Ht at J;refine gP 88 LB ?_;refine gr ?_;refine gr ?_;refine gr ?_;refine cJ (tm':=fr 88 [(1,.i6 p2),(2,.ptr 0 0 0),(4,.ptr 1 0 0),(5,.ptr 2 0 0),(6,.i6 0)]) (O':=⟨(3,.bv (cI .i64) ([]:I Int) 3 1 0)::(2,.row [.iM aY p1.Nodes,.vl 3 0 0 (([]:I Int).length),.nils] 214)::Hb p1.Nodes,4⟩) (Gh.trans (x3 2 1 3 1 (by decide) NZ rfl rfl) (oT ⟨rfl,rfl,rfl,rfl,rfl,trivial⟩ rfl)) NZ ?_;refine gL (fun m tm O=>∃z9 l10 lW,Iq p1 p2 n m z9 l10=some r/\tm=fr 88 [(1,.i6 p2),(2,.ptr 0 0 0),(4,.ptr 1 0 0),(5,.ptr 2 0 0),(6,.i6 z9)]/\O=⟨(3,.bv (cI .i64) l10 3 1 lW)::(2,.row [.iM aY p1.Nodes,.vl 3 lW 0 l10.length,.nils] 214)::Hb p1.Nodes,4⟩) (fun tm O=>∃hJ mC,Sf p1 p2 n hJ=some r/\tm=fr 88 [(1,.i6 p2),(2,.ptr 0 0 0),(4,.ptr 1 0 0),(5,.ptr 2 0 0)]/\O=⟨(3,.bv (cI .i64) hJ 3 1 mC)::(2,.row [.iM aY p1.Nodes,.vl 3 mC 0 hJ.length,.nils] 214)::Hb p1.Nodes,4⟩) n ⟨0,([]:I Int),0,J,rfl,rfl⟩ ?_ ?_;rintro _ _ ⟨hJ,mC,J,rfl,rfl⟩;unfold Sf at J;refine gn ?_;refine cJ (tm':=fr 88 [(1,.i6 p2),(2,.ptr 0 0 0),(4,.ptr 1 0 0),(5,.ptr 2 0 0)]) (O':=⟨(4,.bv (cI .i64) ([]:I Int) 3 1 0)::(3,.bv (cI .i64) hJ 3 1 mC)::(2,.row [.iM aY p1.Nodes,.vl 3 mC 0 hJ.length,.vl 4 0 0 (([]:I Int).length)] 214)::Hb p1.Nodes,5⟩) (Gh.trans (x3 2 2 3 1 (by decide) NZ rfl rfl) (oT ⟨rfl,rfl,rfl,rfl,trivial⟩ rfl)) NZ ?_;obtain⟨eK,eW,J⟩:=aC J;refine go ?_;refine lL (args:=[.ptr 2 0 0,.i6 p2]) rfl (gM rfl rfl L5 rfl rfl rfl) (bE.st [2,3,4] (qdb n p2 p1.Nodes hJ ([]:I Int) eK eW mC 0)) rfl rfl ?_;rintro _ _ ⟨fE,rfl,rfl⟩;refine gr ?_;refine gr ?_;refine cJ (tm':=fr 88 [(2,.ptr 0 0 0),(4,.ptr 1 0 0),(5,.ptr 2 0 0),(7,.ptr 5 0 0),(8,.i6 0)]) (O':=⟨(6,.bv aY ([]:I aM) 78 2 0)::(5,.row [.vl 6 0 0 (([]:I aM).length)] 40)::(4,.bv (cI .i64) eK.2 3 1 (fE 0))::(3,.bv (cI .i64) eK.1 3 1 mC)::(2,.row [.iM aY p1.Nodes,.vl 3 mC 0 eK.1.length,.vl 4 (fE 0) 0 eK.2.length] 214)::Hb p1.Nodes,7⟩) (Gh.trans (x3 5 0 78 2 (by decide) NZ rfl rfl) (oT ⟨rfl,rfl,rfl,rfl,rfl,trivial⟩ rfl)) NZ ?_;refine gL (fun m tm O=>∃z26 l27 qZ,P8 p1 n eK m z26 l27=some r/\tm=fr 88 [(2,.ptr 0 0 0),(4,.ptr 1 0 0),(5,.ptr 2 0 0),(7,.ptr 5 0 0),(8,.i6 z26)]/\O=⟨OT l27 qZ eK.2 (fE 0) eK.1 mC p1.Nodes p1.Nodes,7⟩) (fun tm O=>∃eJ oB,lf eJ=some r/\tm=fr 88 [(4,.ptr 1 0 0),(7,.ptr 5 0 0)]/\O=⟨OT eJ oB eK.2 (fE 0) eK.1 mC p1.Nodes p1.Nodes,7⟩) n ⟨0,([]:I aM),0,J,rfl,rfl⟩ ?_ ?_;rintro _ _ ⟨eJ,oB,J,rfl,rfl⟩;unfold lf at J;refine go ?_;obtain rfl:=sI J;exact rT (us:=[.agg [.vl 6 oB 0 eJ.length]]) (u:=.agg [.iM aY eJ]) (mH (j4 k9.h rfl (aW oK.h) rfl rfl rfl) (dN)) (fR 6 2);rintro(_|m2) _ _ ⟨z26,l27,qZ,J,rfl,rfl⟩;cases J;unfold P8 at J;refine go ?_;refine aO (u:=.ptr 2 0 0) rfl (fP rfl rfl) ?_;refine gF J ?_ ?_<;>intro vC J;refine go ?_;apply aV;obtain⟨uV,tV,J⟩:=aC J;obtain⟨oV,o8,J⟩:=aC J;refine go ?_;refine dE [(0,11),(1,11),(2,11),(3,11),(4,11),(5,11),(6,11),(7,11),(8,11),(9,11),(10,11)] ?_;refine gd ?_;refine aQ (u:=.ptr 2 0 0) rfl (fP rfl rfl) ?_;refine gd ?_;refine aQ rfl (dC rfl rfl (i9 (cI .i64) dY.h (aW fQ.h) (by decide) (kN .i64) (vo rfl) tV)) ?_;refine aQ rfl (AQ (cI .i64) (fun x=>.i6 x) jN.h rfl (fun _=>rfl) rfl rfl tV) ?_;refine bP o8 ?_;refine gd ?_;refine eE ?_;refine qU ?_;refine bD ⟨by kernel_rfl,⟨kC k9.h rfl (aW FG.h) rfl rfl rfl,⟨mW jM.h rfl rfl rfl rfl,⟨iQ rfl,⟨fP rfl rfl,⟨kC RT.h rfl (aW x?.h) rfl rfl rfl,⟨mW dY.h rfl rfl rfl rfl,⟨iQ rfl,⟨dC rfl rfl (i9 (cI .i64) dY.h (aW fQ.h) (by decide) (kN .i64) (vo rfl) tV),⟨AQ (cI .i64) (fun x=>.i6 x) jN.h rfl (fun _=>rfl) rfl rfl tV,⟨dC rfl rfl (Ge aY jM.h (aW mO.h) T2 o8 rfl),⟨za8 wB.h rfl (aW mO.h) rfl rfl,trivial⟩⟩⟩⟩⟩⟩⟩⟩⟩⟩⟩,?_⟩;obtain⟨Fw,FX,J⟩:=aC J;refine go ?_;refine lL (R:=fun u O'=>u=.vl 8 0 0 Fw.length/\O'=⟨(8,.bv aU Fw 98 2 0)::(7,.row (aY oV) 78)::OT l27 qZ eK.2 (fE 0) eK.1 mC p1.Nodes p1.Nodes,9⟩) (args:=[.iM aU oV.Arcs]) rfl (gM rfl rfl L4 rfl rfl rfl) (zn aU (qkb n oV.Arcs Fw FX) _ 8 rfl) rfl rfl ?_;rintro _ _ ⟨rfl,rfl⟩;refine go ?_;refine gL (fun m tm O=>∃CQ sG,ZA eK z26 l27 (P8 p1 n eK m2) oV m CQ sG=some r/\tm=fr 88 [(2,.ptr 0 0 0),(4,.ptr 1 0 0),(5,.ptr 2 0 0),(7,.ptr 5 0 0),(8,.i6 z26),(9,.ptr 7 0 0),(10,.vl 8 0 0 sG.length),(11,.i6 CQ)]/\O=⟨(8,.bv aU sG 98 2 0)::(7,.row (aY oV) 78)::OT l27 qZ eK.2 (fE 0) eK.1 mC p1.Nodes p1.Nodes,9⟩) (fun tm O=>∃oJ,Se z26 l27 (P8 p1 n eK m2) oV oJ=some r/\tm=fr 88 [(2,.ptr 0 0 0),(4,.ptr 1 0 0),(5,.ptr 2 0 0),(7,.ptr 5 0 0),(8,.i6 z26),(9,.ptr 7 0 0),(10,.vl 8 0 0 oJ.length)]/\O=⟨(8,.bv aU oJ 98 2 0)::(7,.row (aY oV) 78)::OT l27 qZ eK.2 (fE 0) eK.1 mC p1.Nodes p1.Nodes,9⟩) n ⟨0,Fw,J,rfl,rfl⟩ ?_ ?_;rintro _ _ ⟨oJ,J,rfl,rfl⟩;unfold Se at J;refine gn ?_;refine cJ (tm':=fr 88 [(2,.ptr 0 0 0),(4,.ptr 1 0 0),(5,.ptr 2 0 0),(7,.ptr 5 0 0),(8,.i6 z26),(9,.ptr 7 0 0),(10,.iM aU oJ)]) (O':=⟨(7,.row (aY oV) 78)::OT l27 qZ eK.2 (fE 0) eK.1 mC p1.Nodes p1.Nodes,9⟩) (Gh.trans (Gh.sub (l':=[(2,.ptr 0 0 0),(4,.ptr 1 0 0),(5,.ptr 2 0 0),(7,.ptr 5 0 0),(8,.i6 z26),(9,.ptr 7 0 0),(10,.vl 8 0 0 oJ.length)]) ⟨rfl,rfl,rfl,rfl,rfl,rfl,rfl,trivial⟩) (HV 8 2)) NZ ?_;obtain⟨Lh,J⟩:=d7 J;refine go ?_;refine bT ?_;refine bT ?_;refine go ?_;exact lC ⟨_,(l27++[(aM.mk oV.Typex oJ)]),(qZ+1),J,rfl,rfl⟩;rintro(_|m3) _ _ ⟨CQ,sG,J,rfl,rfl⟩;cases J;unfold ZA at J;refine gF J ?_ ?_<;>intro KT J;refine go ?_;apply aV;obtain⟨CV,QH,J⟩:=aC J;obtain⟨CU,Da,J⟩:=aC J;obtain⟨GI,KS,J⟩:=aC J;refine gn ?_;refine dO (fun tm O=>tm=fr 88 [(2,.ptr 0 0 0),(4,.ptr 1 0 0),(5,.ptr 2 0 0),(7,.ptr 5 0 0),(8,.i6 z26),(9,.ptr 7 0 0),(10,.vl 8 0 0 ((sG.set (0+CQ.toNat) (aK.mk GI.Feat CU)).length)),(11,.i6 CQ)]/\O=⟨(8,.bv aU (sG.set (0+CQ.toNat) (aK.mk GI.Feat CU)) 98 2 0)::(7,.row (aY oV) 78)::OT l27 qZ eK.2 (fE 0) eK.1 mC p1.Nodes p1.Nodes,9⟩) ?_ ?_;rintro _ _ ⟨rfl,rfl⟩;refine go ?_;exact lC ⟨_,(sG.set (0+CQ.toNat) (aK.mk GI.Feat CU)),J,rfl,rfl⟩;refine dE [] ?_;refine gd ?_;refine aQ (u:=.ptr 2 0 0) rfl (fP rfl rfl) ?_;refine gd ?_;refine aQ rfl (dC rfl rfl (i9 aU eT.h (aW kO.h) (by decide) sF (vo rfl) QH)) ?_;refine aQ rfl (kC xY.h rfl (aW fQ.h) rfl (uH rfl) rfl) (aQ (u:=.i6 CV.To) rfl (wH aU jN.h rfl sF rfl rfl (pE QH) rfl) ?_);refine aQ rfl (dC rfl rfl (i9 (cI .i64) dY.h (aW fQ.h) (by decide) (kN .i64) (vo rfl) Da)) ?_;refine aQ rfl (AQ (cI .i64) (fun x=>.i6 x) jN.h rfl (fun _=>rfl) rfl rfl Da) ?_;refine aQ rfl (dC rfl rfl (i9 aU eT.h (aW kO.h) (by decide) sF (vo rfl) KS)) ?_;refine aQ rfl (kC xY.h rfl (aW fQ.h) rfl (uH rfl) rfl) (RD.actn (u:=.junk) (O':=⟨(8,.bv aU (sG.set (0+CQ.toNat) (aK.mk GI.Feat CU)) 98 2 0)::(7,.row (aY oV) 78)::OT l27 qZ eK.2 (fE 0) eK.1 mC p1.Nodes p1.Nodes,9⟩) rfl (A' (y:=(aK.mk GI.Feat CU)) aU (aW fQ.h) sF rfl rfl rfl rfl rfl rfl (pE KS) rfl rfl) rfl ?_);refine bD ⟨by kernel_rfl,trivial,?_⟩;refine go ?_;exact⟨_,_,⟨rfl,rfl⟩,NZ,oT ⟨rfl,rfl,rfl,rfl,rfl,rfl,(by simp only[Hb,OT,List.length_set];rfl),rfl,trivial⟩ rfl⟩;refine go ?_;exact xC ⟨sG,J,rfl,rfl⟩;refine go ?_;exact xC ⟨l27,qZ,J,rfl,rfl⟩;rintro(_|m1) _ _ ⟨z9,l10,lW,J,rfl,rfl⟩;cases J;unfold Iq at J;refine gF J ?_ ?_<;>intro h63 J;refine go ?_;apply aV;obtain⟨tU,J⟩:=d7 J;refine go ?_;refine aO (u:=.ptr 2 0 0) rfl (fP rfl rfl) ?_;refine go ?_;refine bT ?_;refine bT ?_;refine aO (u:=.ptr 2 0 0) rfl (fP rfl rfl) ?_;refine go ?_;exact lC ⟨_,(l10++[(-1)]),(lW+1),J,rfl,rfl⟩;refine go ?_;exact xC ⟨l10,lW,J,rfl,rfl⟩
def yx: V (Int×Bool):=
 some (0,false)
def Im(p3:Int)(x4:aM):Nat->Int->V (Int×Bool)
 |0,_=>none|m1+1,dP=>cond (decide (dP<(x4.Arcs.length:Int))) (a8 (aB x4.Arcs dP) fun iI=>cond (iI.Feat==p3) (a8 (aB x4.Arcs dP) fun qW=>some (qW.To,true)) ((Im p3 x4 m1) (IntKind.i64.wrap (dP+1)))) (yx)
def Qo(n:Nat)(p1:GFS)(p2:Int)(p3:Int):V (Int×Bool):=
 a8 (aB p1.Nodes p2) fun x4=>
 Im p3 x4 n 0
theorem qwd(n:Nat)(p1:GFS)(p2:Int)(p3:Int)(r:Int×Bool)(J:Qo n p1 p2 p3=some r):cY prog 105 [.agg [.isl false (p1.Nodes.map aY)],.int .i64 p2,.int .i64 p3] (.tup [.int .i64 r.1,.bool r.2]):=by unfold Qo at J;refine xV 34 VS ?_;obtain⟨x4,h5,J⟩:=aC J;refine go ?_;refine aZ h5 ?_;refine go ?_;refine gL (fun m tm O=>∃dP,Im p3 x4 m dP=some r/\tm=fr 34 [(2,.i6 p3),(8,.iM aU x4.Arcs),(9,.i6 dP)]/\O=⟨[(0,.row [.iM aY p1.Nodes] 40)],1⟩) (fun tm O=>yx=some r/\tm=fr 34 []/\O=⟨[(0,.row [.iM aY p1.Nodes] 40)],1⟩) n ⟨0,J,rfl,rfl⟩ ?_ ?_;rintro _ _ ⟨J,rfl,rfl⟩;unfold yx at J;refine go ?_;obtain rfl:=sI J;exact y3 rfl rfl rfl rfl rfl;rintro(_|m1) _ _ ⟨dP,J,rfl,rfl⟩;cases J;unfold Im at J;refine gF J ?_ ?_<;>intro iY J;refine go ?_;apply aV;obtain⟨iI,dG,J⟩:=aC J;refine go ?_;refine aZ dG ?_;refine gF J ?_ ?_<;>intro iE J;obtain⟨qW,nV,J⟩:=aC J;refine go ?_;refine aZ nV ?_;refine go ?_;obtain rfl:=sI J;exact y3 rfl rfl rfl rfl rfl;refine go ?_;exact lC ⟨_,J,rfl,rfl⟩;refine go ?_;exact xC ⟨J,rfl,rfl⟩
end Go.Proofs
namespace Go.Vx
open Go Go.Rx
theorem nw(K:Nat)(b:B)(sz:Nat):∀(l m:I U),k7 K b sz (l++m)=k7 K b sz l++k7 K b sz m
 |[],m=>by simp[wL]
 |u::l,m=>by rw[List.cons_append,uI,uI,nw K b sz l m,List.cons_append]
theorem Gh.three{n:Nat}{l:I (Nat×U)}{h:I (Nat×B)}{nx:Nat}{a b c:B}(h2:gt h 2=some c)(h1:gt h 1=some b)(h0:gt h 0=some a)(hn:3<=nx)(hl:aL 3 (fr n l))(ha:BelB 3 a)(hb:BelB 3 b)(hc:BelB 3 c):Gh 0 (fr n l) ⟨h,nx⟩ (fr n l) ⟨[(2,c),(1,b),(0,a)],3⟩:=by
 have key:∀k,gt [(2,c),(1,b),(0,a)] k=gt (Vx.cut 3 h) k:=fun k=>by rw[Gg];rcases k with _ |_ |_ |k;simp[eA,h0];simp[eA,h1];simp[eA,h2];simp[eA,gt];omega
 refine(Gh.cutG (O:=⟨h,nx⟩) (n1:=3) (Nat.zero_le _) hn hl fun k d hd=>?_).trans (Gh.same (O:=⟨Vx.cut 3 h,3⟩) _ key);rw[<-key]at hd;rcases k with _ |_ |_ |k;simp[eA]at hd;subst hd;exact ha;simp[eA]at hd;subst hd;exact hb;simp[eA]at hd;subst hd;exact hc;have hz:gt [(2,c),(1,b),(0,a)] (k+3)=none:=by rw[eA,if_neg (by omega),eA,if_neg (by omega),eA,if_neg (by omega)];rfl
 have bG:gt [(2,c),(1,b),(0,a)] (k+3)=some d:=hd;rw[hz]at bG;cases bG
end Go.Vx
namespace Go.Proofs
open Go Go.Rx Go.Vx
structure QN where
 ty:Int
 nm:Nat
 st:Nat
 ar:I aK
def QN.nd(q:QN):aM:=⟨q.ty,q.ar⟩
def cQ(q:QN):I U:=[.int .i64 q.ty,.vl q.nm q.st 0 q.ar.length]
theorem Y9(q:QN):(cQ q).length=2:=rfl
instance:gG cQ 2:=⟨Y9⟩
structure QI(l:I aM)(qs:I QN)(v10 st:Nat)(h:I (Nat×B)):Prop where
 el:l=qs.map QN.nd
 g0:gt h 0=some (.row [.nils] 40)
 g1:gt h 1=some (.row [.vl 2 st 0 qs.length] 40)
 g2:gt h 2=some (.bv cQ qs 78 2 st)
 ga:∀q∈qs,gt h q.nm=some (.bv aU q.ar 98 2 q.st)
 lo:∀q∈qs,3<=q.nm/\q.nm<v10+3
 nd:(qs.map QN.nm).Nodup
theorem z76(n:Nat)(l:I aK):aL n (l.map aU).flatten:=BR n (fun q=>Hr n q) l
theorem fz_dn(K:Nat)(b:B)(sz:Nat)(l:I aM):k7 K b sz (l.map aY).flatten=(l.map aY).flatten:=tE _ _ _ (BR K (fun q=>P2 K q) l)
theorem fz_qs(K:Nat)(b:B)(sz:Nat):∀(l:I QN),(∀q∈l,q.nm≠K)->k7 K b sz (l.map cQ).flatten=(l.map cQ).flatten
 |[],_=>by simp[wL]
 |q::l,h=>by
  have h1:Nat.beq q.nm K=false:=by rw[beq_eq];simpa using h q (by simp)
  rw[zQ,List.flatten_cons,nw,fz_qs K b sz l fun x hx=>h x (by simp[hx])];simp only[cQ,uI,wL,D7,Hw h1]
theorem frz{n0:Nat}{tm:I U}(hb:aL 3 tm){st N nx:Nat}:∀(qs:I QN)(dn:I aM)(h:I (Nat×B)),
  gt h 2=some (.vec ((dn.map aY).flatten++(qs.map cQ).flatten) 78 2 st)->gt h 1=some (.row [.vl 2 st 0 N] 40)->gt h 0=some (.row [.nils] 40)->
  (∀q∈qs,gt h q.nm=some (.bv aU q.ar 98 2 q.st)/\3<=q.nm)->(qs.map QN.nm).Nodup->
  ∃h',Gh n0 tm ⟨h,nx⟩ tm ⟨h',nx⟩/\gt h' 2=some (.bv aY (dn++qs.map QN.nd) 78 2 st)/\gt h' 1=some (.row [.vl 2 st 0 N] 40)/\gt h' 0=some (.row [.nils] 40)
 |[],dn,h,h2,h1,h0,_,_=>⟨h,Gh.refl _ _ _,by simpa using h2,h1,h0⟩|q::qs,dn,h,h2,h1,h0,hq,hn=>by
  obtain⟨g1,g2⟩:=hq q (by simp);rw[zQ,List.nodup_cons]at hn;have d5:∀x∈qs,x.nm≠q.nm:=fun x hx e=>hn.1 (by rw[<-e];exact List.mem_map_of_mem hx);have hbq:aL q.nm tm:=(EV _ _).2 fun u hu=>bC.le g2 u ((EV _ _).1 hb u hu);have step:Gh n0 tm ⟨h,nx⟩ tm ⟨fzH q.nm (.bv aU q.ar 98 2 q.st) 2 h,nx⟩:=Gh.fz q.nm _ 2 g1 nofun (tE _ _ _ hbq) rfl;obtain⟨h',e1,e2,e3,e4⟩:=frz hb (n0:=n0) (nx:=nx) (N:=N) (st:=st) qs (dn++[q.nd]) (fzH q.nm (.bv aU q.ar 98 2 q.st) 2 h)
   (by
    rw[Gf,if_neg (by omega),h2];simp only[zM,fzB,nw,fz_dn,zQ,List.flatten_cons,fz_qs _ _ _ qs d5];have:k7 q.nm (.bv aU q.ar 98 2 q.st) 2 (cQ q)=aY q.nd:=by simp only[cQ,uI,wL,D7,Lt sF,aY,QN.nd]
    rw[this];simp)
   (by
    rw[Gf,if_neg (by omega),h1];have:Nat.beq 2 q.nm=false:=by rw[beq_eq];simp;omega
    simp only[zM,fzB,uI,wL,Hw this])
   (by rw[Gf,if_neg (by omega),h0];simp only[zM,fzB,uI,wL,ET])
   (fun x hx=>by obtain⟨k1,k2⟩:=hq x (by simp[hx]);refine⟨?_,k2⟩;rw[Gf,if_neg (d5 x hx),k1];simp only[zM,fzB,tE _ _ _ (z76 _ _)])
   hn.2
  exact⟨h',step.trans e1,by simpa using e2,e3,e4⟩
theorem QI.same{l:I aM}{qs:I QN}{v10 st nx:Nat}{h:I (Nat×B)}(q:QI l qs v10 st h)(tm:I U):∃t,Gh 0 tm ⟨h,nx⟩ tm ⟨(2,.bv cQ qs 78 2 st)::(1,.row [.vl 2 st 0 qs.length] 40)::(0,.row [.nils] 40)::t,nx⟩/\QI l qs v10 st ((2,.bv cQ qs 78 2 st)::(1,.row [.vl 2 st 0 qs.length] 40)::(0,.row [.nils] 40)::t):=by
 have key:∀k,gt ((2,.bv cQ qs 78 2 st)::(1,.row [.vl 2 st 0 qs.length] 40)::(0,.row [.nils] 40)::h) k=gt h k:=fun k=>by simp only[eA];by_cases e2:2=k;subst e2;simp[q.g2];by_cases e1:1=k;subst e1;simp[q.g1];by_cases e0:0=k;subst e0;simp[q.g0];simp[e2,e1,e0]
 refine⟨h,Gh.same (O:=⟨h,nx⟩) _ key,⟨q.el,?_,?_,?_,fun x hx=>?_,q.lo,q.nd⟩⟩;rw[key];exact q.g0;rw[key];exact q.g1;rw[key];exact q.g2;rw[key];exact q.ga x hx
variable{l:I aM}
variable{qs:I QN}
variable{v10:Nat}
theorem QI.more{st:Nat}{h:I (Nat×B)}(q:QI l qs v10 st h)(b:B):QI l qs (v10+1) st ((v10+3,b)::h) where
 el:=q.el
 g0:=by rw[eA,if_neg (by omega)];exact q.g0
 g1:=by rw[eA,if_neg (by omega)];exact q.g1
 g2:=by rw[eA,if_neg (by omega)];exact q.g2
 ga:=fun x hx=>by have:=q.lo x hx;rw[eA,if_neg (by omega)];exact q.ga x hx
 lo:=fun x hx=>by have:=q.lo x hx;omega
 nd:=q.nd
theorem QI.viewG{st nx:Nat}{h:I (Nat×B)}(q:QI l qs v10 st h)(az:I U)(ha:aL 2 az):∃O1,Gh 0 (.agg [.vl 2 st 0 qs.length]::az) ⟨h,nx⟩ (.agg [.isl false (l.map aY)]::az) O1:=by
 have hb:aL 3 (.agg [.vl 2 st 0 qs.length]::az):=by
  refine(EV _ _).2 fun u hu=>?_;rcases zI.1 hu with rfl |hu
  simp[bC,aL];exact bC.le (by omega) u ((EV _ _).1 ha u hu)
 obtain⟨h',e1,e2,e3,e4⟩:=frz (n0:=0) hb (st:=st) (N:=qs.length) (nx:=nx) qs [] h (by simpa using q.g2) q.g1 q.g0 (fun x hx=>⟨q.ga x hx,(q.lo x hx).1⟩) q.nd;rw[List.nil_append,<-q.el]at e2;have hl:qs.length=l.length:=by rw[q.el,yA]
 refine⟨⟨fzH 2 (.bv aY l 78 2 st) 2 h',nx⟩,e1.trans (Gh.fz 2 (.bv aY l 78 2 st) 2 e2 nofun ?_ rfl)⟩;rw[uI,tE _ _ _ ha,EP,uI,wL,hl,Lt T2]
variable{i:Int}
theorem zbr{v11 β:Type}{f:v11->β}{l:I v11}{y:β}(h:aB (l.map f) i=some y):∃x,aB l i=some x/\f x=y:=by obtain⟨h1,h2,h3⟩:=YU h;rw[List.getElem?_map]at h3;rcases e:l[i.toNat]? with _|x;rw[e]at h3;cases h3;rw[e]at h3;refine⟨x,?_,Option.some.inj h3⟩;rw[yA]at h2;rw[aB,if_pos ⟨h1,h2⟩];exact e
theorem z45{v11:Type}{l:I v11}{y:v11}(h:aB l i=some y):y∈l:=zX (YU h).2.2
variable{t:I (Nat×B)}
theorem pullG{n0:Nat}{tm:I U}{st e:Nat}{y:QN}{a:aK}(he:y.nm=e+3)(ct:e<v10)
  (hy:gt ((2,.bv cQ qs 78 2 st)::(1,.row [.vl 2 st 0 qs.length] 40)::(0,.row [.nils] 40)::t) y.nm=some (.bv aU y.ar 98 2 y.st)):
  Gh n0 tm ⟨(v10+3,.row (aU a) 98)::(2,.bv cQ qs 78 2 st)::(1,.row [.vl 2 st 0 qs.length] 40)::(0,.row [.nils] 40)::t,v10+4⟩ tm
   ⟨(v10+3,.row (aU a) 98)::(2,.bv cQ qs 78 2 st)::(1,.row [.vl 2 st 0 qs.length] 40)::(0,.row [.nils] 40)::(e+3,.bv aU y.ar 98 2 y.st)::rg t (e+3),v10+4⟩:=by
 refine Gh.same (O:=⟨_,v10+4⟩) _ fun k=>?_;rw[he,eA,if_neg (by omega),eA,if_neg (by omega),eA,if_neg (by omega)]at hy;simp only[eA];split;rfl;split;rfl;split;rfl;split;rfl;split
 ·next h=>rw[<-h,hy]
 ·next h=>rw[gt_rg,if_neg h]
theorem QI.upd{st e:Nat}{y:QN}(q:QI l qs v10 st ((2,.bv cQ qs 78 2 st)::(1,.row [.vl 2 st 0 qs.length] 40)::(0,.row [.nils] 40)::t))(hy:aB qs i=some y)(he:y.nm=e+3)(ct:e<v10)(a:aK)(z:aK):
  QI (l.set (0+i.toNat) ⟨y.nd.Typex,y.nd.Arcs++[z]⟩) (qs.set (0+i.toNat) ⟨y.ty,e+3,y.st+1,y.ar++[z]⟩) (v10+2) st ((v10+4,.row [.i6 z.Feat,.i6 z.To] 98)::(v10+3,.row (aU a) 98)::(2,.bv cQ (qs.set (0+i.toNat) ⟨y.ty,e+3,y.st+1,y.ar++[z]⟩) 78 2 st)::(1,.row [.vl 2 st 0 qs.length] 40)::(0,.row [.nils] 40)::(e+3,.bv aU (y.ar++[z]) 98 2 (y.st+1))::rg t (e+3)):=by
 obtain⟨h1,h2,h3⟩:=YU hy;have hi:i.toNat<qs.length:=(zG.1 h3).1;have hnm:(qs.set (0+i.toNat) ⟨y.ty,e+3,y.st+1,y.ar++[z]⟩).map QN.nm=qs.map QN.nm:=by
  rw[Nat.zero_add,List.map_set];have:(⟨y.ty,e+3,y.st+1,y.ar++[z]⟩:QN).nm=y.nm:=by rw[he]
  rw[this];have hz:(qs.map QN.nm)[i.toNat]? = some y.nm:=by rw[List.getElem?_map,h3];rfl
  obtain⟨a1,b1⟩:=zG.1 hz;rw[<-b1,List.set_getElem_self]
 have yV:∀x∈qs.set (0+i.toNat) ⟨y.ty,e+3,y.st+1,y.ar++[z]⟩,x=⟨y.ty,e+3,y.st+1,y.ar++[z]⟩\/(x∈qs/\x.nm≠e+3):=fun x hx=>by
  obtain⟨j,hj⟩:=List.getElem?_of_mem hx;rw[Nat.zero_add,List.getElem?_set]at hj;by_cases d5:i.toNat=j;rw[if_pos d5]at hj;by_cases aE:i.toNat<qs.length;rw[if_pos aE]at hj;exact .inl (Option.some.inj hj).symm;rw[if_neg aE]at hj;cases hj;rw[if_neg d5]at hj;refine .inr ⟨zX hj,fun hc=>d5 ?_⟩;have p1:(qs.map QN.nm)[i.toNat]? = some (e+3):=by rw[List.getElem?_map,h3,<-he];rfl
  have p2:(qs.map QN.nm)[j]? = some (e+3):=by rw[List.getElem?_map,hj,<-hc];rfl
  obtain⟨a1,b1⟩:=zG.1 p1;obtain⟨a2,b2⟩:=zG.1 p2;exact(List.getElem_inj (h₀:=a1) (h₁:=a2) q.nd).1 (by rw[b1,b2])
 refine⟨?_,?_,?_,?_,fun x hx=>?_,fun x hx=>?_,by rw[hnm];exact q.nd⟩;rw[List.map_set,q.el];rfl;simp only[eA];rw[if_neg (by omega),if_neg (by omega),if_neg (by omega),if_neg (by omega)];rfl;simp only[eA];rw[if_neg (by omega),if_neg (by omega),if_neg (by omega),List.length_set];rfl;simp only[eA];rw[if_neg (by omega),if_neg (by omega)];rfl;rcases yV x hx with rfl |⟨hx,d5⟩;simp only[eA];rw[if_neg (by omega),if_neg (by omega),if_neg (by omega),if_neg (by omega),if_neg (by omega)];simp;have l1:=q.lo x hx;have g1:=q.ga x hx;rw[eA,if_neg (by omega),eA,if_neg (by omega),eA,if_neg (by omega)]at g1;simp only[eA];rw[if_neg (by omega),if_neg (by omega),if_neg (by omega),if_neg (by omega),if_neg (by omega),if_neg (by omega),gt_rg,if_neg (by omega)];exact g1;rcases yV x hx with rfl |⟨hx,d5⟩;show 3<=e+3/\e+3<v10+2+3;omega;have l1:=q.lo x hx;omega
instance{a:Int}{k:Nat}:DeC cQ [.int .i64 a,.vl k 0 0 0] ⟨a,k,0,[]⟩:=⟨rfl⟩
theorem nilRow{tm:I U}{x:Int}{H:I (Nat×B)}:Gh (v10+4) tm ⟨(v10+3,.row [.i6 x,.nils] 78)::H,v10+4⟩ tm ⟨(v10+4,.vec [] 98 2 0)::(v10+3,.row [.i6 x,.vl (v10+4) 0 0 0] 78)::H,v10+5⟩:=by
 have h1:Nat.beq (v10+4) (v10+3)=false:=by rw[beq_eq];simp
 have h2:Nat.beq (v10+3) (v10+3)=true:=by rw[beq_eq];simp
 have:=x3 (n0:=v10+4) (tm:=tm) (O:=⟨(v10+3,.row [.i6 x,.nils] 78)::H,v10+4⟩) (q:=[.i6 x,.nils]) (e0:=78) (v10+3) 1 98 2 (by decide) (zF _) (by simp only[gt,h2,zC]) rfl;simp only[newU,ug,h1,h2,zC,zD,List.set]at this;exact this
theorem QI.app{st:Nat}(q:QI l qs v10 st ((2,.bv cQ qs 78 2 st)::(1,.row [.vl 2 st 0 qs.length] 40)::(0,.row [.nils] 40)::t))(x:Int):
  QI (l++[aM.mk x []]) (qs++[(⟨x,v10+4,0,[]⟩:QN)]) (v10+2) (st+1) ((v10+4,.vec [] 98 2 0)::(v10+3,.row [.i6 x,.vl (v10+4) 0 0 0] 78)::(2,.bv cQ (qs++[(⟨x,v10+4,0,[]⟩:QN)]) 78 2 (st+1))::(1,.row [.vl 2 (st+1) 0 (qs++[(⟨x,v10+4,0,[]⟩:QN)]).length] 40)::(0,.row [.nils] 40)::t) where
 el:=by rw[q.el];simp[QN.nd]
 g0:=by simp only[eA];rw[if_neg (by omega),if_neg (by omega),if_neg (by omega),if_neg (by omega)];rfl
 g1:=by simp only[eA];rw[if_neg (by omega),if_neg (by omega),if_neg (by omega)];rfl
 g2:=by simp only[eA];rw[if_neg (by omega),if_neg (by omega)];rfl
 ga:=fun y hy=>by rcases yD.1 hy with hy |hy;have l1:=q.lo y hy;have g1:=q.ga y hy;rw[eA,if_neg (by omega),eA,if_neg (by omega),eA,if_neg (by omega)]at g1;simp only[eA];rw[if_neg (by omega),if_neg (by omega),if_neg (by omega),if_neg (by omega),if_neg (by omega)];exact g1;simp at hy;subst hy;simp[eA]
 lo:=fun y hy=>by rcases yD.1 hy with hy |hy;have l1:=q.lo y hy;omega;simp at hy;subst hy;show 3<=v10+4/\v10+4<v10+2+3;omega
 nd:=by rw[List.map_append,List.nodup_append];refine⟨q.nd,by simp,fun a ha b hb=>?_⟩;obtain⟨y,hy,rfl⟩:=List.mem_map.1 ha;simp at hb;subst hb;have:=q.lo y hy;omega
theorem qi0:QI [] [] 0 0 [(2,.bv cQ ([]:I QN) 78 2 0),(1,.row [.vl 2 0 0 (([]:I QN).length)] 40),(0,.row [.nils] 40)]:=⟨rfl,rfl,rfl,rfl,(fun q hq=>by cases hq),(fun q hq=>by cases hq),List.nodup_nil⟩
end Go.Proofs
namespace Go.Proofs
open Go Go.Rx Go.Vx Tryz
instance:TbP prog tb:=⟨tb_ok⟩
set_option maxRecDepth 20000
set_option maxHeartbeats 4000000
set_option synthInstance.maxSize 4000
set_option synthInstance.maxHeartbeats 200000
def Tx(BD:Int)(XW:Int->(I aM)->V (GFS))(oJ:I aM):V (GFS):=
 XW (IntKind.i64.wrap (BD+1)) oJ
def pj(dV:Int)(rc2:Int->(I aM)->V (GFS))(rF:I aM):V (GFS):=
 rc2 (IntKind.i64.wrap (dV+1)) rF
def TK(p1:I aM)(p2:I Int)(n:Nat)(dV:Int)(rc2:Int->(I aM)->V (GFS))(lM:Int):Nat->Int->(I aM)->V (GFS)
 |0,_,_=>none|m3+1,BD,n9=>
  a8 (aB p1 dV) fun x44=>cond (decide (BD<(x44.Arcs.length:Int))) (a8 (aB p1 dV) fun x47=>
   a8 (aB x47.Arcs BD) fun rW=>
   a8 (Qo n (GFS.mk n9) lM rW.Feat) fun ff=>cond (!ff.2) (a8 (aB n9 lM) fun RI=>
    a8 (aB p2 rW.To) fun CV=>
    aF ((RI.Arcs.length+1)*16<=140737488355328/\RI.Arcs.length+1<=140737488355328) (
    a8 (aB n9 lM) fun RG=>
    Tx BD (TK p1 p2 n dV rc2 lM m3) (n9.set (0+lM.toNat) (aM.mk RG.Typex (RI.Arcs++[(aK.mk rW.Feat CV)]))))) (Tx BD (TK p1 p2 n dV rc2 lM m3) n9)) (pj dV rc2 n9)
def Jo(p2:I Int)(p4:Int)(n:Nat)(pH:I aM):V (GFS):=
 a8 (aB p2 p4) fun I9=>
 a8 (Ht n (GFS.mk pH) I9) fun oY=>some oY
def N0(p1:I aM)(p2:I Int)(p4:Int)(n:Nat):Nat->Int->(I aM)->V (GFS)
 |0,_,_=>none|m2+1,dV,l24=>cond (decide (dV<(p1.length:Int))) (a8 (aB p2 dV) fun lM=>TK p1 p2 n dV (N0 p1 p2 p4 n m2) lM n 0 l24) (Jo p2 p4 n l24)
def Tw(p1:I aM)(p2:I Int)(p4:Int)(n:Nat)(cN:I aM):V (GFS):=
 N0 p1 p2 p4 n n 0 cN
def Jn(p1:I aM)(p2:I Int)(p3:I Int)(p4:Int)(n:Nat):Nat->Int->(I aM)->V (GFS)
 |0,_,_=>none|m1+1,dM,bS=>cond (decide (dM<(p1.length:Int))) (a8 (aB p3 dM) fun M2=>aF ((bS.length+1)*32<=140737488355328/\bS.length+1<=140737488355328) ((Jn p1 p2 p3 p4 n m1) (IntKind.i64.wrap (dM+1)) (bS++[(aM.mk M2 [])]))) (Tw p1 p2 p4 n bS)
def Sq(n:Nat)(p1:I aM)(p2:I Int)(p3:I Int)(p4:Int):V (GFS):=
 Jn p1 p2 p3 p4 n n 0 ([]:I aM)
theorem qoc(n:Nat)(p1:I aM)(p2:I Int)(p3:I Int)(p4:Int)(r:GFS)(J:Sq n p1 p2 p3 p4=some r):cY prog 69 [.isl false (p1.map aY),.isl false (p2.map (cI .i64)),.isl false (p3.map (cI .i64)),.int .i64 p4] (.agg [.isl false (r.Nodes.map aY)]):=by
 unfold Sq at J;refine bg4 98 Zb ?_;refine gr ?_;refine gr ?_;refine gr ?_;refine cJ (tm':=fr 98 [(0,.iM aY p1),(1,.iM (cI .i64) p2),(2,.iM (cI .i64) p3),(3,.i6 p4),(8,.ptr 0 0 0),(9,.ptr 1 0 0),(10,.i6 0)]) (O':=⟨[(2,.bv cQ ([]:I QN) 78 2 0),(1,.row [.vl 2 0 0 (([]:I QN).length)] 40),(0,.row [.nils] 40)],3⟩) (Gh.trans (x3 1 0 78 2 (by decide) NZ rfl rfl) (oT ⟨rfl,rfl,rfl,rfl,rfl,rfl,rfl,trivial⟩ rfl)) NZ ?_;refine gL (fun m tm O=>∃dM bS g8,Jn p1 p2 p3 p4 n m dM bS=some r/\tm=fr 98 [(0,.iM aY p1),(1,.iM (cI .i64) p2),(2,.iM (cI .i64) p3),(3,.i6 p4),(8,.ptr 0 0 0),(9,.ptr 1 0 0),(10,.i6 dM)]/\∃qs v10 h,QI bS qs v10 g8 h/\O=⟨h,v10+3⟩) (fun tm O=>∃cN fE,Tw p1 p2 p4 n cN=some r/\tm=fr 98 [(0,.iM aY p1),(1,.iM (cI .i64) p2),(3,.i6 p4),(8,.ptr 0 0 0),(9,.ptr 1 0 0)]/\∃qs v10 h,QI cN qs v10 fE h/\O=⟨h,v10+3⟩) n ⟨0,([]:I aM),0,J,rfl,[],0,_,qi0,rfl⟩ ?_ ?_;rintro _ _ ⟨cN,fE,J,rfl,qs0,M0,hh0,hq0,rfl⟩;unfold Tw at J;refine go ?_;refine gL (fun m tm O=>∃dV l24,N0 p1 p2 p4 n m dV l24=some r/\tm=fr 98 [(0,.iM aY p1),(1,.iM (cI .i64) p2),(3,.i6 p4),(8,.ptr 0 0 0),(9,.ptr 1 0 0),(11,.i6 dV)]/\∃qs v10 h,QI l24 qs v10 fE h/\O=⟨h,v10+3⟩) (fun tm O=>∃pH,Jo p2 p4 n pH=some r/\tm=fr 98 [(1,.iM (cI .i64) p2),(3,.i6 p4),(8,.ptr 0 0 0),(9,.ptr 1 0 0)]/\∃qs v10 h,QI pH qs v10 fE h/\O=⟨h,v10+3⟩) n ⟨0,cN,J,rfl,qs0,M0,hh0,hq0,rfl⟩ ?_ ?_ NZ;rintro _ _ ⟨pH,J,rfl,qs,v10,h,hq,rfl⟩;unfold Jo at J;have Cr:BelS 3 [(1,.iM (cI .i64) p2),(3,.i6 p4),(8,.ptr 0 0 0),(9,.ptr 1 0 0)]:=BS.h;obtain⟨h',e1,e2,e3,e4⟩:=frz (n0:=0) (je (n:=98) Cr) (st:=fE) (N:=qs.length) (nx:=v10+3) qs [] h (by simpa using hq.g2) hq.g1 hq.g0 (fun q hx=>⟨hq.ga q hx,(hq.lo q hx).1⟩) hq.nd;rw[List.nil_append,<-hq.el]at e2;have oN:qs.length=pH.length:=by rw[hq.el,yA]
 rw[oN]at e3;refine cJ (e1.trans (Gh.three e2 e3 e4 (by omega) (je (n:=98) Cr) (by simp[BelB,aL,bC]) (by simp[BelB,aL,bC]) (BR 3 (fun q=>P2 3 q) pH))) NZ ?_;refine gn ?_;refine cJ (tm':=fr 98 [(1,.iM (cI .i64) p2),(3,.i6 p4),(8,.ptr 0 0 0),(9,.ptr 1 0 0)]) (O':=⟨[(1,.row [.iM aY pH] 40),(0,.row [.nils] 40)],3⟩) (Gh.trans (Gh.sub (l':=[(1,.iM (cI .i64) p2),(3,.i6 p4),(8,.ptr 0 0 0),(9,.ptr 1 0 0)]) ⟨rfl,rfl,rfl,rfl,trivial⟩) (HV 2 2)) NZ ?_;obtain⟨I9,uR,J⟩:=aC J;obtain⟨oY,o9,J⟩:=aC J;refine go ?_;refine dE [] ?_;refine gd ?_;refine bP uR ?_;refine gd ?_;refine eM rfl (pC (qo2 n (GFS.mk pH) I9 oY o9)) LB ?_;refine qU ?_;refine bD ⟨by kernel_rfl,trivial,?_⟩;refine go ?_;obtain rfl:=sI J;exact rT (mH (j4 k9.h rfl (aW oK.h) rfl rfl rfl) (dN)) (u9 _ rfl);rintro(_|m2) _ _ ⟨dV,l24,J,rfl,qs,v10,h,hq,rfl⟩;cases J;unfold N0 at J;refine gF J ?_ ?_<;>intro sL J;refine go ?_;apply aV;obtain⟨lM,nU,J⟩:=aC J;refine go ?_;refine aZ nU ?_;refine go ?_;refine gL (fun m tm O=>∃BD n9,TK p1 p2 n dV (N0 p1 p2 p4 n m2) lM m BD n9=some r/\tm=fr 98 [(0,.iM aY p1),(1,.iM (cI .i64) p2),(3,.i6 p4),(8,.ptr 0 0 0),(9,.ptr 1 0 0),(11,.i6 dV),(12,.i6 lM),(13,.i6 BD)]/\∃qs v10 h,QI n9 qs v10 fE h/\O=⟨h,v10+3⟩) (fun tm O=>∃rF,pj dV (N0 p1 p2 p4 n m2) rF=some r/\tm=fr 98 [(0,.iM aY p1),(1,.iM (cI .i64) p2),(3,.i6 p4),(8,.ptr 0 0 0),(9,.ptr 1 0 0),(11,.i6 dV)]/\∃qs v10 h,QI rF qs v10 fE h/\O=⟨h,v10+3⟩) n ⟨0,l24,J,rfl,qs,v10,h,hq,rfl⟩ ?_ ?_ NZ;rintro _ _ ⟨rF,J,rfl,qs,v10,h,hq,rfl⟩;unfold pj at J;refine go ?_;exact⟨_,_,_,zN _,⟨_,rF,J,rfl,qs,v10,h,hq,rfl⟩,NZ,Gh.sub (by((repeat refine⟨rfl,?_⟩);exact trivial))⟩;rintro(_|m3) _ _ ⟨BD,n9,J,rfl,qs,v10,h,hq,rfl⟩;cases J;unfold TK at J;obtain⟨x44,pK,J⟩:=aC J;refine go ?_;refine aZ pK ?_;refine gF J ?_ ?_<;>intro Lj J;obtain⟨t,CF,hq⟩:=hq.same (nx:=v10+3) (fr 98 [(0,.iM aY p1),(1,.iM (cI .i64) p2),(3,.i6 p4),(8,.ptr 0 0 0),(9,.ptr 1 0 0),(11,.i6 dV),(12,.i6 lM),(13,.i6 BD)]);refine cJ (Gh.sub (l':=[(0,.iM aY p1),(1,.iM (cI .i64) p2),(3,.i6 p4),(8,.ptr 0 0 0),(9,.ptr 1 0 0),(11,.i6 dV),(12,.i6 lM),(13,.i6 BD)]) (by((repeat refine⟨rfl,?_⟩);exact trivial))) NZ ?_;refine cJ CF NZ ?_
 haveI:SuC (v10+3) (v10+4):=⟨rfl⟩
 haveI:SuC (v10+4) (v10+5):=⟨rfl⟩
 haveI:Nq (v10+1) v10:=⟨by rw[beq_eq];simp⟩
 refine go ?_;apply aV;obtain⟨x47,HM,J⟩:=aC J;obtain⟨rW,UZ,J⟩:=aC J;refine go ?_;refine aZ HM ?_;refine go ?_;refine aZ UZ ?_;obtain⟨ff,FW,J⟩:=aC J;refine go ?_;have hq3:QI n9 qs (v10+1) fE ((v10+3,.row (aU rW) 98)::(2,.bv cQ qs 78 2 fE)::(1,.row [.vl 2 fE 0 qs.length] 40)::(0,.row [.nils] 40)::t):=hq.more (.row (aU rW) 98);obtain⟨Ov,hgv⟩:=hq3.viewG (nx:=v10+4) [.i6 lM,.i6 rW.Feat] (by simp[aL,bC]);refine aR rfl (bE.viewT (qwd n (GFS.mk n9) lM rW.Feat ff FW) fB.h (by simp only[toV,eY,okL,okC,zC]<;>rfl) (fun m=>by simp[aI,aJ]) hgv) VS ?_;refine gr ?_;refine dO (fun tm O=>∃oJ,Tx BD (TK p1 p2 n dV (N0 p1 p2 p4 n m2) lM m3) oJ=some r/\tm=fr 98 [(0,.iM aY p1),(1,.iM (cI .i64) p2),(3,.i6 p4),(8,.ptr 0 0 0),(9,.ptr 1 0 0),(11,.i6 dV),(12,.i6 lM),(13,.i6 BD)]/\∃qs v10 h,QI oJ qs v10 fE h/\O=⟨h,v10+3⟩) ?_ ?_;rintro _ _ ⟨oJ,J,rfl,qs,v10,h,hq,rfl⟩;unfold Tx at J;refine go ?_;exact⟨_,_,_,zN _,⟨_,oJ,J,rfl,qs,v10,h,hq,rfl⟩,NZ,Gh.sub (by((repeat refine⟨rfl,?_⟩);exact trivial))⟩;refine cF J ?_ ?_<;>intro Li J;obtain⟨RI,KT,J⟩:=aC J;obtain⟨CV,QH,J⟩:=aC J;obtain⟨Ya,J⟩:=d7 J;obtain⟨RG,h61,J⟩:=aC J;have C?:=KT.symm.trans h61;cases C?;rw[hq.el]at KT;obtain⟨y,hy,rfl⟩:=zbr KT;obtain⟨e,he,ct⟩:∃e,y.nm=e+3/\e<v10:=by have:=hq.lo y (z45 hy);exact⟨y.nm-3,by omega,by omega⟩
 haveI:Nq (v10+1) e:=⟨by rw[beq_eq];simp;omega⟩
 haveI:Nq v10 e:=⟨by rw[beq_eq];simp;omega⟩
 have bo:=hq.ga y (z45 hy);refine cJ (pullG (a:=rW) he ct bo) NZ ?_;rw[show y.nd.Arcs=y.ar from rfl]at Ya;refine gn ?_;refine dO (fun tm O=>tm=fr 98 [(0,.iM aY p1),(1,.iM (cI .i64) p2),(3,.i6 p4),(8,.ptr 0 0 0),(9,.ptr 1 0 0),(11,.i6 dV),(12,.i6 lM),(13,.i6 BD)]/\O=⟨(v10+4,.row [.i6 rW.Feat,.i6 CV] 98)::(v10+3,.row (aU rW) 98)::(2,.bv cQ (qs.set (0+lM.toNat) ⟨y.ty,e+3,y.st+1,y.ar++[aK.mk rW.Feat CV]⟩) 78 2 fE)::(1,.row [.vl 2 fE 0 qs.length] 40)::(0,.row [.nils] 40)::(e+3,.bv aU (y.ar++[aK.mk rW.Feat CV]) 98 2 (y.st+1))::rg t (e+3),v10+5⟩) ?_ ?_;rintro _ _ ⟨rfl,rfl⟩;refine go ?_;refine⟨_,_,⟨_,J,rfl,_,v10+2,_,hq.upd hy he ct rW ⟨rW.Feat,CV⟩,rfl⟩,NZ,Gh.sub (by((repeat refine⟨rfl,?_⟩);exact trivial))⟩;refine dE [(0,17),(0,18),(1,17),(1,18),(2,17),(2,18),(3,17),(4,17),(5,17),(6,17),(7,17),(8,17)] ?_;refine gd ?_;refine aQ rfl (dC rfl rfl (i9 cQ jM.h (aW mO.h) (by decide) Y9 (vo rfl) hy)) ?_;refine aQ rfl (kC wB.h rfl (aW kD.h) rfl (uH rfl) rfl) ?_;refine aQ (u:=.vl (e+3) y.st 0 y.ar.length) rfl (wH cQ eT.h rfl Y9 rfl rfl (pE hy) (by rw[<-he];rfl)) ?_;refine gd ?_;refine bP QH ?_;refine gd ?_;refine eE ?_;refine eE ?_;refine aQ rfl (dC rfl rfl (i9 cQ jM.h (aW mO.h) (by decide) Y9 (vo rfl) hy)) ?_;refine aQ rfl (kC wB.h rfl (aW kD.h) rfl (uH rfl) rfl) (RD.actn (u:=.junk) (O':=⟨(v10+4,.row [.i6 rW.Feat,.i6 CV] 98)::(v10+3,.row (aU rW) 98)::(2,.bv cQ (qs.set (0+lM.toNat) ⟨y.ty,e+3,y.st+1,y.ar++[aK.mk rW.Feat CV]⟩) 78 2 fE)::(1,.row [.vl 2 fE 0 qs.length] 40)::(0,.row [.nils] 40)::(e+3,.bv aU (y.ar++[aK.mk rW.Feat CV]) 98 2 (y.st+1))::rg t (e+3),v10+5⟩) rfl (A' (y:=(⟨y.ty,e+3,y.st+1,y.ar++[aK.mk rW.Feat CV]⟩:QN)) cQ (aW kD.h) Y9 rfl rfl rfl rfl rfl rfl (pE hy) rfl rfl) rfl ?_);refine bD ⟨by kernel_rfl,⟨kC k9.h rfl (aW FG.h) rfl rfl rfl,⟨kC k9.h rfl (aW FG.h) rfl rfl rfl,⟨mW jM.h rfl rfl rfl rfl,⟨mW jM.h rfl rfl rfl rfl,⟨iQ rfl,⟨iQ rfl,⟨kC k9.h rfl (aW FG.h) rfl rfl rfl,⟨mW jM.h rfl rfl rfl rfl,⟨iQ rfl,⟨dC rfl rfl (i9 cQ jM.h (aW mO.h) (by decide) Y9 (vo rfl) hy),⟨kC wB.h rfl (aW kD.h) rfl (uH rfl) rfl,⟨wH cQ eT.h rfl Y9 rfl rfl (pE hy) (by rw[<-he];rfl),trivial⟩⟩⟩⟩⟩⟩⟩⟩⟩⟩⟩⟩,?_⟩;refine go ?_;exact⟨_,_,⟨rfl,rfl⟩,NZ,Gh.sub (by((repeat refine⟨rfl,?_⟩);exact trivial))⟩;refine go ?_;exact⟨_,_,⟨n9,J,rfl,qs,v10+1,_,hq3,rfl⟩,NZ,Gh.sub (by((repeat refine⟨rfl,?_⟩);exact trivial))⟩;refine go ?_;exact⟨_,_,⟨n9,J,rfl,qs,v10,h,hq,rfl⟩,NZ,Gh.sub (by((repeat refine⟨rfl,?_⟩);exact trivial))⟩;refine go ?_;exact⟨_,_,⟨l24,J,rfl,qs,v10,h,hq,rfl⟩,NZ,Gh.sub (by((repeat refine⟨rfl,?_⟩);exact trivial))⟩;rintro(_|m1) _ _ ⟨dM,bS,g8,J,rfl,qs,v10,h,hq,rfl⟩;cases J;unfold Jn at J;refine gF J ?_ ?_<;>intro KS J;obtain⟨t,CF,hq⟩:=hq.same (nx:=v10+3) (fr 98 [(0,.iM aY p1),(1,.iM (cI .i64) p2),(2,.iM (cI .i64) p3),(3,.i6 p4),(8,.ptr 0 0 0),(9,.ptr 1 0 0),(10,.i6 dM)]);refine cJ (Gh.sub (l':=[(0,.iM aY p1),(1,.iM (cI .i64) p2),(2,.iM (cI .i64) p3),(3,.i6 p4),(8,.ptr 0 0 0),(9,.ptr 1 0 0),(10,.i6 dM)]) (by((repeat refine⟨rfl,?_⟩);exact trivial))) NZ ?_;refine cJ CF NZ ?_
 haveI:SuC (v10+3) (v10+4):=⟨rfl⟩
 haveI:Nq (v10+1) v10:=⟨by rw[beq_eq];simp⟩
 refine go ?_;apply aV;obtain⟨M2,tU,J⟩:=aC J;obtain⟨Cz,J⟩:=d7 J;rw[show bS.length=qs.length by rw[hq.el,yA]]at Cz;refine go ?_;refine dE [(0,7),(1,7)] ?_;refine gd ?_;refine bP tU ?_;refine gd ?_;refine RD.fz (u1:=.sl (v10+3) 0 1 1) (u:=.sl (v10+3) 0 1 1) (s1:=⟨(v10+3,.row [.i6 M2,.nils] 78)::(2,.bv cQ qs 78 2 g8)::(1,.row [.vl 2 g8 0 qs.length] 40)::(0,.row [.nils] 40)::t,v10+4⟩) rfl Go.Vx.opz nilRow (by show v10+4<=v10+5;omega) rfl rfl ?_;refine eE ?_;refine gd ?_;refine qU ?_;refine bD ⟨by kernel_rfl,⟨kC k9.h rfl (aW FG.h) rfl rfl rfl,⟨mW jM.h rfl rfl rfl rfl,trivial⟩⟩,?_⟩;refine go ?_;exact⟨_,_,_,zN _,⟨_,(bS++[(aM.mk M2 [])]),(g8+1),J,rfl,_,v10+2,_,hq.app M2,rfl⟩,NZ,Gh.sub (by((repeat refine⟨rfl,?_⟩);exact trivial))⟩;refine go ?_;exact⟨_,_,⟨bS,g8,J,rfl,qs,v10,h,hq,rfl⟩,NZ,Gh.sub (by((repeat refine⟨rfl,?_⟩);exact trivial))⟩
end Go.Proofs
namespace Go.Proofs
open Go Go.Rx Go.Vx Tryz
set_option maxRecDepth 20000
def pu(n:Nat)(p1:Int)(p2:I aK)(p4:Int)(p5:Int):V ((I aK)):=
 aF ((0:Int)<=p1/\p1<=((p2.length:Nat):Int)) (cond (1==0) (some p2) (cond (p1==(p2.length:Int)) (aF ((p2.length+1)*16<=140737488355328/\p2.length+1<=140737488355328) (some (p2++[(aK.mk p4 p5)]))) (none)))
theorem qk2(n:Nat)(p1:Int)(p2:I aK)(p4:Int)(p5:Int)(r:(I aK))(J:pu n p1 p2 p4 p5=some r):∀t3:Nat,bE prog 77 [.vl 0 t3 0 p2.length,.int .i64 p1,.sl 1 0 1 1] ⟨[(0,.bv aU p2 98 2 t3),(1,.row [.int .i64 p4,.int .i64 p5] 98)],2⟩ (fun u O'=>∃t:Nat->Nat,u=.vl 0 (t 0) 0 r.length/\O'=⟨[(0,.bv aU r 98 2 (t 0)),(1,.row [.int .i64 p4,.int .i64 p5] 98)],2⟩):=by unfold pu at J;intro t3;refine xV 95 Yu ?_;obtain⟨h6,J⟩:=d7 J;refine go ?_;refine aO (u:=.vl 0 t3 (0+p1.toNat) (p2.length-p1.toNat)) rfl (AR rfl (AH rfl) mT mT (OB aU eT.h (aW kO.h) sF (vo rfl) (Nat.le_of_eq (Nat.zero_add _)) (xl h6.1 h6.2))) ?_;refine go ?_;refine aO (u:=.i6 1) rfl (OD rfl rfl rfl (by simp only[lenU,bW,gt,Nat.beq,zC,zD,B.st,eT.h]<;>rfl)) ?_;refine gF J ?_ ?_<;>intro h7 J;refine go ?_;obtain rfl:=sI J;exact⟨.inr rfl,[.vl 0 t3 0 p2.length],dW rfl (dN),.vl 0 t3 0 p2.length,⟨[(0,.bv aU p2 98 2 t3),(1,.row [.i6 p4,.i6 p5] 98)],2⟩,NL,Gh.to (n1:=2) [] rfl rfl NL NL fB.h BH.h,stF [t3],rfl,rfl⟩;refine gF J ?_ ?_<;>intro h8 J;obtain⟨h9,J⟩:=d7 J;refine go ?_;refine bT ?_;refine go ?_;obtain rfl:=sI J;exact⟨.inr rfl,[.vl 0 (t3+1) 0 ((p2++[(aK.mk p4 p5)]).length)],dW rfl (dN),.vl 0 (t3+1) 0 ((p2++[(aK.mk p4 p5)]).length),⟨[(0,.bv aU (p2++[(aK.mk p4 p5)]) 98 2 (t3+1)),(1,.row [.i6 p4,.i6 p5] 98)],2⟩,NL,Gh.to (n1:=2) [] rfl rfl NL NL fB.h BH.h,stF [(t3+1)],rfl,rfl⟩;refine gn ?_;cases J
end Go.Proofs
