import Derived.Test.YtldlchbgolpkaaaGreatP13
set_option linter.all false
namespace Go.Proofs
open Go Go.Rx Go.Vx Tryz
instance:TbP prog Tryz.tb:=⟨tb_ok⟩
set_option maxRecDepth 20000
set_option maxHeartbeats 4000000
set_option synthInstance.maxSize 4000
set_option synthInstance.maxHeartbeats 200000
instance:sL Tryz.tb 214 [.nils,.nils,.nils] [(0,1),(1,1),(2,1)]:=⟨tJ J6.h Gb.h rfl (by kernel_rfl)⟩
abbrev GY(a)(b:Nat)(c)(d:Nat)(e)(f:Nat)(g)(h):=([(6,.bv aT a 78 2 b),(5,.row [.vl 6 b 0 a.length] 40),(4,.bv (cI .i64) c 3 1 d),(3,.bv (cI .i64) e 3 1 f),(2,.row [.iM aT g,.vl 3 f 0 e.length,.vl 4 d 0 c.length] 214),(1,.row [.nils] 40),(0,.row [.iM aT h] 40)]:List (Nat×B))
abbrev GX(a)(b:Nat)(c:Nat)(d)(e):=([(0,.row [.iM aT a,.vl 1 b 0 d.length,.vl 2 c 0 e.length] 214),(1,.bv (cI .i64) d 3 1 b),(2,.bv (cI .i64) e 3 1 c)]:List (Nat×B))
abbrev V0(a):=([(1,.row [.nils] 40),(0,.row [.iM aT a] 40)]:List (Nat×B))
def WI(p1:List aF)(z6:Int)(l7:List aF)(bU:Int->(List aF)->Option ((List aF)))(cX:Int):Option ((List aF)):=
 aB ((0:Int)<=cX/\cX<=((l7.length:Nat):Int)) (
 aB (0+cX.toNat<=l7.length) (
 aB (((l7.drop 0).take cX.toNat).length*16<=140737488355328/\((l7.drop 0).take cX.toNat).length<=140737488355328) (
 a7 (a8 p1 z6) fun iB=>
 aB ((((l7.drop 0).take cX.toNat).length+1)*16<=140737488355328/\((l7.drop 0).take cX.toNat).length+1<=140737488355328) (
 aB ((0:Int)<=cX/\cX<=((l7.length:Nat):Int)) (
 aB ((0+cX.toNat)+(l7.length-cX.toNat)<=l7.length) (
 aB (((((l7.drop 0).take cX.toNat)++[iB]).length+((l7.drop (0+cX.toNat)).take (l7.length-cX.toNat)).length)*16<=140737488355328/\(((l7.drop 0).take cX.toNat)++[iB]).length+((l7.drop (0+cX.toNat)).take (l7.length-cX.toNat)).length<=140737488355328) (
 bU (IntKind.i64.wrap (z6+1)) ((((l7.drop 0).take cX.toNat)++[iB])++((l7.drop (0+cX.toNat)).take (l7.length-cX.toNat))))))))))
def WH(p1:List aF)(z6:Int)(l7:List aF)(bU:Int->(List aF)->Option ((List aF))):Nat->Int->Option ((List aF))
 |0,_=>none|m2+1,E5=>a7 (cond (decide (E5>0)) (a7 (a8 l7 (IntKind.i64.wrap (E5-1))) fun gH=>a7 (a8 p1 z6) fun iV=>some (decide (gH.Feat>iV.Feat))) (some false)) fun ja=>cond ja ((WH p1 z6 l7 bU m2) (IntKind.i64.wrap (E5-1))) (WI p1 z6 l7 bU E5)
def Qv  (l9:List aF):Option ((List aF)):=
 some l9
def HT(p1:List aF)(n:Nat):Nat->Int->(List aF)->Option ((List aF))
 |0,_,_=>none|m1+1,z6,l7=>cond (decide (z6<(p1.length:Int))) (WH p1 z6 l7 (HT p1 n m1) n (l7.length:Int)) (Qv l7)
def Cm(n:Nat)(p1:List aF):Option ((List aF)):=
 HT p1 n n 0 ([]:List aF)
theorem qjd(n:Nat)(p1:List aF)(r:(List aF))(J:Cm n p1=some r):aY prog 137 [.isl false (p1.map aN)] ⟨[],0⟩ (fun u σ'=>∃t,u=.vl 0 t 0 r.length/\σ'=⟨[(0,.bv aN r 98 2 t)],0+1⟩):=by
 unfold Cm at J;refine iA 52 D5 ?_;refine gr ?_;refine gr ?_;refine gr ?_;refine gV 3 98 2 1 ?_;refine gL (fun m tm σ=>∃z6 l7 t8,HT p1 n m z6 l7=some r/\tm=fr 52 [(0,.iM aN p1),(3,.vl 0 t8 0 l7.length),(4,.i6 z6)]/\σ=⟨[(0,.bv aN l7 98 2 t8)],1⟩) (fun tm σ=>∃l9 bV,Qv l9=some r/\tm=fr 52 [(3,.vl 0 bV 0 l9.length)]/\σ=⟨[(0,.bv aN l9 98 2 bV)],1⟩) n ⟨0,([]:List aF),0,J,rfl,rfl⟩ ?_ ?_;rintro _ _ ⟨l9,bV,J,rfl,rfl⟩;unfold Qv at J;refine go ?_;obtain rfl:=sI J;exact⟨.inr rfl,[.vl 0 bV 0 l9.length],d6 rfl cO,.vl 0 bV 0 l9.length,⟨[(0,.bv aN l9 98 2 bV)],1⟩,NZ,Gh.trans (TO (fun k=>Nat.beq k 0)) (Gh.to (n1:=1) [] rfl rfl NZ NL dQ.h BH.h),bV,rfl,rfl⟩;rintro(_|m1) _ _ ⟨z6,l7,t8,J,rfl,rfl⟩;cases J;unfold HT at J;refine gF J ?_ ?_<;>intro fM J;refine go ?_;apply aP;refine go ?_;refine gL (fun m tm σ=>∃E5,WH p1 z6 l7 (HT p1 n m1) m E5=some r/\tm=fr 52 [(0,.iM aN p1),(3,.vl 0 t8 0 l7.length),(4,.i6 z6),(5,.i6 E5)]/\σ=⟨[(0,.bv aN l7 98 2 t8)],1⟩) (fun tm σ=>∃cX,WI p1 z6 l7 (HT p1 n m1) cX=some r/\tm=fr 52 [(0,.iM aN p1),(3,.vl 0 t8 0 l7.length),(4,.i6 z6),(5,.i6 cX)]/\σ=⟨[(0,.bv aN l7 98 2 t8)],1⟩) n ⟨(l7.length:Int),J,rfl,rfl⟩ ?_ ?_;rintro _ _ ⟨cX,J,rfl,rfl⟩;unfold WI at J;obtain⟨gD,J⟩:=cC J;obtain⟨oQ,J⟩:=cC J;obtain⟨jE,J⟩:=cC J;refine go ?_;refine aJ (u:=.vl 0 t8 0 cX.toNat) rfl (u9 rfl jS (tS rfl) jS (GD aN dF.h (aR iE.h) o3 (vo rfl) (Nat.le_of_eq (Nat.zero_add _)) (P1 gD.1 gD.2))) (aJ (u:=.vl 1 0 0 (((l7.drop 0).take cX.toNat).length)) (σ':=⟨[(1,.bv aN ((l7.drop 0).take cX.toNat) 98 2 0),(0,.bv aN l7 98 2 t8)],2⟩) rfl (pV rfl rfl rfl rfl (Wg aN ((l7.drop 0).take cX.toNat) dF.h dF.h iE.h rfl (Lb aN o3 (vo rfl) oQ) jE)) ?_);obtain⟨iB,kZ,J⟩:=a9 J;obtain⟨mJ,J⟩:=cC J;refine go ?_;refine aS kZ ?_;refine go ?_;refine aJ (u:=.sl 2 0 1 1) (σ':=⟨[(2,.row (aN iB) 98),(1,.bv aN ((l7.drop 0).take cX.toNat) 98 2 0),(0,.bv aN l7 98 2 t8)],3⟩) rfl (pF dF.h iE.h rfl rfl rfl rfl rfl rfl rfl) ?_;refine bI ?_;obtain⟨mZ,J⟩:=cC J;obtain⟨kY,J⟩:=cC J;obtain⟨qS,J⟩:=cC J;refine go ?_;refine aJ (u:=.vl 0 t8 (0+cX.toNat) (l7.length-cX.toNat)) rfl (u9 rfl (tS rfl) jS jS (GD aN dF.h (aR iE.h) o3 (vo rfl) (Nat.le_of_eq (Nat.zero_add _)) (Lq mZ.1 mZ.2))) (aJ (u:=.vl 1 2 0 (((((l7.drop 0).take cX.toNat)++[iB])++((l7.drop (0+cX.toNat)).take (l7.length-cX.toNat))).length)) (σ':=⟨[(2,.row (aN iB) 98),(1,.bv aN ((((l7.drop 0).take cX.toNat)++[iB])++((l7.drop (0+cX.toNat)).take (l7.length-cX.toNat))) 98 2 2),(0,.bv aN l7 98 2 t8)],3⟩) rfl (pV rfl rfl rfl rfl (JU aN ((l7.drop (0+cX.toNat)).take (l7.length-cX.toNat)) dF.h dF.h iE.h rfl o3 rfl (Lb aN o3 (vo rfl) kY) qS)) ?_);refine go ?_;exact⟨m1,_,_,zN _,⟨(IntKind.i64.wrap (z6+1)),((((l7.drop 0).take cX.toNat)++[iB])++((l7.drop (0+cX.toNat)).take (l7.length-cX.toNat))),2,J,rfl,rfl⟩,NZ,Gh.trans (Gh.sub (l':=[(0,.iM aN p1),(3,.vl 1 2 0 (((((l7.drop 0).take cX.toNat)++[iB])++((l7.drop (0+cX.toNat)).take (l7.length-cX.toNat))).length)),(4,.i6 (IntKind.i64.wrap (z6+1)))]) ⟨rfl,rfl,rfl,trivial⟩) (Gh.trans (Gh.mv (l':=[(0,.iM aN p1),(3,.vl 0 2 0 (((((l7.drop 0).take cX.toNat)++[iB])++((l7.drop (0+cX.toNat)).take (l7.length-cX.toNat))).length)),(4,.i6 (IntKind.i64.wrap (z6+1)))]) (h':=[(2,.row (aN iB) 98),(0,.bv aN ((((l7.drop 0).take cX.toNat)++[iB])++((l7.drop (0+cX.toNat)).take (l7.length-cX.toNat))) 98 2 2)]) 0 1 NZ rfl rfl (by simp only[rS,rU,gJ,JW,uB,Nat.beq,zC,zD]) rfl (by simp only[Jo,rB,UA,gJ,rU,JW,Lc,uB,Nat.beq,zC,zD,and_self])) (Gh.toC (n1:=1) ⟨rfl,rfl,rfl,trivial⟩ rfl NZ (by simp)))⟩;rintro(_|m2) _ _ ⟨E5,J,rfl,rfl⟩;cases J;unfold WH at J;obtain⟨ja,kW,J⟩:=a9 J;refine gn ?_;refine cW (fun tm σ=>tm=fr 52 [(0,.iM aN p1),(3,.vl 0 t8 0 l7.length),(4,.i6 z6),(5,.i6 E5),(30,.bool ja)]/\σ=⟨[(0,.bv aN l7 98 2 t8)],1⟩) ?_ ?_;rintro _ _ ⟨rfl,rfl⟩;refine gF J ?_ ?_<;>intro mI J;refine go ?_;apply aP;refine go ?_;exact lC ⟨_,J,rfl,rfl⟩;refine go ?_;exact xC ⟨E5,J,rfl,rfl⟩;refine dE [] ?_;refine gd ?_;rcases gB kW with⟨o6,kW⟩|⟨o6,kW⟩;obtain⟨gH,pL,kW⟩:=a9 kW;obtain⟨iV,kX,kW⟩:=a9 kW;obtain rfl:=sI kW;refine gd ?_;refine RD.w rfl (d7 rfl rfl (fJ aN dF.h (aR iE.h) (by decide) o3 (vo rfl) pL)) ?_;refine RD.w rfl (i5 sN.h rfl (aR fL.h) rfl (pG rfl) rfl) (RD.w (u:=.i6 gH.Feat) rfl (rE aN j9.h rfl o3 rfl rfl (lW pL) rfl) ?_);refine gd ?_;refine bS kX ?_;refine gd ?_;refine aZ ⟨by kernel_rfl,trivial,?_⟩;refine go ?_;exact xC ⟨rfl,rfl⟩;obtain rfl:=sI kW;refine gd ?_;refine aZ ⟨by kernel_rfl,trivial,?_⟩;refine go ?_;exact xC ⟨rfl,rfl⟩;refine go ?_;exact xC ⟨l7,t8,J,rfl,rfl⟩
def X3(cV:Int)(bU:Int->(List Int)->(List Int)->Option ((List Int)×(List Int)))(kT:List Int)(xT:List Int):Option ((List Int)×(List Int)):=
 bU (IntKind.i64.wrap (cV+1)) kT xT
def Sj  (l27:List Int) (bQ:List Int):Option ((List Int)×(List Int)):=
 some (l27,bQ)
def KV(p2:List aI)(dH:List aF)(self:Int->(List aI)->(List Int)->(List Int)->Option ((List Int)×(List Int))):Nat->Int->(List Int)->(List Int)->Option ((List Int)×(List Int))
 |0,_,_,_=>none|m1+1,cV,l24,m5=>
  cond (decide (cV<(dH.length:Int))) (a7 (a8 dH cV) fun iV=>
   a7 (a8 l24 iV.To) fun n9=>cond (decide (n9<0)) (a7 (a8 dH cV) fun x39=>
    a7 (self x39.To p2 l24 m5) fun oX=>
    X3 cV (KV p2 dH self m1) oX.1 oX.2) (X3 cV (KV p2 dH self m1) l24 m5)) (Sj l24 m5)
def Sc(n:Nat)(self:Int->(List aI)->(List Int)->(List Int)->Option ((List Int)×(List Int)))(p1:Int)(p2:List aI)(p3:List Int)(p5:List Int):Option ((List Int)×(List Int)):=
 a7 (a8 p3 p1) fun x7=>
 aB ((p5.length+1)*8<=140737488355328/\p5.length+1<=140737488355328) (
 a7 (a8 p2 p1) fun x10=>
 a7 (Cm n x10.Arcs) fun dH=>
 KV p2 dH self n 0 (p3.set (0+p1.toNat) (p5.length:Int)) (p5++[p1]))
def HX:Nat->Int->(List aI)->(List Int)->(List Int)->Option ((List Int)×(List Int))
 |0,_,_,_,_=>none|n+1,p1,p2,p3,p5=>Sc n (HX n) p1 p2 p3 p5
theorem qcl:∀(n:Nat)(p1:Int)(p2:List aI)(p3:List Int)(p5:List Int)(r:(List Int)×(List Int)),HX n p1 p2 p3 p5=some r->∀t4 t6:Nat,aY prog 136 [.ptr 0 0 0,.int .i64 p1] ⟨GX p2 t4 t6 p3 p5,3⟩ (fun u σ'=>∃t:Nat->Nat,u=.tup []/\σ'=⟨GX p2 t4 (t 0) r.1 r.2,3⟩)
 |0,p1,p2,p3,p5,r,J=>by cases J
 |n+1,p1,p2,p3,p5,r,J=>by have ih:=qcl n;unfold HX Sc at J;intro t4 t6;refine eW 62 D6 ?_;obtain⟨x7,h8,J⟩:=a9 J;refine gn ?_;refine cW (fun tm σ=>tm=fr 62 [(0,.ptr 0 0 0),(1,.i6 p1)]/\σ=⟨GX p2 t4 t6 (p3.set (0+p1.toNat) (p5.length:Int)) p5,3⟩) ?_ ?_;rintro _ _ ⟨rfl,rfl⟩;obtain⟨h9,J⟩:=cC J;refine go ?_;refine aJ (u:=.ptr 0 0 0) rfl (eD rfl rfl) ?_;refine go ?_;refine bI ?_;refine bI ?_;refine aJ (u:=.ptr 0 0 0) rfl (eD rfl rfl) ?_;obtain⟨x10,fM,J⟩:=a9 J;obtain⟨dH,cM,J⟩:=a9 J;refine go ?_;refine aJ (u:=.ptr 0 0 0) rfl (eD rfl rfl) ?_;refine go ?_;refine aS fM ?_;refine go ?_;refine lB (R:=fun u σ'=>u=.vl 4 0 0 dH.length/\σ'=⟨(4,.bv aN dH 98 2 0)::(3,.row [.i6 p1] 3)::GX p2 t4 (t6+1) (p3.set (0+p1.toNat) (p5.length:Int)) (p5++[p1]),5⟩) (args:=[.iM aN x10.Arcs]) rfl (fT rfl rfl D5 hb137 rfl rfl) (Kb aN (qjd n x10.Arcs dH cM) _ 4 rfl) rfl rfl ?_;rintro _ _ ⟨rfl,rfl⟩;refine go ?_;refine gL (fun m tm σ=>∃cV l24,∃m5 YZ,KV p2 dH (HX n) m cV l24 m5=some r/\tm=fr 62 [(0,.ptr 0 0 0),(4,.vl 4 0 0 dH.length),(5,.i6 cV)]/\σ=⟨(4,.bv aN dH 98 2 0)::(3,.row [.i6 p1] 3)::GX p2 t4 YZ l24 m5,5⟩) (fun tm σ=>∃l27 bQ gY,Sj l27 bQ=some r/\tm=fr 62 []/\σ=⟨(4,.bv aN dH 98 2 0)::(3,.row [.i6 p1] 3)::GX p2 t4 gY l27 bQ,5⟩) n ⟨0,(p3.set (0+p1.toNat) (p5.length:Int)),(p5++[p1]),(t6+1),J,rfl,rfl⟩ ?_ ?_;rintro _ _ ⟨l27,bQ,gY,J,rfl,rfl⟩;unfold Sj at J;refine go ?_;obtain rfl:=sI J;exact⟨.inl rfl,[],cO,.tup [],⟨GX p2 t4 gY l27 bQ,3⟩,NL,Gh.to (n1:=3) [] rfl rfl NL NL dQ.h BH.h,stF [gY],rfl,rfl⟩;rintro(_|m1) _ _ ⟨cV,l24,m5,YZ,J,rfl,rfl⟩;cases J;unfold KV at J;refine gF J ?_ ?_<;>intro pL J;refine go ?_;apply aP;obtain⟨iV,kX,J⟩:=a9 J;obtain⟨n9,kW,J⟩:=a9 J;refine go ?_;refine dE [] ?_;refine gd ?_;refine aM (u:=.ptr 0 0 0) rfl (eD rfl rfl) ?_;refine gd ?_;refine aM rfl (d7 rfl rfl (fJ aN dF.h (aR iE.h) (by decide) o3 (vo rfl) kX)) ?_;refine aM rfl (i5 sN.h rfl (aR fL.h) rfl (pG rfl) rfl) (aM (u:=.i6 iV.To) rfl (rE aN j9.h rfl o3 rfl rfl (lW kX) rfl) ?_);refine aM rfl (d7 rfl rfl (fJ (cI .i64) eB.h (aR fL.h) (by decide) (jD .i64) (vo rfl) kW)) ?_;refine aM rfl (u7 (cI .i64) (fun x=>.i6 x) j9.h rfl (fun _=>rfl) rfl rfl kW) ?_;refine gd ?_;refine aZ ⟨by kernel_rfl,trivial,?_⟩;refine gn ?_;refine cW (fun tm σ=>∃kT xT EA,X3 cV (KV p2 dH (HX n) m1) kT xT=some r/\tm=fr 62 [(0,.ptr 0 0 0),(4,.vl 4 0 0 dH.length),(5,.i6 cV)]/\σ=⟨(4,.bv aN dH 98 2 0)::(3,.row [.i6 p1] 3)::GX p2 t4 EA kT xT,5⟩) ?_ ?_;rintro _ _ ⟨kT,xT,EA,J,rfl,rfl⟩;unfold X3 at J;refine go ?_;exact lC ⟨_,kT,xT,EA,J,rfl,rfl⟩;refine cF J ?_ ?_<;>intro mI J;obtain⟨x39,pK,J⟩:=a9 J;obtain⟨oX,nK,J⟩:=a9 J;refine go ?_;refine aJ rfl (d7 rfl rfl (fJ aN dF.h (aR iE.h) (by decide) o3 (vo rfl) pK)) ?_;refine aJ rfl (i5 sN.h rfl (aR fL.h) rfl (pG rfl) rfl) (aJ (u:=.i6 x39.To) rfl (rE aN j9.h rfl o3 rfl rfl (lW pK) rfl) (lB (args:=[.ptr 0 0 0,.i6 x39.To]) rfl (fT rfl rfl D6 hb136 rfl rfl) (aY.st [0,1,2] (ih x39.To p2 l24 m5 oX nK t4 YZ)) rfl rfl ?_));rintro _ _ ⟨OC,rfl,rfl⟩;refine go ?_;exact xC ⟨oX.1,oX.2,(OC 0),J,rfl,rfl⟩;refine go ?_;exact xC ⟨l24,m5,YZ,J,rfl,rfl⟩;refine go ?_;exact xC ⟨l24,m5,YZ,J,rfl,rfl⟩;refine dE [] ?_;refine gd ?_;refine aM (u:=.ptr 0 0 0) rfl (eD rfl rfl) ?_;refine gd ?_;refine aM (u:=.ptr 0 0 0) rfl (eD rfl rfl) ?_;refine gd ?_;refine aM rfl (d7 rfl rfl (fJ (cI .i64) eB.h (aR fL.h) (by decide) (jD .i64) (vo rfl) h8)) ?_;refine RD.actn (u:=.junk) (σ':=⟨[(0,.row [.iM aT p2,.vl 1 t4 0 p3.length,.vl 2 t6 0 p5.length] 214),(1,.bv (cI .i64) (p3.set (0+p1.toNat) (p5.length:Int)) 3 1 t4),(2,.bv (cI .i64) p5 3 1 t6)],3⟩) rfl (TQ (cI .i64) (aR fL.h) (jD .i64) rfl rfl rfl rfl rfl rfl rfl (lW h8) rfl) rfl ?_;refine aZ ⟨by kernel_rfl,trivial,?_⟩;refine go ?_;exact⟨_,_,⟨rfl,rfl⟩,NL,m7 ⟨rfl,rfl,trivial⟩ (by simp only[GX,List.length_set])⟩
def Cu(j4:Int)(l27:List aI)(gE:Int->(List aI)->Option (aW))(lP:aI)(jM:List aF):Option (aW):=
 aB ((l27.length+1)*32<=140737488355328/\l27.length+1<=140737488355328) (
 gE (IntKind.i64.wrap (j4+1)) (l27++[(aI.mk lP.Typex jM)]))
def PS(dL:(List Int)×(List Int))(j4:Int)(l27:List aI)(gE:Int->(List aI)->Option (aW))(lP:aI):Nat->Int->(List aF)->Option (aW)
 |0,_,_=>none|m3+1,vF,lZ=>
  cond (decide (vF<(lZ.length:Int))) (a7 (a8 lZ vF) fun vH=>
   a7 (a8 dL.1 vH.To) fun rO=>
   a7 (a8 lZ vF) fun yQ=>(PS dL j4 l27 gE lP m3) (IntKind.i64.wrap (vF+1)) (lZ.set (0+vF.toNat) (aF.mk yQ.Feat rO))) (Cu j4 l27 gE lP lZ)
def Oy  (eX:List aI):Option (aW):=
 some (aW.mk eX)
def HF(p1:aW)(n:Nat)(dL:(List Int)×(List Int)):Nat->Int->(List aI)->Option (aW)
 |0,_,_=>none|m2+1,j4,l27=>
  cond (decide (j4<(dL.2.length:Int))) (a7 (a8 dL.2 j4) fun pQ=>
   a7 (a8 p1.Nodes pQ) fun lP=>
   a7 (Cm n lP.Arcs) fun TZ=>
   PS dL j4 l27 (HF p1 n dL m2) lP n 0 TZ) (Oy l27)
def Cv(p1:aW)(p2:Int)(n:Nat)(fC:List Int):Option (aW):=
 a7 (HX n p2 p1.Nodes fC ([]:List Int)) fun dL=>
 HF p1 n dL n 0 ([]:List aI)
def W2(p1:aW)(p2:Int)(n:Nat):Nat->Int->(List Int)->Option (aW)
 |0,_,_=>none|m1+1,z9,l10=>cond (decide (z9<(p1.Nodes.length:Int))) (aB ((l10.length+1)*8<=140737488355328/\l10.length+1<=140737488355328) ((W2 p1 p2 n m1) (IntKind.i64.wrap (z9+1)) (l10++[(-1)]))) (Cv p1 p2 n l10)
def VE(n:Nat)(p1:aW)(p2:Int):Option (aW):=
 W2 p1 p2 n n 0 ([]:List Int)
theorem qn4(n:Nat)(p1:aW)(p2:Int)(r:aW)(J:VE n p1 p2=some r):cB prog 106 [.agg [.isl false (p1.Nodes.map aT)],.int .i64 p2] (.agg [.isl false (r.Nodes.map aT)]):=by
 unfold VE at J;refine eW 88 DC ?_;refine gr ?_;refine gr ?_;refine gr ?_;refine bX (tm':=fr 88 [(1,.i6 p2),(2,.ptr 0 0 0),(4,.ptr 1 0 0),(5,.ptr 2 0 0),(6,.i6 0)]) (σ':=⟨(3,.bv (cI .i64) ([]:List Int) 3 1 0)::(2,.row [.iM aT p1.Nodes,.vl 3 0 0 (([]:List Int).length),.nils] 214)::V0 p1.Nodes,4⟩) (Gh.trans (rN 2 1 3 1 (by decide) NZ rfl rfl) (m7 ⟨rfl,rfl,rfl,rfl,rfl,trivial⟩ rfl)) NZ ?_;refine gL (fun m tm σ=>∃z9 l10 j6,W2 p1 p2 n m z9 l10=some r/\tm=fr 88 [(1,.i6 p2),(2,.ptr 0 0 0),(4,.ptr 1 0 0),(5,.ptr 2 0 0),(6,.i6 z9)]/\σ=⟨(3,.bv (cI .i64) l10 3 1 j6)::(2,.row [.iM aT p1.Nodes,.vl 3 j6 0 l10.length,.nils] 214)::V0 p1.Nodes,4⟩) (fun tm σ=>∃fC jG,Cv p1 p2 n fC=some r/\tm=fr 88 [(1,.i6 p2),(2,.ptr 0 0 0),(4,.ptr 1 0 0),(5,.ptr 2 0 0)]/\σ=⟨(3,.bv (cI .i64) fC 3 1 jG)::(2,.row [.iM aT p1.Nodes,.vl 3 jG 0 fC.length,.nils] 214)::V0 p1.Nodes,4⟩) n ⟨0,([]:List Int),0,J,rfl,rfl⟩ ?_ ?_;rintro _ _ ⟨fC,jG,J,rfl,rfl⟩;unfold Cv at J;refine gn ?_;refine bX (tm':=fr 88 [(1,.i6 p2),(2,.ptr 0 0 0),(4,.ptr 1 0 0),(5,.ptr 2 0 0)]) (σ':=⟨(4,.bv (cI .i64) ([]:List Int) 3 1 0)::(3,.bv (cI .i64) fC 3 1 jG)::(2,.row [.iM aT p1.Nodes,.vl 3 jG 0 fC.length,.vl 4 0 0 (([]:List Int).length)] 214)::V0 p1.Nodes,5⟩) (Gh.trans (rN 2 2 3 1 (by decide) NZ rfl rfl) (m7 ⟨rfl,rfl,rfl,rfl,trivial⟩ rfl)) NZ ?_;obtain⟨dL,dN,J⟩:=a9 J;refine go ?_;refine lB (args:=[.ptr 2 0 0,.i6 p2]) rfl (fT rfl rfl D6 hb136 rfl rfl) (aY.st [2,3,4] (qcl n p2 p1.Nodes fC ([]:List Int) dL dN jG 0)) rfl rfl ?_;rintro _ _ ⟨dV,rfl,rfl⟩;refine gr ?_;refine gr ?_;refine bX (tm':=fr 88 [(2,.ptr 0 0 0),(4,.ptr 1 0 0),(5,.ptr 2 0 0),(7,.ptr 5 0 0),(8,.i6 0)]) (σ':=⟨(6,.bv aT ([]:List aI) 78 2 0)::(5,.row [.vl 6 0 0 (([]:List aI).length)] 40)::(4,.bv (cI .i64) dL.2 3 1 (dV 0))::(3,.bv (cI .i64) dL.1 3 1 jG)::(2,.row [.iM aT p1.Nodes,.vl 3 jG 0 dL.1.length,.vl 4 (dV 0) 0 dL.2.length] 214)::V0 p1.Nodes,7⟩) (Gh.trans (rN 5 0 78 2 (by decide) NZ rfl rfl) (m7 ⟨rfl,rfl,rfl,rfl,rfl,trivial⟩ rfl)) NZ ?_;refine gL (fun m tm σ=>∃j4 l27 tQ,HF p1 n dL m j4 l27=some r/\tm=fr 88 [(2,.ptr 0 0 0),(4,.ptr 1 0 0),(5,.ptr 2 0 0),(7,.ptr 5 0 0),(8,.i6 j4)]/\σ=⟨GY l27 tQ dL.2 (dV 0) dL.1 jG p1.Nodes p1.Nodes,7⟩) (fun tm σ=>∃eX qY,Oy eX=some r/\tm=fr 88 [(4,.ptr 1 0 0),(7,.ptr 5 0 0)]/\σ=⟨GY eX qY dL.2 (dV 0) dL.1 jG p1.Nodes p1.Nodes,7⟩) n ⟨0,([]:List aI),0,J,rfl,rfl⟩ ?_ ?_;rintro _ _ ⟨eX,qY,J,rfl,rfl⟩;unfold Oy at J;refine go ?_;obtain rfl:=sI J;exact rT (us:=[.agg [.vl 6 qY 0 eX.length]]) (u:=.agg [.iM aT eX]) (jC (fZ hZ.h rfl (aR lK.h) rfl rfl rfl) (cO)) (fR 6 2);rintro(_|m2) _ _ ⟨j4,l27,tQ,J,rfl,rfl⟩;cases J;unfold HF at J;refine go ?_;refine aJ (u:=.ptr 2 0 0) rfl (eD rfl rfl) ?_;refine gF J ?_ ?_<;>intro pY J;refine go ?_;apply aP;obtain⟨pQ,o5,J⟩:=a9 J;obtain⟨lP,mI,J⟩:=a9 J;refine go ?_;refine dE [(0,11),(1,11),(2,11),(3,11),(4,11),(5,11),(6,11),(7,11),(8,11),(9,11),(10,11)] ?_;refine gd ?_;refine aM (u:=.ptr 2 0 0) rfl (eD rfl rfl) ?_;refine gd ?_;refine aM rfl (d7 rfl rfl (fJ (cI .i64) eB.h (aR fL.h) (by decide) (jD .i64) (vo rfl) o5)) ?_;refine aM rfl (u7 (cI .i64) (fun x=>.i6 x) j9.h rfl (fun _=>rfl) rfl rfl o5) ?_;refine bS mI ?_;refine gd ?_;refine dA ?_;refine n8 ?_;refine aZ ⟨by kernel_rfl,⟨i5 hZ.h rfl (aR xU.h) rfl rfl rfl,⟨lV gP.h rfl rfl rfl rfl,⟨g8 rfl,⟨eD rfl rfl,⟨i5 J6.h rfl (aR qt.h) rfl rfl rfl,⟨lV eB.h rfl rfl rfl rfl,⟨g8 rfl,⟨d7 rfl rfl (fJ (cI .i64) eB.h (aR fL.h) (by decide) (jD .i64) (vo rfl) o5),⟨u7 (cI .i64) (fun x=>.i6 x) j9.h rfl (fun _=>rfl) rfl rfl o5,⟨d7 rfl rfl (UD aT gP.h (aR jP.h) KC mI rfl),⟨kp qW.h rfl (aR jP.h) rfl rfl,trivial⟩⟩⟩⟩⟩⟩⟩⟩⟩⟩⟩,?_⟩;obtain⟨TZ,AE,J⟩:=a9 J;refine go ?_;refine lB (R:=fun u σ'=>u=.vl 8 0 0 TZ.length/\σ'=⟨(8,.bv aN TZ 98 2 0)::(7,.row (aT lP) 78)::GY l27 tQ dL.2 (dV 0) dL.1 jG p1.Nodes p1.Nodes,9⟩) (args:=[.iM aN lP.Arcs]) rfl (fT rfl rfl D5 hb137 rfl rfl) (Kb aN (qjd n lP.Arcs TZ AE) _ 8 rfl) rfl rfl ?_;rintro _ _ ⟨rfl,rfl⟩;refine go ?_;refine gL (fun m tm σ=>∃vF lZ,PS dL j4 l27 (HF p1 n dL m2) lP m vF lZ=some r/\tm=fr 88 [(2,.ptr 0 0 0),(4,.ptr 1 0 0),(5,.ptr 2 0 0),(7,.ptr 5 0 0),(8,.i6 j4),(9,.ptr 7 0 0),(10,.vl 8 0 0 lZ.length),(11,.i6 vF)]/\σ=⟨(8,.bv aN lZ 98 2 0)::(7,.row (aT lP) 78)::GY l27 tQ dL.2 (dV 0) dL.1 jG p1.Nodes p1.Nodes,9⟩) (fun tm σ=>∃jM,Cu j4 l27 (HF p1 n dL m2) lP jM=some r/\tm=fr 88 [(2,.ptr 0 0 0),(4,.ptr 1 0 0),(5,.ptr 2 0 0),(7,.ptr 5 0 0),(8,.i6 j4),(9,.ptr 7 0 0),(10,.vl 8 0 0 jM.length)]/\σ=⟨(8,.bv aN jM 98 2 0)::(7,.row (aT lP) 78)::GY l27 tQ dL.2 (dV 0) dL.1 jG p1.Nodes p1.Nodes,9⟩) n ⟨0,TZ,J,rfl,rfl⟩ ?_ ?_;rintro _ _ ⟨jM,J,rfl,rfl⟩;unfold Cu at J;refine gn ?_;refine bX (tm':=fr 88 [(2,.ptr 0 0 0),(4,.ptr 1 0 0),(5,.ptr 2 0 0),(7,.ptr 5 0 0),(8,.i6 j4),(9,.ptr 7 0 0),(10,.iM aN jM)]) (σ':=⟨(7,.row (aT lP) 78)::GY l27 tQ dL.2 (dV 0) dL.1 jG p1.Nodes p1.Nodes,9⟩) (Gh.trans (Gh.sub (l':=[(2,.ptr 0 0 0),(4,.ptr 1 0 0),(5,.ptr 2 0 0),(7,.ptr 5 0 0),(8,.i6 j4),(9,.ptr 7 0 0),(10,.vl 8 0 0 jM.length)]) ⟨rfl,rfl,rfl,rfl,rfl,rfl,rfl,trivial⟩) (AJ 8 2)) NZ ?_;obtain⟨XE,J⟩:=cC J;refine go ?_;refine bI ?_;refine bI ?_;refine go ?_;exact lC ⟨_,(l27++[(aI.mk lP.Typex jM)]),(tQ+1),J,rfl,rfl⟩;rintro(_|m3) _ _ ⟨vF,lZ,J,rfl,rfl⟩;cases J;unfold PS at J;refine gF J ?_ ?_<;>intro CU J;refine go ?_;apply aP;obtain⟨vH,FN,J⟩:=a9 J;obtain⟨rO,I9,J⟩:=a9 J;obtain⟨yQ,xX,J⟩:=a9 J;refine gn ?_;refine cW (fun tm σ=>tm=fr 88 [(2,.ptr 0 0 0),(4,.ptr 1 0 0),(5,.ptr 2 0 0),(7,.ptr 5 0 0),(8,.i6 j4),(9,.ptr 7 0 0),(10,.vl 8 0 0 ((lZ.set (0+vF.toNat) (aF.mk yQ.Feat rO)).length)),(11,.i6 vF)]/\σ=⟨(8,.bv aN (lZ.set (0+vF.toNat) (aF.mk yQ.Feat rO)) 98 2 0)::(7,.row (aT lP) 78)::GY l27 tQ dL.2 (dV 0) dL.1 jG p1.Nodes p1.Nodes,9⟩) ?_ ?_;rintro _ _ ⟨rfl,rfl⟩;refine go ?_;exact lC ⟨_,(lZ.set (0+vF.toNat) (aF.mk yQ.Feat rO)),J,rfl,rfl⟩;refine dE [] ?_;refine gd ?_;refine aM (u:=.ptr 2 0 0) rfl (eD rfl rfl) ?_;refine gd ?_;refine aM rfl (d7 rfl rfl (fJ aN dF.h (aR iE.h) (by decide) o3 (vo rfl) FN)) ?_;refine aM rfl (i5 sN.h rfl (aR fL.h) rfl (pG rfl) rfl) (aM (u:=.i6 vH.To) rfl (rE aN j9.h rfl o3 rfl rfl (lW FN) rfl) ?_);refine aM rfl (d7 rfl rfl (fJ (cI .i64) eB.h (aR fL.h) (by decide) (jD .i64) (vo rfl) I9)) ?_;refine aM rfl (u7 (cI .i64) (fun x=>.i6 x) j9.h rfl (fun _=>rfl) rfl rfl I9) ?_;refine aM rfl (d7 rfl rfl (fJ aN dF.h (aR iE.h) (by decide) o3 (vo rfl) xX)) ?_;refine aM rfl (i5 sN.h rfl (aR fL.h) rfl (pG rfl) rfl) (RD.actn (u:=.junk) (σ':=⟨(8,.bv aN (lZ.set (0+vF.toNat) (aF.mk yQ.Feat rO)) 98 2 0)::(7,.row (aT lP) 78)::GY l27 tQ dL.2 (dV 0) dL.1 jG p1.Nodes p1.Nodes,9⟩) rfl (Tt (y:=(aF.mk yQ.Feat rO)) aN (aR fL.h) o3 rfl rfl rfl rfl rfl rfl (lW xX) rfl rfl) rfl ?_);refine aZ ⟨by kernel_rfl,trivial,?_⟩;refine go ?_;exact⟨_,_,⟨rfl,rfl⟩,NZ,m7 ⟨rfl,rfl,rfl,rfl,rfl,rfl,(by simp only[V0,GY,List.length_set];rfl),rfl,trivial⟩ rfl⟩;refine go ?_;exact xC ⟨lZ,J,rfl,rfl⟩;refine go ?_;exact xC ⟨l27,tQ,J,rfl,rfl⟩;rintro(_|m1) _ _ ⟨z9,l10,j6,J,rfl,rfl⟩;cases J;unfold W2 at J;refine gF J ?_ ?_<;>intro h63 J;refine go ?_;apply aP;obtain⟨mX,J⟩:=cC J;refine go ?_;refine aJ (u:=.ptr 2 0 0) rfl (eD rfl rfl) ?_;refine go ?_;refine bI ?_;refine bI ?_;refine aJ (u:=.ptr 2 0 0) rfl (eD rfl rfl) ?_;refine go ?_;exact lC ⟨_,(l10++[(-1)]),(j6+1),J,rfl,rfl⟩;refine go ?_;exact xC ⟨l10,j6,J,rfl,rfl⟩
def Ou: Option (Int×Bool):=
 some (0,false)
def VX(p3:Int)(x4:aI):Nat->Int->Option (Int×Bool)
 |0,_=>none|m1+1,cP=>cond (decide (cP<(x4.Arcs.length:Int))) (a7 (a8 x4.Arcs cP) fun fP=>cond (fP.Feat==p3) (a7 (a8 x4.Arcs cP) fun o9=>some (o9.To,true)) ((VX p3 x4 m1) (IntKind.i64.wrap (cP+1)))) (Ou)
def Bg(n:Nat)(p1:aW)(p2:Int)(p3:Int):Option (Int×Bool):=
 a7 (a8 p1.Nodes p2) fun x4=>
 VX p3 x4 n 0
theorem qv1(n:Nat)(p1:aW)(p2:Int)(p3:Int)(r:Int×Bool)(J:Bg n p1 p2 p3=some r):cB prog 105 [.agg [.isl false (p1.Nodes.map aT)],.int .i64 p2,.int .i64 p3] (.tup [.int .i64 r.1,.bool r.2]):=by
 unfold Bg at J;refine wC 34 MK ?_;obtain⟨x4,h5,J⟩:=a9 J;refine go ?_;refine aS h5 ?_;refine go ?_;refine gL (fun m tm σ=>∃cP,VX p3 x4 m cP=some r/\tm=fr 34 [(2,.i6 p3),(8,.iM aN x4.Arcs),(9,.i6 cP)]/\σ=⟨[(0,.row [.iM aT p1.Nodes] 40)],1⟩) (fun tm σ=>Ou=some r/\tm=fr 34 []/\σ=⟨[(0,.row [.iM aT p1.Nodes] 40)],1⟩) n ⟨0,J,rfl,rfl⟩ ?_ ?_;rintro _ _ ⟨J,rfl,rfl⟩;unfold Ou at J;refine go ?_;obtain rfl:=sI J;exact sQ rfl rfl rfl rfl rfl;rintro(_|m1) _ _ ⟨cP,J,rfl,rfl⟩;cases J;unfold VX at J;refine gF J ?_ ?_<;>intro fM J;refine go ?_;apply aP;obtain⟨fP,cM,J⟩:=a9 J;refine go ?_;refine aS cM ?_;refine gF J ?_ ?_<;>intro fD J;obtain⟨o9,lA,J⟩:=a9 J;refine go ?_;refine aS lA ?_;refine go ?_;obtain rfl:=sI J;exact sQ rfl rfl rfl rfl rfl;refine go ?_;exact lC ⟨_,J,rfl,rfl⟩;refine go ?_;exact xC ⟨J,rfl,rfl⟩
end Go.Proofs
namespace Go.Vx
open Go Go.Rx
theorem Xb(K:Nat)(b:B)(sz:Nat):∀(l m:List U),hJ K b sz (l++m)=hJ K b sz l++hJ K b sz m
 |[],m=>by simp[tC]
 |u::l,m=>by rw[List.cons_append,qO,qO,Xb K b sz l m,List.cons_append]
theorem Gh.three{n:Nat}{l:List (Nat×U)}{h:List (Nat×B)}{nx:Nat}{a b c:B}(h2:gt h 2=some c)(h1:gt h 1=some b)(h0:gt h 0=some a)(hn:3<=nx)(hl:aG 3 (fr n l))(ha:kH 3 a)(hb:kH 3 b)(hc:kH 3 c):Gh 0 (fr n l) ⟨h,nx⟩ (fr n l) ⟨[(2,c),(1,b),(0,a)],3⟩:=by
 have key:∀k,gt [(2,c),(1,b),(0,a)] k=gt (Vx.cut 3 h) k:=fun k=>by rw[UF];rcases k with _ |_ |_ |k;simp[d8,h0];simp[d8,h1];simp[d8,h2];simp[d8,gt];omega
 refine(Gh.cutG (σ:=⟨h,nx⟩) (n1:=3) (Nat.zero_le _) hn hl fun k d hd=>?_).trans (Gh.same (σ:=⟨Vx.cut 3 h,3⟩) _ key);rw[<-key]at hd;rcases k with _ |_ |_ |k;simp[d8]at hd;subst hd;exact ha;simp[d8]at hd;subst hd;exact hb;simp[d8]at hd;subst hd;exact hc;have hz:gt [(2,c),(1,b),(0,a)] (k+3)=none:=by rw[d8,if_neg (by omega),d8,if_neg (by omega),d8,if_neg (by omega)];rfl
 have hd':gt [(2,c),(1,b),(0,a)] (k+3)=some d:=hd;rw[hz]at hd';cases hd'
end Go.Vx
namespace Go.Proofs
open Go Go.Rx Go.Vx
structure QN where
 ty:Int
 nm:Nat
 st:Nat
 ar:List aF
def QN.nd(q:QN):aI:=⟨q.ty,q.ar⟩
def cQ(q:QN):List U:=[.int .i64 q.ty,.vl q.nm q.st 0 q.ar.length]
theorem OV(q:QN):(cQ q).length=2:=rfl
instance:eO cQ 2:=⟨OV⟩
structure QI(l:List aI)(qs:List QN)(M st:Nat)(h:List (Nat×B)):Prop where
 el:l=qs.map QN.nd
 g0:gt h 0=some (.row [.nils] 40)
 g1:gt h 1=some (.row [.vl 2 st 0 qs.length] 40)
 g2:gt h 2=some (.bv cQ qs 78 2 st)
 ga:∀q∈qs,gt h q.nm=some (.bv aN q.ar 98 2 q.st)
 lo:∀q∈qs,3<=q.nm/\q.nm<M+3
 nd:(qs.map QN.nm).Nodup
theorem z61(n:Nat)(l:List aF):aG n (l.map aN).flatten:=uT n (fun q=>VC n q) l
theorem Hi(K:Nat)(b:B)(sz:Nat)(l:List aI):hJ K b sz (l.map aT).flatten=(l.map aT).flatten:=oN _ _ _ (uT K (fun q=>H9 K q) l)
theorem LT(K:Nat)(b:B)(sz:Nat):∀(l:List QN),(∀q∈l,q.nm≠K)->hJ K b sz (l.map cQ).flatten=(l.map cQ).flatten
 |[],_=>by simp[tC]
 |q::l,h=>by
  have h1:Nat.beq q.nm K=false:=by rw[beq_eq];simpa using h q (by simp)
  rw[zQ,List.flatten_cons,Xb,LT K b sz l fun x hx=>h x (by simp[hx])];simp only[cQ,qO,tC,zE,nW h1]
theorem xe{n0:Nat}{tm:List U}(hb:aG 3 tm){st N nx:Nat}:∀(qs:List QN)(dn:List aI)(h:List (Nat×B)),
  gt h 2=some (.vec ((dn.map aT).flatten++(qs.map cQ).flatten) 78 2 st)->gt h 1=some (.row [.vl 2 st 0 N] 40)->gt h 0=some (.row [.nils] 40)->
  (∀q∈qs,gt h q.nm=some (.bv aN q.ar 98 2 q.st)/\3<=q.nm)->(qs.map QN.nm).Nodup->
  ∃h',Gh n0 tm ⟨h,nx⟩ tm ⟨h',nx⟩/\gt h' 2=some (.bv aT (dn++qs.map QN.nd) 78 2 st)/\gt h' 1=some (.row [.vl 2 st 0 N] 40)/\gt h' 0=some (.row [.nils] 40)
 |[],dn,h,h2,h1,h0,_,_=>⟨h,Gh.refl _ _ _,by simpa using h2,h1,h0⟩|q::qs,dn,h,h2,h1,h0,hq,hn=>by
  obtain⟨g1,g2⟩:=hq q (by simp);rw[zQ,List.nodup_cons]at hn;have hne:∀x∈qs,x.nm≠q.nm:=fun x hx e=>hn.1 (by rw[<-e];exact List.mem_map_of_mem hx);have hbq:aG q.nm tm:=(xH _ _).2 fun u hu=>aU.le g2 u ((xH _ _).1 hb u hu);have step:Gh n0 tm ⟨h,nx⟩ tm ⟨nM q.nm (.bv aN q.ar 98 2 q.st) 2 h,nx⟩:=Gh.fz q.nm _ 2 g1 nofun (oN _ _ _ hbq) rfl;obtain⟨h',e1,e2,e3,e4⟩:=xe hb (n0:=n0) (nx:=nx) (N:=N) (st:=st) qs (dn++[q.nd]) (nM q.nm (.bv aN q.ar 98 2 q.st) 2 h)
   (by
    rw[UE,if_neg (by omega),h2];simp only[zM,sK,Xb,Hi,zQ,List.flatten_cons,LT _ _ _ qs hne];have:hJ q.nm (.bv aN q.ar 98 2 q.st) 2 (cQ q)=aT q.nd:=by simp only[cQ,qO,tC,zE,XP o3,aT,QN.nd]
    rw[this];simp)
   (by
    rw[UE,if_neg (by omega),h1];have:Nat.beq 2 q.nm=false:=by rw[beq_eq];simp;omega
    simp only[zM,sK,qO,tC,nW this])
   (by rw[UE,if_neg (by omega),h0];simp only[zM,sK,qO,tC,BR])
   (fun x hx=>by obtain⟨k1,k2⟩:=hq x (by simp[hx]);refine⟨?_,k2⟩;rw[UE,if_neg (hne x hx),k1];simp only[zM,sK,oN _ _ _ (z61 _ _)])
   hn.2
  exact⟨h',step.trans e1,by simpa using e2,e3,e4⟩
theorem QI.same{l:List aI}{qs:List QN}{M st nx:Nat}{h:List (Nat×B)}(q:QI l qs M st h)(tm:List U):∃t,Gh 0 tm ⟨h,nx⟩ tm ⟨(2,.bv cQ qs 78 2 st)::(1,.row [.vl 2 st 0 qs.length] 40)::(0,.row [.nils] 40)::t,nx⟩/\QI l qs M st ((2,.bv cQ qs 78 2 st)::(1,.row [.vl 2 st 0 qs.length] 40)::(0,.row [.nils] 40)::t):=by
 have key:∀k,gt ((2,.bv cQ qs 78 2 st)::(1,.row [.vl 2 st 0 qs.length] 40)::(0,.row [.nils] 40)::h) k=gt h k:=fun k=>by simp only[d8];by_cases e2:2=k;subst e2;simp[q.g2];by_cases e1:1=k;subst e1;simp[q.g1];by_cases e0:0=k;subst e0;simp[q.g0];simp[e2,e1,e0]
 refine⟨h,Gh.same (σ:=⟨h,nx⟩) _ key,⟨q.el,?_,?_,?_,fun x hx=>?_,q.lo,q.nd⟩⟩;rw[key];exact q.g0;rw[key];exact q.g1;rw[key];exact q.g2;rw[key];exact q.ga x hx
variable{l:List aI}
variable{qs:List QN}
variable{M:Nat}
theorem QI.more{st:Nat}{h:List (Nat×B)}(q:QI l qs M st h)(b:B):QI l qs (M+1) st ((M+3,b)::h) where
 el:=q.el
 g0:=by rw[d8,if_neg (by omega)];exact q.g0
 g1:=by rw[d8,if_neg (by omega)];exact q.g1
 g2:=by rw[d8,if_neg (by omega)];exact q.g2
 ga:=fun x hx=>by have:=q.lo x hx;rw[d8,if_neg (by omega)];exact q.ga x hx
 lo:=fun x hx=>by have:=q.lo x hx;omega
 nd:=q.nd
theorem QI.viewG{st nx:Nat}{h:List (Nat×B)}(q:QI l qs M st h)(az:List U)(ha:aG 2 az):∃ σ1,Gh 0 (.agg [.vl 2 st 0 qs.length]::az) ⟨h,nx⟩ (.agg [.isl false (l.map aT)]::az) σ1:=by
 have hb:aG 3 (.agg [.vl 2 st 0 qs.length]::az):=by
  refine(xH _ _).2 fun u hu=>?_;rcases zI.1 hu with rfl |hu
  simp[aU,aG];exact aU.le (by omega) u ((xH _ _).1 ha u hu)
 obtain⟨h',e1,e2,e3,e4⟩:=xe (n0:=0) hb (st:=st) (N:=qs.length) (nx:=nx) qs [] h (by simpa using q.g2) q.g1 q.g0 (fun x hx=>⟨q.ga x hx,(q.lo x hx).1⟩) q.nd;rw[List.nil_append,<-q.el]at e2;have hl:qs.length=l.length:=by rw[q.el,yA]
 refine⟨⟨nM 2 (.bv aT l 78 2 st) 2 h',nx⟩,e1.trans (Gh.fz 2 (.bv aT l 78 2 st) 2 e2 nofun ?_ rfl)⟩;rw[qO,oN _ _ _ ha,BO,qO,tC,hl,XP KC]
variable{i:Int}
theorem zae{α β:Type}{f:α->β}{l:List α}{y:β}(h:a8 (l.map f) i=some y):∃x,a8 l i=some x/\f x=y:=by
 obtain⟨h1,h2,h3⟩:=PH h;rw[List.getElem?_map]at h3;rcases e:l[i.toNat]? with _|x;rw[e]at h3;cases h3;rw[e]at h3;refine⟨x,?_,Option.some.inj h3⟩;rw[yA]at h2;rw[a8,if_pos ⟨h1,h2⟩];exact e
theorem ub{α:Type}{l:List α}{y:α}(h:a8 l i=some y):y∈l:=zX (PH h).2.2
variable{t:List (Nat×B)}
theorem Eo{n0:Nat}{tm:List U}{st e:Nat}{y:QN}{a:aF}(he:y.nm=e+3)(hem:e<M)
  (hy:gt ((2,.bv cQ qs 78 2 st)::(1,.row [.vl 2 st 0 qs.length] 40)::(0,.row [.nils] 40)::t) y.nm=some (.bv aN y.ar 98 2 y.st)):
  Gh n0 tm ⟨(M+3,.row (aN a) 98)::(2,.bv cQ qs 78 2 st)::(1,.row [.vl 2 st 0 qs.length] 40)::(0,.row [.nils] 40)::t,M+4⟩ tm
   ⟨(M+3,.row (aN a) 98)::(2,.bv cQ qs 78 2 st)::(1,.row [.vl 2 st 0 qs.length] 40)::(0,.row [.nils] 40)::(e+3,.bv aN y.ar 98 2 y.st)::rg t (e+3),M+4⟩:=by
 refine Gh.same (σ:=⟨_,M+4⟩) _ fun k=>?_;rw[he,d8,if_neg (by omega),d8,if_neg (by omega),d8,if_neg (by omega)]at hy;simp only[d8];split;rfl;split;rfl;split;rfl;split;rfl;split
 ·next h=>rw[<-h,hy]
 ·next h=>rw[LO,if_neg h]
theorem QI.upd{st e:Nat}{y:QN}(q:QI l qs M st ((2,.bv cQ qs 78 2 st)::(1,.row [.vl 2 st 0 qs.length] 40)::(0,.row [.nils] 40)::t))(hy:a8 qs i=some y)(he:y.nm=e+3)(hem:e<M)(a:aF)(z:aF):
  QI (l.set (0+i.toNat) ⟨y.nd.Typex,y.nd.Arcs++[z]⟩) (qs.set (0+i.toNat) ⟨y.ty,e+3,y.st+1,y.ar++[z]⟩) (M+2) st ((M+4,.row [.i6 z.Feat,.i6 z.To] 98)::(M+3,.row (aN a) 98)::(2,.bv cQ (qs.set (0+i.toNat) ⟨y.ty,e+3,y.st+1,y.ar++[z]⟩) 78 2 st)::(1,.row [.vl 2 st 0 qs.length] 40)::(0,.row [.nils] 40)::(e+3,.bv aN (y.ar++[z]) 98 2 (y.st+1))::rg t (e+3)):=by
 obtain⟨h1,h2,h3⟩:=PH hy;have hi:i.toNat<qs.length:=(zG.1 h3).1;have hnm:(qs.set (0+i.toNat) ⟨y.ty,e+3,y.st+1,y.ar++[z]⟩).map QN.nm=qs.map QN.nm:=by
  rw[Nat.zero_add,List.map_set];have:(⟨y.ty,e+3,y.st+1,y.ar++[z]⟩:QN).nm=y.nm:=by rw[he]
  rw[this];have hz:(qs.map QN.nm)[i.toNat]? = some y.nm:=by rw[List.getElem?_map,h3];rfl
  obtain⟨a1,b1⟩:=zG.1 hz;rw[<-b1,List.set_getElem_self]
 have hmem:∀x∈qs.set (0+i.toNat) ⟨y.ty,e+3,y.st+1,y.ar++[z]⟩,x=⟨y.ty,e+3,y.st+1,y.ar++[z]⟩\/(x∈qs/\x.nm≠e+3):=fun x hx=>by
  obtain⟨j,hj⟩:=List.getElem?_of_mem hx;rw[Nat.zero_add,List.getElem?_set]at hj;by_cases hne:i.toNat=j;rw[if_pos hne]at hj;by_cases hlt:i.toNat<qs.length;rw[if_pos hlt]at hj;exact .inl (Option.some.inj hj).symm;rw[if_neg hlt]at hj;cases hj;rw[if_neg hne]at hj;refine .inr ⟨zX hj,fun hc=>hne ?_⟩;have p1:(qs.map QN.nm)[i.toNat]? = some (e+3):=by rw[List.getElem?_map,h3,<-he];rfl
  have p2:(qs.map QN.nm)[j]? = some (e+3):=by rw[List.getElem?_map,hj,<-hc];rfl
  obtain⟨a1,b1⟩:=zG.1 p1;obtain⟨a2,b2⟩:=zG.1 p2;exact(List.getElem_inj (h₀:=a1) (h₁:=a2) q.nd).1 (by rw[b1,b2])
 refine⟨?_,?_,?_,?_,fun x hx=>?_,fun x hx=>?_,by rw[hnm];exact q.nd⟩;rw[List.map_set,q.el];rfl;simp only[d8];rw[if_neg (by omega),if_neg (by omega),if_neg (by omega),if_neg (by omega)];rfl;simp only[d8];rw[if_neg (by omega),if_neg (by omega),if_neg (by omega),List.length_set];rfl;simp only[d8];rw[if_neg (by omega),if_neg (by omega)];rfl;rcases hmem x hx with rfl |⟨hx,hne⟩;simp only[d8];rw[if_neg (by omega),if_neg (by omega),if_neg (by omega),if_neg (by omega),if_neg (by omega)];simp;have l1:=q.lo x hx;have g1:=q.ga x hx;rw[d8,if_neg (by omega),d8,if_neg (by omega),d8,if_neg (by omega)]at g1;simp only[d8];rw[if_neg (by omega),if_neg (by omega),if_neg (by omega),if_neg (by omega),if_neg (by omega),if_neg (by omega),LO,if_neg (by omega)];exact g1;rcases hmem x hx with rfl |⟨hx,hne⟩;show 3<=e+3/\e+3<M+2+3;omega;have l1:=q.lo x hx;omega
instance{a:Int}{k:Nat}:DeC cQ [.int .i64 a,.vl k 0 0 0] ⟨a,k,0,[]⟩:=⟨rfl⟩
theorem nilRow{tm:List U}{x:Int}{H:List (Nat×B)}:Gh (M+4) tm ⟨(M+3,.row [.i6 x,.nils] 78)::H,M+4⟩ tm ⟨(M+4,.vec [] 98 2 0)::(M+3,.row [.i6 x,.vl (M+4) 0 0 0] 78)::H,M+5⟩:=by
 have h1:Nat.beq (M+4) (M+3)=false:=by rw[beq_eq];simp
 have h2:Nat.beq (M+3) (M+3)=true:=by rw[beq_eq];simp
 have:=rN (n0:=M+4) (tm:=tm) (σ:=⟨(M+3,.row [.i6 x,.nils] 78)::H,M+4⟩) (q:=[.i6 x,.nils]) (e0:=78) (M+3) 1 98 2 (by decide) (zF _) (by simp only[gt,h2,zC]) rfl;simp only[cY,ug,h1,h2,zC,zD,List.set]at this;exact this
theorem QI.app{st:Nat}(q:QI l qs M st ((2,.bv cQ qs 78 2 st)::(1,.row [.vl 2 st 0 qs.length] 40)::(0,.row [.nils] 40)::t))(x:Int):
  QI (l++[aI.mk x []]) (qs++[(⟨x,M+4,0,[]⟩:QN)]) (M+2) (st+1) ((M+4,.vec [] 98 2 0)::(M+3,.row [.i6 x,.vl (M+4) 0 0 0] 78)::(2,.bv cQ (qs++[(⟨x,M+4,0,[]⟩:QN)]) 78 2 (st+1))::(1,.row [.vl 2 (st+1) 0 (qs++[(⟨x,M+4,0,[]⟩:QN)]).length] 40)::(0,.row [.nils] 40)::t) where
 el:=by rw[q.el];simp[QN.nd]
 g0:=by simp only[d8];rw[if_neg (by omega),if_neg (by omega),if_neg (by omega),if_neg (by omega)];rfl
 g1:=by simp only[d8];rw[if_neg (by omega),if_neg (by omega),if_neg (by omega)];rfl
 g2:=by simp only[d8];rw[if_neg (by omega),if_neg (by omega)];rfl
 ga:=fun y hy=>by rcases yD.1 hy with hy |hy;have l1:=q.lo y hy;have g1:=q.ga y hy;rw[d8,if_neg (by omega),d8,if_neg (by omega),d8,if_neg (by omega)]at g1;simp only[d8];rw[if_neg (by omega),if_neg (by omega),if_neg (by omega),if_neg (by omega),if_neg (by omega)];exact g1;simp at hy;subst hy;simp[d8]
 lo:=fun y hy=>by rcases yD.1 hy with hy |hy;have l1:=q.lo y hy;omega;simp at hy;subst hy;show 3<=M+4/\M+4<M+2+3;omega
 nd:=by rw[List.map_append,List.nodup_append];refine⟨q.nd,by simp,fun a ha b hb=>?_⟩;obtain⟨y,hy,rfl⟩:=List.mem_map.1 ha;simp at hb;subst hb;have:=q.lo y hy;omega
theorem qi0:QI [] [] 0 0 [(2,.bv cQ ([]:List QN) 78 2 0),(1,.row [.vl 2 0 0 (([]:List QN).length)] 40),(0,.row [.nils] 40)]:=⟨rfl,rfl,rfl,rfl,(fun q hq=>by cases hq),(fun q hq=>by cases hq),List.nodup_nil⟩
end Go.Proofs
namespace Go.Proofs
open Go Go.Rx Go.Vx Tryz
instance:TbP prog Tryz.tb:=⟨tb_ok⟩
set_option maxRecDepth 20000
set_option maxHeartbeats 4000000
set_option synthInstance.maxSize 4000
set_option synthInstance.maxHeartbeats 200000
def Ei(uJ:Int)(OI:Int->(List aI)->Option (aW))(jM:List aI):Option (aW):=
 OI (IntKind.i64.wrap (uJ+1)) jM
def Ro(cV:Int)(gE:Int->(List aI)->Option (aW))(jN:List aI):Option (aW):=
 gE (IntKind.i64.wrap (cV+1)) jN
def KR(p1:List aI)(p2:List Int)(n:Nat)(cV:Int)(gE:Int->(List aI)->Option (aW))(iV:Int):Nat->Int->(List aI)->Option (aW)
 |0,_,_=>none|m3+1,uJ,jO=>
  a7 (a8 p1 cV) fun sk=>cond (decide (uJ<(sk.Arcs.length:Int))) (a7 (a8 p1 cV) fun x47=>
   a7 (a8 x47.Arcs uJ) fun nR=>
   a7 (Bg n (aW.mk jO) iV nR.Feat) fun Vh=>cond (!Vh.2) (a7 (a8 jO iV) fun IY=>
    a7 (a8 p2 nR.To) fun vH=>
    aB ((IY.Arcs.length+1)*16<=140737488355328/\IY.Arcs.length+1<=140737488355328) (
    a7 (a8 jO iV) fun IX=>
    Ei uJ (KR p1 p2 n cV gE iV m3) (jO.set (0+iV.toNat) (aI.mk IX.Typex (IY.Arcs++[(aF.mk nR.Feat vH)]))))) (Ei uJ (KR p1 p2 n cV gE iV m3) jO)) (Ro cV gE jO)
def WO(p2:List Int)(p4:Int)(n:Nat)(m5:List aI):Option (aW):=
 a7 (a8 p2 p4) fun AV=>
 a7 (VE n (aW.mk m5) AV) fun G9=>some G9
def FA(p1:List aI)(p2:List Int)(p4:Int)(n:Nat):Nat->Int->(List aI)->Option (aW)
 |0,_,_=>none|m2+1,cV,l24=>cond (decide (cV<(p1.length:Int))) (a7 (a8 p2 cV) fun iV=>KR p1 p2 n cV (FA p1 p2 p4 n m2) iV n 0 l24) (WO p2 p4 n l24)
def Eh(p1:List aI)(p2:List Int)(p4:Int)(n:Nat)(bY:List aI):Option (aW):=
 FA p1 p2 p4 n n 0 bY
def WN(p1:List aI)(p2:List Int)(p3:List Int)(p4:Int)(n:Nat):Nat->Int->(List aI)->Option (aW)
 |0,_,_=>none|m1+1,d9,bN=>cond (decide (d9<(p1.length:Int))) (a7 (a8 p3 d9) fun E6=>aB ((bN.length+1)*32<=140737488355328/\bN.length+1<=140737488355328) ((WN p1 p2 p3 p4 n m1) (IntKind.i64.wrap (d9+1)) (bN++[(aI.mk E6 [])]))) (Eh p1 p2 p4 n bN)
def De(n:Nat)(p1:List aI)(p2:List Int)(p3:List Int)(p4:Int):Option (aW):=
 WN p1 p2 p3 p4 n n 0 ([]:List aI)
theorem qnf(n:Nat)(p1:List aI)(p2:List Int)(p3:List Int)(p4:Int)(r:aW)(J:De n p1 p2 p3 p4=some r):cB prog 69 [.isl false (p1.map aT),.isl false (p2.map (cI .i64)),.isl false (p3.map (cI .i64)),.int .i64 p4] (.agg [.isl false (r.Nodes.map aT)]):=by
 unfold De at J;refine xn 98 Ia ?_;refine gr ?_;refine gr ?_;refine gr ?_;refine bX (tm':=fr 98 [(0,.iM aT p1),(1,.iM (cI .i64) p2),(2,.iM (cI .i64) p3),(3,.i6 p4),(8,.ptr 0 0 0),(9,.ptr 1 0 0),(10,.i6 0)]) (σ':=⟨[(2,.bv cQ ([]:List QN) 78 2 0),(1,.row [.vl 2 0 0 (([]:List QN).length)] 40),(0,.row [.nils] 40)],3⟩) (Gh.trans (rN 1 0 78 2 (by decide) NZ rfl rfl) (m7 ⟨rfl,rfl,rfl,rfl,rfl,rfl,rfl,trivial⟩ rfl)) NZ ?_;refine gL (fun m tm σ=>∃d9 bN eL,WN p1 p2 p3 p4 n m d9 bN=some r/\tm=fr 98 [(0,.iM aT p1),(1,.iM (cI .i64) p2),(2,.iM (cI .i64) p3),(3,.i6 p4),(8,.ptr 0 0 0),(9,.ptr 1 0 0),(10,.i6 d9)]/\∃qs M h,QI bN qs M eL h/\σ=⟨h,M+3⟩) (fun tm σ=>∃bY dV,Eh p1 p2 p4 n bY=some r/\tm=fr 98 [(0,.iM aT p1),(1,.iM (cI .i64) p2),(3,.i6 p4),(8,.ptr 0 0 0),(9,.ptr 1 0 0)]/\∃qs M h,QI bY qs M dV h/\σ=⟨h,M+3⟩) n ⟨0,([]:List aI),0,J,rfl,[],0,_,qi0,rfl⟩ ?_ ?_;rintro _ _ ⟨bY,dV,J,rfl,qs0,M0,zp,hq0,rfl⟩;unfold Eh at J;refine go ?_;refine gL (fun m tm σ=>∃cV l24,FA p1 p2 p4 n m cV l24=some r/\tm=fr 98 [(0,.iM aT p1),(1,.iM (cI .i64) p2),(3,.i6 p4),(8,.ptr 0 0 0),(9,.ptr 1 0 0),(11,.i6 cV)]/\∃qs M h,QI l24 qs M dV h/\σ=⟨h,M+3⟩) (fun tm σ=>∃m5,WO p2 p4 n m5=some r/\tm=fr 98 [(1,.iM (cI .i64) p2),(3,.i6 p4),(8,.ptr 0 0 0),(9,.ptr 1 0 0)]/\∃qs M h,QI m5 qs M dV h/\σ=⟨h,M+3⟩) n ⟨0,bY,J,rfl,qs0,M0,zp,hq0,rfl⟩ ?_ ?_ NZ;rintro _ _ ⟨m5,J,rfl,qs,M,h,hq,rfl⟩;unfold WO at J;have hbl:FW 3 [(1,.iM (cI .i64) p2),(3,.i6 p4),(8,.ptr 0 0 0),(9,.ptr 1 0 0)]:=BS.h;obtain⟨h',e1,e2,e3,e4⟩:=xe (n0:=0) (Me (n:=98) hbl) (st:=dV) (N:=qs.length) (nx:=M+3) qs [] h (by simpa using hq.g2) hq.g1 hq.g0 (fun q hx=>⟨hq.ga q hx,(hq.lo q hx).1⟩) hq.nd;rw[List.nil_append,<-hq.el]at e2;have hle:qs.length=m5.length:=by rw[hq.el,yA]
 rw[hle]at e3;refine bX (e1.trans (Gh.three e2 e3 e4 (by omega) (Me (n:=98) hbl) (by simp[kH,aG,aU]) (by simp[kH,aG,aU]) (uT 3 (fun q=>H9 3 q) m5))) NZ ?_;refine gn ?_;refine bX (tm':=fr 98 [(1,.iM (cI .i64) p2),(3,.i6 p4),(8,.ptr 0 0 0),(9,.ptr 1 0 0)]) (σ':=⟨[(1,.row [.iM aT m5] 40),(0,.row [.nils] 40)],3⟩) (Gh.trans (Gh.sub (l':=[(1,.iM (cI .i64) p2),(3,.i6 p4),(8,.ptr 0 0 0),(9,.ptr 1 0 0)]) ⟨rfl,rfl,rfl,rfl,trivial⟩) (AJ 2 2)) NZ ?_;obtain⟨AV,qS,J⟩:=a9 J;obtain⟨G9,m6,J⟩:=a9 J;refine go ?_;refine dE [] ?_;refine gd ?_;refine bS qS ?_;refine gd ?_;refine eN rfl (pC (qn4 n (aW.mk m5) AV G9 m6)) DC ?_;refine n8 ?_;refine aZ ⟨by kernel_rfl,trivial,?_⟩;refine go ?_;obtain rfl:=sI J;exact rT (jC (fZ hZ.h rfl (aR lK.h) rfl rfl rfl) (cO)) (pN _ rfl);rintro(_|m2) _ _ ⟨cV,l24,J,rfl,qs,M,h,hq,rfl⟩;cases J;unfold FA at J;refine gF J ?_ ?_<;>intro pL J;refine go ?_;apply aP;obtain⟨iV,kX,J⟩:=a9 J;refine go ?_;refine aS kX ?_;refine go ?_;refine gL (fun m tm σ=>∃uJ jO,KR p1 p2 n cV (FA p1 p2 p4 n m2) iV m uJ jO=some r/\tm=fr 98 [(0,.iM aT p1),(1,.iM (cI .i64) p2),(3,.i6 p4),(8,.ptr 0 0 0),(9,.ptr 1 0 0),(11,.i6 cV),(12,.i6 iV),(13,.i6 uJ)]/\∃qs M h,QI jO qs M dV h/\σ=⟨h,M+3⟩) (fun tm σ=>∃jN,Ro cV (FA p1 p2 p4 n m2) jN=some r/\tm=fr 98 [(0,.iM aT p1),(1,.iM (cI .i64) p2),(3,.i6 p4),(8,.ptr 0 0 0),(9,.ptr 1 0 0),(11,.i6 cV)]/\∃qs M h,QI jN qs M dV h/\σ=⟨h,M+3⟩) n ⟨0,l24,J,rfl,qs,M,h,hq,rfl⟩ ?_ ?_ NZ;rintro _ _ ⟨jN,J,rfl,qs,M,h,hq,rfl⟩;unfold Ro at J;refine go ?_;exact⟨_,_,_,zN _,⟨_,jN,J,rfl,qs,M,h,hq,rfl⟩,NZ,Gh.sub (by((repeat refine⟨rfl,?_⟩);exact trivial))⟩;rintro(_|m3) _ _ ⟨uJ,jO,J,rfl,qs,M,h,hq,rfl⟩;cases J;unfold KR at J;obtain⟨sk,mY,J⟩:=a9 J;refine go ?_;refine aS mY ?_;refine gF J ?_ ?_<;>intro XG J;obtain⟨t,hgt,hq⟩:=hq.same (nx:=M+3) (fr 98 [(0,.iM aT p1),(1,.iM (cI .i64) p2),(3,.i6 p4),(8,.ptr 0 0 0),(9,.ptr 1 0 0),(11,.i6 cV),(12,.i6 iV),(13,.i6 uJ)]);refine bX (Gh.sub (l':=[(0,.iM aT p1),(1,.iM (cI .i64) p2),(3,.i6 p4),(8,.ptr 0 0 0),(9,.ptr 1 0 0),(11,.i6 cV),(12,.i6 iV),(13,.i6 uJ)]) (by((repeat refine⟨rfl,?_⟩);exact trivial))) NZ ?_;refine bX hgt NZ ?_
 haveI:qC (M+3) (M+4):=⟨rfl⟩
 haveI:qC (M+4) (M+5):=⟨rfl⟩
 haveI:Nq (M+1) M:=⟨by rw[beq_eq];simp⟩
 refine go ?_;apply aP;obtain⟨x47,CV,J⟩:=a9 J;obtain⟨nR,LN,J⟩:=a9 J;refine go ?_;refine aS CV ?_;refine go ?_;refine aS LN ?_;obtain⟨Vh,xY,J⟩:=a9 J;refine go ?_;have hq3:QI jO qs (M+1) dV ((M+3,.row (aN nR) 98)::(2,.bv cQ qs 78 2 dV)::(1,.row [.vl 2 dV 0 qs.length] 40)::(0,.row [.nils] 40)::t):=hq.more (.row (aN nR) 98);obtain⟨σv,hgv⟩:=hq3.viewG (nx:=M+4) [.i6 iV,.i6 nR.Feat] (by simp[aG,aU]);refine aK rfl (aY.viewT (qv1 n (aW.mk jO) iV nR.Feat Vh xY) dQ.h (by simp only[toV,dK,okL,okC,zC]<;>rfl) (fun m=>by simp[aD,aE]) hgv) MK ?_;refine gr ?_;refine cW (fun tm σ=>∃jM,Ei uJ (KR p1 p2 n cV (FA p1 p2 p4 n m2) iV m3) jM=some r/\tm=fr 98 [(0,.iM aT p1),(1,.iM (cI .i64) p2),(3,.i6 p4),(8,.ptr 0 0 0),(9,.ptr 1 0 0),(11,.i6 cV),(12,.i6 iV),(13,.i6 uJ)]/\∃qs M h,QI jM qs M dV h/\σ=⟨h,M+3⟩) ?_ ?_;rintro _ _ ⟨jM,J,rfl,qs,M,h,hq,rfl⟩;unfold Ei at J;refine go ?_;exact⟨_,_,_,zN _,⟨_,jM,J,rfl,qs,M,h,hq,rfl⟩,NZ,Gh.sub (by((repeat refine⟨rfl,?_⟩);exact trivial))⟩;refine cF J ?_ ?_<;>intro Te J;obtain⟨IY,CU,J⟩:=a9 J;obtain⟨vH,FN,J⟩:=a9 J;obtain⟨Gx,J⟩:=cC J;obtain⟨IX,wn,J⟩:=a9 J;have hxx:=CU.symm.trans wn;cases hxx;rw[hq.el]at CU;obtain⟨y,hy,rfl⟩:=zae CU;obtain⟨e,he,hem⟩:∃e,y.nm=e+3/\e<M:=by have:=hq.lo y (ub hy);exact⟨y.nm-3,by omega,by omega⟩
 haveI:Nq (M+1) e:=⟨by rw[beq_eq];simp;omega⟩
 haveI:Nq M e:=⟨by rw[beq_eq];simp;omega⟩
 have hya:=hq.ga y (ub hy);refine bX (Eo (a:=nR) he hem hya) NZ ?_;rw[show y.nd.Arcs=y.ar from rfl]at Gx;refine gn ?_;refine cW (fun tm σ=>tm=fr 98 [(0,.iM aT p1),(1,.iM (cI .i64) p2),(3,.i6 p4),(8,.ptr 0 0 0),(9,.ptr 1 0 0),(11,.i6 cV),(12,.i6 iV),(13,.i6 uJ)]/\σ=⟨(M+4,.row [.i6 nR.Feat,.i6 vH] 98)::(M+3,.row (aN nR) 98)::(2,.bv cQ (qs.set (0+iV.toNat) ⟨y.ty,e+3,y.st+1,y.ar++[aF.mk nR.Feat vH]⟩) 78 2 dV)::(1,.row [.vl 2 dV 0 qs.length] 40)::(0,.row [.nils] 40)::(e+3,.bv aN (y.ar++[aF.mk nR.Feat vH]) 98 2 (y.st+1))::rg t (e+3),M+5⟩) ?_ ?_;rintro _ _ ⟨rfl,rfl⟩;refine go ?_;refine⟨_,_,⟨_,J,rfl,_,M+2,_,hq.upd hy he hem nR ⟨nR.Feat,vH⟩,rfl⟩,NZ,Gh.sub (by((repeat refine⟨rfl,?_⟩);exact trivial))⟩;refine dE [(0,17),(0,18),(1,17),(1,18),(2,17),(2,18),(3,17),(4,17),(5,17),(6,17),(7,17),(8,17)] ?_;refine gd ?_;refine aM rfl (d7 rfl rfl (fJ cQ gP.h (aR jP.h) (by decide) OV (vo rfl) hy)) ?_;refine aM rfl (i5 qW.h rfl (aR i7.h) rfl (pG rfl) rfl) ?_;refine aM (u:=.vl (e+3) y.st 0 y.ar.length) rfl (rE cQ dF.h rfl OV rfl rfl (lW hy) (by rw[<-he];rfl)) ?_;refine gd ?_;refine bS FN ?_;refine gd ?_;refine dA ?_;refine dA ?_;refine aM rfl (d7 rfl rfl (fJ cQ gP.h (aR jP.h) (by decide) OV (vo rfl) hy)) ?_;refine aM rfl (i5 qW.h rfl (aR i7.h) rfl (pG rfl) rfl) (RD.actn (u:=.junk) (σ':=⟨(M+4,.row [.i6 nR.Feat,.i6 vH] 98)::(M+3,.row (aN nR) 98)::(2,.bv cQ (qs.set (0+iV.toNat) ⟨y.ty,e+3,y.st+1,y.ar++[aF.mk nR.Feat vH]⟩) 78 2 dV)::(1,.row [.vl 2 dV 0 qs.length] 40)::(0,.row [.nils] 40)::(e+3,.bv aN (y.ar++[aF.mk nR.Feat vH]) 98 2 (y.st+1))::rg t (e+3),M+5⟩) rfl (Tt (y:=(⟨y.ty,e+3,y.st+1,y.ar++[aF.mk nR.Feat vH]⟩:QN)) cQ (aR i7.h) OV rfl rfl rfl rfl rfl rfl (lW hy) rfl rfl) rfl ?_);refine aZ ⟨by kernel_rfl,⟨i5 hZ.h rfl (aR xU.h) rfl rfl rfl,⟨i5 hZ.h rfl (aR xU.h) rfl rfl rfl,⟨lV gP.h rfl rfl rfl rfl,⟨lV gP.h rfl rfl rfl rfl,⟨g8 rfl,⟨g8 rfl,⟨i5 hZ.h rfl (aR xU.h) rfl rfl rfl,⟨lV gP.h rfl rfl rfl rfl,⟨g8 rfl,⟨d7 rfl rfl (fJ cQ gP.h (aR jP.h) (by decide) OV (vo rfl) hy),⟨i5 qW.h rfl (aR i7.h) rfl (pG rfl) rfl,⟨rE cQ dF.h rfl OV rfl rfl (lW hy) (by rw[<-he];rfl),trivial⟩⟩⟩⟩⟩⟩⟩⟩⟩⟩⟩⟩,?_⟩;refine go ?_;exact⟨_,_,⟨rfl,rfl⟩,NZ,Gh.sub (by((repeat refine⟨rfl,?_⟩);exact trivial))⟩;refine go ?_;exact⟨_,_,⟨jO,J,rfl,qs,M+1,_,hq3,rfl⟩,NZ,Gh.sub (by((repeat refine⟨rfl,?_⟩);exact trivial))⟩;refine go ?_;exact⟨_,_,⟨jO,J,rfl,qs,M,h,hq,rfl⟩,NZ,Gh.sub (by((repeat refine⟨rfl,?_⟩);exact trivial))⟩;refine go ?_;exact⟨_,_,⟨l24,J,rfl,qs,M,h,hq,rfl⟩,NZ,Gh.sub (by((repeat refine⟨rfl,?_⟩);exact trivial))⟩;rintro(_|m1) _ _ ⟨d9,bN,eL,J,rfl,qs,M,h,hq,rfl⟩;cases J;unfold WN at J;refine gF J ?_ ?_<;>intro xX J;obtain⟨t,hgt,hq⟩:=hq.same (nx:=M+3) (fr 98 [(0,.iM aT p1),(1,.iM (cI .i64) p2),(2,.iM (cI .i64) p3),(3,.i6 p4),(8,.ptr 0 0 0),(9,.ptr 1 0 0),(10,.i6 d9)]);refine bX (Gh.sub (l':=[(0,.iM aT p1),(1,.iM (cI .i64) p2),(2,.iM (cI .i64) p3),(3,.i6 p4),(8,.ptr 0 0 0),(9,.ptr 1 0 0),(10,.i6 d9)]) (by((repeat refine⟨rfl,?_⟩);exact trivial))) NZ ?_;refine bX hgt NZ ?_
 haveI:qC (M+3) (M+4):=⟨rfl⟩
 haveI:Nq (M+1) M:=⟨by rw[beq_eq];simp⟩
 refine go ?_;apply aP;obtain⟨E6,mX,J⟩:=a9 J;obtain⟨Gw,J⟩:=cC J;rw[show bN.length=qs.length by rw[hq.el,yA]]at Gw;refine go ?_;refine dE [(0,7),(1,7)] ?_;refine gd ?_;refine bS mX ?_;refine gd ?_;refine RD.fz (u1:=.sl (M+3) 0 1 1) (u:=.sl (M+3) 0 1 1) (s1:=⟨(M+3,.row [.i6 E6,.nils] 78)::(2,.bv cQ qs 78 2 eL)::(1,.row [.vl 2 eL 0 qs.length] 40)::(0,.row [.nils] 40)::t,M+4⟩) rfl Go.Vx.opz nilRow (by show M+4<=M+5;omega) rfl rfl ?_;refine dA ?_;refine gd ?_;refine n8 ?_;refine aZ ⟨by kernel_rfl,⟨i5 hZ.h rfl (aR xU.h) rfl rfl rfl,⟨lV gP.h rfl rfl rfl rfl,trivial⟩⟩,?_⟩;refine go ?_;exact⟨_,_,_,zN _,⟨_,(bN++[(aI.mk E6 [])]),(eL+1),J,rfl,_,M+2,_,hq.app E6,rfl⟩,NZ,Gh.sub (by((repeat refine⟨rfl,?_⟩);exact trivial))⟩;refine go ?_;exact⟨_,_,⟨bN,eL,J,rfl,qs,M,h,hq,rfl⟩,NZ,Gh.sub (by((repeat refine⟨rfl,?_⟩);exact trivial))⟩
end Go.Proofs
namespace Go.Proofs
open Go Go.Rx Go.Vx Tryz
set_option maxRecDepth 20000
def Rs(n:Nat)(p1:Int)(p2:List aF)(p4:Int)(p5:Int):Option ((List aF)):=
 aB ((0:Int)<=p1/\p1<=((p2.length:Nat):Int)) (cond (1==0) (some p2) (cond (p1==(p2.length:Int)) (aB ((p2.length+1)*16<=140737488355328/\p2.length+1<=140737488355328) (some (p2++[(aF.mk p4 p5)]))) (none)))
theorem qiz(n:Nat)(p1:Int)(p2:List aF)(p4:Int)(p5:Int)(r:(List aF))(J:Rs n p1 p2 p4 p5=some r):∀t3:Nat,aY prog 77 [.vl 0 t3 0 p2.length,.int .i64 p1,.sl 1 0 1 1] ⟨[(0,.bv aN p2 98 2 t3),(1,.row [.int .i64 p4,.int .i64 p5] 98)],2⟩ (fun u σ'=>∃t:Nat->Nat,u=.vl 0 (t 0) 0 r.length/\σ'=⟨[(0,.bv aN r 98 2 (t 0)),(1,.row [.int .i64 p4,.int .i64 p5] 98)],2⟩):=by
 unfold Rs at J;intro t3;refine wC 95 Ht ?_;obtain⟨h6,J⟩:=cC J;refine go ?_;refine aJ (u:=.vl 0 t3 (0+p1.toNat) (p2.length-p1.toNat)) rfl (u9 rfl (tS rfl) jS jS (GD aN dF.h (aR iE.h) o3 (vo rfl) (Nat.le_of_eq (Nat.zero_add _)) (Lq h6.1 h6.2))) ?_;refine go ?_;refine aJ (u:=.i6 1) rfl (JS rfl rfl rfl (by simp only[lenU,bH,gt,Nat.beq,zC,zD,B.st,dF.h]<;>rfl)) ?_;refine gF J ?_ ?_<;>intro h7 J;refine go ?_;obtain rfl:=sI J;exact⟨.inr rfl,[.vl 0 t3 0 p2.length],d6 rfl (cO),.vl 0 t3 0 p2.length,⟨[(0,.bv aN p2 98 2 t3),(1,.row [.i6 p4,.i6 p5] 98)],2⟩,NL,Gh.to (n1:=2) [] rfl rfl NL NL dQ.h BH.h,stF [t3],rfl,rfl⟩;refine gF J ?_ ?_<;>intro h8 J;obtain⟨h9,J⟩:=cC J;refine go ?_;refine bI ?_;refine go ?_;obtain rfl:=sI J;exact⟨.inr rfl,[.vl 0 (t3+1) 0 ((p2++[(aF.mk p4 p5)]).length)],d6 rfl (cO),.vl 0 (t3+1) 0 ((p2++[(aF.mk p4 p5)]).length),⟨[(0,.bv aN (p2++[(aF.mk p4 p5)]) 98 2 (t3+1)),(1,.row [.i6 p4,.i6 p5] 98)],2⟩,NL,Gh.to (n1:=2) [] rfl rfl NL NL dQ.h BH.h,stF [(t3+1)],rfl,rfl⟩;refine gn ?_;cases J
end Go.Proofs
