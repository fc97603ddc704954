import Derived.WalkKit
import Derived.Sort.Grow
import Derived.Test.YtldlchbgolpkaaaGreatP21
set_option linter.all false
namespace Go.Proofs
open Go Go.Rx Go.Vx Go.Shelf Go.RowKit Go.Sort Tryz
set_option maxRecDepth 100000
def oo(n:Nat)(x:Int):M Int:=cond (x==0) (some 0) none
theorem qp6(n:Nat)(p1:Int)(r:Int)(J:oo n p1=some r)(X:Sg):b7 prog 143 [.int .u64 p1] X (fun u X'=>u=.int .i64 r/\X'=X):=by unfold oo at J;rcases hp:(p1==0)with _|_;rw[hp]at J;cases J;rw[hp]at J;simp at J hp;subst J;subst hp;refine b7.of_same (vs:=[.int .u64 0]) (cv:=.int .i64 0) rfl (fun m=>by simp[aE,ren]) rfl (fun m=>by simp[ren]) (fun w=>?_) X;have h:=Any.bits_Len (SlLaysF0.n15.bits (P:=prog) (ρ:=Tryz.sortJ_ren) { Tryz.sortJ with }) 0 w (by omega) (by omega);exact h
theorem zd6(x:Int)(w:PL):Calls prog 144 #[.int .i64 x] w fun e w'=>e=.returned (.bool false)/\w'=w:=by
 go_enter Tryz.func144,Tryz.ntmps144
 go_wp2
 go_ret
 simp
def LA(x y:Int):Int:=if x<y then -1 else if x>y then 1 else 0
theorem Zc(x y:Int)(w:PL):Calls prog 115 #[.int .i64 x,.int .i64 y] w fun e w'=>e=.returned (.int .i64 (LA x y))/\w'=w:=by
 go_enter Tryz.func115,Tryz.ntmps115
 go_wp2_with (go_at_call 144;refine(zd6 _ _).mono ?_;rintro e w' ⟨rfl,rfl⟩)
 all_goals go_ret
 all_goals (refine⟨?_,rfl⟩;unfold LA;simp_all)
 all_goals (rw[if_neg (by omega),if_neg (by omega)])
theorem Zj(a b c d:Int)(w:PL):Calls prog 88 #[.agg #[.int .i64 a,.int .i64 b],.agg #[.int .i64 c,.int .i64 d]] w fun e w'=>e=.returned (.int .i64 (LA a c))/\∃q os,w'=grow (w.drewN q) os:=by
 go_enter Tryz.func88,Tryz.ntmps88
 go_wp2_with (go_at_call 115;refine(Zc _ _ _).mono ?_;rintro e w' ⟨rfl,rfl⟩)
 all_goals go_ret
 refine⟨rfl,0,#[.cells #[.int .i64 a,.int .i64 b] 98,.cells #[.int .i64 c,.int .i64 d] 98],?_⟩;cases w with
 |mk heap tape drawn os output=>
  have e:∀A B:Obj,(heap.push A).push B=heap++ #[A,B]:=fun A B=>by apply Array.ext';simp
  exact congrArg (fun h=>(⟨h,tape,drawn,os,output⟩:PL)) (e _ _)
theorem zcp{n:Nat}{a b:aG}{r:Int}(h:MS n a b=some r):r=LA a.Feat b.Feat:=by
 have e1:(a.Feat != a.Feat)=false:=by simp
 have e2:(b.Feat != b.Feat)=false:=by simp
 simp only[MS,Rj,Qi,aP,e1,e2,zD]at h;unfold LA;by_cases h1:a.Feat<b.Feat;simp[h1]at h;simp[h1,h];by_cases h2:a.Feat>b.Feat;simp[h1,h2]at h;simp[h1,h2,h];simp[h1,h2]at h;simp[h1,h2,h]
theorem Zk{n:Nat}{a b:aG}{r:Int}(h:MS n a b=some r):VO prog 88 [.agg (aL a),.agg (aL b)] r:=by rw[zcp h];exact VO.ofW (vs:=[.agg #[.int .i64 a.Feat,.int .i64 a.To],.agg #[.int .i64 b.Feat,.int .i64 b.To]]) rfl (fun m=>by simp[aE,ren,wW]) (fun w=>Zj _ _ _ _ w)
end Go.Proofs
namespace Go.Proofs
open Go Go.Rx Go.Vx Tryz
instance:TbP prog tb:=⟨tb_ok⟩
set_option maxRecDepth 20000
set_option maxHeartbeats 4000000
set_option synthInstance.maxSize 4000
set_option synthInstance.maxHeartbeats 200000
def q1w: M (Unit):=
 some ()
def v?: Nat->M (Unit)
 |0=>none|m1+1=>q1w
def u?(f3:aG->aG->M (Int))(n:Nat): M (Unit):=
 v? n
theorem q7g(f3:aG->aG->M (Int))(hf3:∀(a0:aG)(a1:aG)(r:Int),f3 a0 a1=some r->b7 prog 88 [.agg (aL a0),.agg (aL a1)] ⟨[],0⟩ (fun u _=>u=.int .i64 r/\bA 0 u))(n:Nat)(r:Unit)(J:u? f3 n  = some r):cV prog 155 [.isl false (List.map aL ([]:V aG)),.int .i64 0,.int .i64 0,.fn (.func 88) [] []] (.tup []):=by unfold u? at J;have hf3S:∀(a0:aG)(a1:aG)(r:Int),f3 a0 a1=some r->∀X,b7 prog 88 [.agg (aL a0),.agg (aL a1)] X (fun u X'=>u=.i6 r/\X'=X):=fun a0 a1 r h X=>Ec (hf3 a0 a1 r h) X;refine gk 53 UC ?_;apply(go);refine gL (fun m tm X=>v? m=some r/\tm=fr 53 [(0,.iM aL ([]:V aG)),(1,.i6 0),(2,.i6 0),(3,.fn (.func 88) [] []),(8,.i6 1)]/\X=⟨[],0⟩) (fun tm X=>q1w=some r/\tm=fr 53 []/\X=⟨[],0⟩) n ⟨J,rfl,rfl⟩ ?_ ?_;rintro _ _ ⟨J,rfl,rfl⟩;apply(go);obtain rfl:=sI J;exact⟨.inl rfl,[],d9,.tup [],⟨[],0⟩,zF _,pU (.tup []) rfl,rfl,BU.h⟩;rintro(_|m1) _ _ ⟨J,rfl,rfl⟩;cases J;unfold v? at J;apply(go);refine wK (t:=false) rfl (fun hc=>by cases hc) (fun _=>?_);apply(go);exact xC ⟨J,rfl,rfl⟩
def q2g(f4:aG->aG->M (Int))(n:Nat):Nat->M (Unit)
 |0=>none|m1+1=>a8 (u? f4 n) fun r2=>some ()
def t?(f4:aG->aG->M (Int))(n:Nat)(p1:Int):M (Unit):=
 q2g f4 n n
theorem q9p(f4:aG->aG->M (Int))(hf4:∀(a0:aG)(a1:aG)(r:Int),f4 a0 a1=some r->b7 prog 88 [.agg (aL a0),.agg (aL a1)] ⟨[],0⟩ (fun u _=>u=.int .i64 r/\bA 0 u))(n:Nat)(p1:Int)(r:Unit)(J:t? f4 n p1=some r):cV prog 142 [.isl false (List.map aL ([]:V aG)),.int .i64 0,.int .i64 0,.int .i64 p1,.fn (.func 88) [] []] (.tup []):=by unfold t? at J;have hf4S:∀(a0:aG)(a1:aG)(r:Int),f4 a0 a1=some r->∀X,b7 prog 88 [.agg (aL a0),.agg (aL a1)] X (fun u X'=>u=.i6 r/\X'=X):=fun a0 a1 r h X=>Ec (hf4 a0 a1 r h) X;refine bg5 148 UK ?_;apply(go);refine gL (fun m tm X=>q2g f4 n m=some r/\tm=fr 148 [(0,.iM aL ([]:V aG)),(1,.i6 0),(2,.i6 0),(3,.i6 p1),(4,.fn (.func 88) [] []),(10,.bool true),(11,.bool true)]/\X=⟨[],0⟩) (fun _ _=>False) n ⟨J,rfl,rfl⟩ ?_ ?_;rintro _ _ h;exact h.elim;rintro(_|m1) _ _ ⟨J,rfl,rfl⟩;cases J;apply(go);apply aU;apply(go);refine wK (t:=true) rfl (fun _=>?_) (fun hc=>by cases hc);obtain⟨r2,h3,J⟩:=aN J;apply(go);refine aR rfl (pC (q7g f4 hf4 n r2 h3) _) UC ?_;apply(go);obtain rfl:=sI J;exact⟨.inr rfl,[],d9,.tup [],⟨[],0⟩,zF _,pU (.tup []) rfl,rfl,BU.h⟩
def q7n(f1:aG->aG->M (Int))(n:Nat): M (Unit):=
 a8 (oo n 0) fun r1=>
 a8 (t? f1 n r1) fun r3=>some ()
theorem qcm(f1:aG->aG->M (Int))(po:∀(a0:aG)(a1:aG)(r:Int),f1 a0 a1=some r->b7 prog 88 [.agg (aL a0),.agg (aL a1)] ⟨[],0⟩ (fun u _=>u=.int .i64 r/\bA 0 u))(n:Nat)(r:Unit)(J:q7n f1 n  = some r):cV prog 113 [.isl false (List.map aL ([]:V aG)),.fn (.func 88) [] []] (.tup []):=by have Vs:∀(a0:aG)(a1:aG)(r:Int),f1 a0 a1=some r->∀X,b7 prog 88 [.agg (aL a0),.agg (aL a1)] X (fun u X'=>u=.i6 r/\X'=X):=fun a0 a1 r h X=>Ec (po a0 a1 r h) X;refine fQ 14 UZ ?_;obtain⟨r1,h2,r3,h4,J⟩:=bS J;apply(go);refine aO (u:=.int .u64 0) rfl (Nd rfl rfl (by simp only[convX,kC.h,yF.h]<;>rfl) rfl) ?_;refine aR rfl (qp6 n 0 r1 h2 _) Yt ?_;apply(go);refine aR rfl (pC (q9p f1 po n r1 r3 h4) _) UK ?_;apply(go);obtain rfl:=sI J;exact⟨.inl rfl,[],d9,.tup [],⟨[],0⟩,zF _,pU (.tup []) rfl,rfl,BU.h⟩
end Go.Proofs
namespace Go.Proofs
open Go Go.Rx Go.Vx Go.Shelf Go.Sort Tryz
set_option maxRecDepth 10000
theorem WX:ei prog 113 88 2:=fun v11 _ enc cf hk h1 hO cb blk off cap d w hc hH hb hs=>
 AnyQ.slices_SortFunc Tryz.sortJ 2 Tryz.isAgg98 Tryz.sizeOf98 enc hk h1 cf hO 88 cb blk off cap d w (enters_of Tryz.func88 (by kernel_rfl) rfl) hc hH hb hs
def Js(a b:aG):D1:=a.Feat==b.Feat&&a.To==b.To
theorem Cq(a b:aG)(h:Js a b=true):a=b:=by cases a;cases b;simpa[Js]using h
theorem zao:b7 prog 113 [.isl false [],.fn (.func 88) [] []] ⟨[],0⟩ (fun u _=>u=.tup []/\bA 0 u):=
 qcm (fun _ _=>none) (fun a0 a1 r h=>by cases h) 1 () rfl
theorem zdz{n:Nat}(_hcmp:∀a b r,MS n a b=some r->b7 prog 88 [.agg (aL a),.agg (aL b)] ⟨[],0⟩ (fun u _=>u=.int .i64 r/\bA 0 u))
  (xs ys:V aG) (h:R2 Js (fun a b=>MS n a b) xs=some ys) (X:Sg) {K t:Nat} {e:TypeId} (hK:Nat.blt K X.nx=true) (hg:gt X.h K=some (.vec (xs.map aL).flatten e 2 t)):
  b7 prog 113 [.vl K t 0 xs.length,.fn (.func 88) [] []] X (fun u X'=>u=.tup []/\X'=⟨ug X.h K (.vec (ys.map aL).flatten e 2 t),X.nx⟩):=
 zam (encU:=aL) (cs:=[]) mT (by decide) (fun _=>rfl) (fun a=>Y8 0 a) trivial WX Cq zao (fun a b r h=>Zk h) xs ys h X hK hg
end Go.Proofs
namespace Go.Proofs
open Go Go.Rx Go.Vx Tryz
instance:TbP prog tb:=⟨tb_ok⟩
set_option maxRecDepth 20000
set_option maxHeartbeats 4000000
set_option synthInstance.maxSize 4000
set_option synthInstance.maxHeartbeats 200000
abbrev MK(a:B)(b)(c:Nat)(d:B)(e):=([(7,a),(6,.bv (cI .i64) b 3 1 c),(5,.row [.fn (.func 85) [] [.ptr 4 0 0,.ptr 3 0 0,.ptr 0 0 0,.ptr 5 0 0]] 99),(4,.row [.vl 6 c 0 b.length] 34),(3,.row [.map 2] 118),(2,d),(1,.row [.nils] 40),(0,.row [.iM aW e] 40)]:V (Nat×B))
abbrev Y7(a:Nat)(b)(c)(d:B):=([(0,.row [.vl 4 a 0 c.length] 34),(1,.row [.map 5] 118),(2,.row [.iM aW b] 40),(3,.row [.fn (.func 85) [] [.ptr 0 0 0,.ptr 1 0 0,.ptr 2 0 0,.ptr 3 0 0]] 99),(4,.bv (cI .i64) c 3 1 a),(5,d)]:V (Nat×B))
abbrev ie(a):=([(2,.map (List.map (mE (fun x=>.i6 x) (fun x=>.i6 x)) (yM:eI Int Int).es) (yM:eI Int Int).cl),(1,.row [.nils] 40),(0,.row [.iM aW a] 40)]:V (Nat×B))
abbrev jn(a)(b:Nat):=([(1,.bv aL a 98 2 b),(0,.row [.vl 1 b 0 a.length] 76)]:V (Nat×B))
def sd(z7:Int)(l8:V aG)(iW:Int->(V aG)->M ((V aG)))(uT:aG): M ((V aG)):=
 iW (IntKind.i64.wrap (z7+1)) (l8++[uT])
def s?  (l10:V aG):M ((V aG)):=
 some l10
def Il(p1:V aG):Nat->Int->(V aG)->M ((V aG))
 |0,_,_=>none|m2+1,z7,l8=>
  cond (decide (z7<(p1.length:Int))) (a8 (aC p1 z7) fun uT=>
   aH ((l8.length+1)*16<=140737488355328/\l8.length+1<=140737488355328) (
   sd z7 l8 (Il p1 m2) uT)) (s? l8)
def sa(n:Nat)(p1:V aG):M ((V aG)):=
 Il p1 n 0 ([]:V aG)
theorem qgh(n:Nat)(p1:V aG)(r:(V aG))(J:sa n p1=some r):b7 prog 141 [.nils,.fn (.func 114) [] [.iptr [.isl false (p1.map aL)]]] ⟨[],0⟩ (fun u X'=>∃t:Nat->Nat,u=.vl 1 (t 0) 0 r.length/\X'=⟨[(1,.bv aL r 98 2 (t 0))],2⟩):=by unfold sa at J;refine b7.of_bodyM tb_ok UL rfl ?_;refine c9 (tm':=fr 13 [(0,.nils),(1,.fn (.func 114) [] [.iptr [.iM aL p1]])]) (HY NL) (zF _) ?_;apply(go);apply aU;apply(gn);refine gS (l':=[(2,_),(6,_)]) ?_;refine WPU.range tb_ok rfl (fun _ h=>h) (eY rfl) Yw rfl rfl ?_;intro K? fn1 tp1 v13;refine c9 (tm':=fr 16 [(0,.fn (.yield K?) [] []),(1,.iptr [.iM aL p1])]) (HY NL) (zF _) ?_;apply(gr);refine c9 (tm':=fr 16 [(0,.fn (.yield K?) [] []),(5,.iM aL p1),(6,.i6 (p1.length:Int)),(7,.i6 0)]) (X':=⟨[(1,.bv aL ([]:V aG) 98 2 0),(0,.row [.vl 1 0 0 (([]:V aG).length)] 76)],2⟩) (Gh.trans (vP 0 0 98 2 (by decide) NL rfl rfl) (mX ⟨rfl,rfl,rfl,rfl,trivial⟩ rfl)) NL ?_;refine gL (fun m tm X=>∃z7 l8 t9,Il p1 m z7 l8=some r/\tm=fr 16 [(0,.fn (.yield K?) [] []),(5,.iM aL p1),(6,.i6 (p1.length:Int)),(7,.i6 z7)]/\X=⟨jn l8 t9,2⟩) (fun tm X=>∃l10 jH,s? l10=some r/\tm=fr 16 []/\X=⟨jn l10 jH,2⟩) n ⟨0,([]:V aG),0,J,rfl,rfl⟩ ?_ ?_;rintro _ _ ⟨l10,jH,J,rfl,rfl⟩;apply(gn);refine⟨.inl rfl,?_⟩;apply(go);obtain rfl:=sI J;exact⟨.inr rfl,[.vl 1 jH 0 l10.length],dS rfl (d9),.vl 1 jH 0 l10.length,⟨[(1,.bv aL l10 98 2 jH)],2⟩,NL,Gh.trans (LP (fun k=>DA [1] k)) (Gh.to (n1:=2) [] rfl rfl NL NL eQ.h BH.h),stF [jH],rfl,rfl⟩;rintro(_|m2) _ _ ⟨z7,l8,t9,J,rfl,rfl⟩;cases J;refine gF J ?_ ?_<;>intro dK J;apply(go);apply aU;obtain⟨uT,i4,J⟩:=aN J;apply(go);refine aY i4 ?_;apply(go);refine RS.yield (tmx:=fr 13 [(2,.ptr 0 0 0),(6,.fn (.func 114) [] [.iptr [.iM aL p1]]),(7,.agg (aL uT))]) rfl rfl rfl rfl rfl rfl rfl rfl (Lz rfl) rfl rfl ?_;apply(gr);refine dJ (fun tm X=>sd z7 l8 (Il p1 m2) uT=some r/\tm=fr 13 []/\X=⟨(2,.row (aL uT) 98)::jn (l8++[uT]) (t9+1),3⟩) ?_ ?_;rintro _ _ ⟨J,rfl,rfl⟩;unfold sd at J;refine⟨rfl,?_⟩;apply(go);refine wK (t:=false) rfl (fun hc=>by cases hc) (fun _=>?_);apply(go);exact lC ⟨_,(l8++[uT]),(t9+1),J,rfl,rfl⟩;apply(go);apply aU;obtain⟨eM,J⟩:=d7 J;apply(go);refine aO (u:=.sl 4 0 1 1) (X':=⟨(4,.row (aL uT) 98)::(3,.row (aL uT) 98)::(2,.row (aL uT) 98)::jn l8 t9,5⟩) rfl (tH dW.h iO.h rfl rfl rfl rfl rfl rfl rfl) ?_;refine bN ?_;apply(go);exact xC ⟨J,rfl,rfl⟩;apply(go);exact xC ⟨l8,t9,J,rfl,rfl⟩
def m?(n:Nat)(p1:V aG):M ((V aG)):=
 a8 (sa n p1) fun r2=>some r2
theorem qif(n:Nat)(p1:V aG)(r:(V aG))(J:m? n p1=some r):b7 prog 112 [.fn (.func 114) [] [.iptr [.isl false (p1.map aL)]]] ⟨[],0⟩ (fun u X'=>∃t:Nat->Nat,u=.vl 1 (t 0) 0 r.length/\X'=⟨[(1,.bv aL r 98 2 (t 0))],2⟩):=by refine jO 5 V0 ?_;obtain⟨r2,h3,J⟩:=aN J;apply(go);refine jQ (args:=[.nils,.fn (.func 114) [] [.iptr [.iM aL p1]]]) rfl (fH rfl rfl UL rfl rfl rfl) (b7.st [] (qgh n p1 r2 h3 )) rfl rfl ?_;rintro _ _ ⟨t4,rfl,rfl⟩;apply(go);obtain rfl:=sI J;exact⟨.inr rfl,[.vl 1 (t4 0) 0 r2.length],dS rfl (d9),.vl 1 (t4 0) 0 r2.length,⟨[(1,.bv aL r2 98 2 (t4 0))],2⟩,NL,Gh.trans (LP (fun k=>DA [1] k)) (Gh.to (n1:=2) [] rfl rfl NL NL eQ.h BH.h),stF [(t4 0)],rfl,rfl⟩
def Sd(n:Nat)(p1:V aG):M ((V aG)):=
 a8 (m? n p1) fun r2=>
 a8 (R2 Js (fun a b=>MS n a b ) r2) fun r6=>some r6
theorem q9m(n:Nat)(p1:V aG)(r:(V aG))(J:Sd n p1=some r):b7 prog 86 [.fn (.func 114) [] [.iptr [.isl false (p1.map aL)]],.fn (.func 88) [] []] ⟨[],0⟩ (fun u X'=>∃t:Nat->Nat,u=.vl 1 (t 0) 0 r.length/\X'=⟨[(1,.bv aL r 98 2 (t 0))],2⟩):=by refine fQ 12 Bz ?_;obtain⟨r2,h3,J⟩:=aN J;apply(go);refine jQ (args:=[.fn (.func 114) [] [.iptr [.iM aL p1]]]) rfl (fH rfl rfl V0 rfl rfl rfl) (b7.st [] (qif n p1 r2 h3 )) rfl rfl ?_;rintro _ _ ⟨t4,rfl,rfl⟩;obtain⟨r6,h5,J⟩:=aN J;apply(gn);refine dJ (fun tm X=>tm=fr 12 [(5,.vl 1 (t4 0) 0 r6.length)]/\X=⟨[(1,.bv aL r6 98 2 (t4 0))],2⟩) ?_ ?_;rintro _ _ ⟨rfl,rfl⟩;apply(go);obtain rfl:=sI J;exact⟨.inr rfl,[.vl 1 (t4 0) 0 r6.length],dS rfl (d9),.vl 1 (t4 0) 0 r6.length,⟨[(1,.bv aL r6 98 2 (t4 0))],2⟩,NL,Gh.trans (LP (fun k=>DA [1] k)) (Gh.to (n1:=2) [] rfl rfl NL NL eQ.h BH.h),stF [(t4 0)],rfl,rfl⟩;apply(go);refine jQ (args:=[.vl 1 (t4 0) 0 r2.length,.fn (.func 88) [] []]) rfl (fH rfl rfl UZ rfl rfl rfl) (zdz  (fun a b r h=>qnr n a b  r h) r2 r6 h5 _ rfl rfl) rfl rfl ?_;rintro _ _ ⟨rfl,rfl⟩;apply(go);exact⟨_,_,⟨rfl,rfl⟩,NZ,mX ⟨(by simp only[z7r h5];rfl),trivial⟩ rfl⟩
def Rw(n:Nat)(p1:V aG):M ((V aG)):=
 some p1
theorem qc7(n:Nat)(p1:V aG)(r:(V aG))(J:Rw n p1=some r):b7 prog 87 [.isl false (p1.map aL)] ⟨[],0⟩ (fun u X'=>∃t:Nat->Nat,u=.fn (.func 114) [] [.iptr [.isl false (r.map aL)]]/\X'=⟨[],0⟩):=by refine jO 4 By ?_;apply(go);refine aO rfl (Mm rfl rfl) ?_;apply(go);obtain rfl:=sI J;exact⟨.inr rfl,[.fn (.func 114) [] [.ptr 0 0 0]],dS rfl (d9),.fn (.func 114) [] [.iptr [.iM aL p1]],⟨[],0⟩,NL,Gh.trans (lQ 0 1) (Gh.to (n1:=0) [] rfl rfl NL NL eQ.h BH.h),stF [],rfl,rfl⟩
def Ik(GO:Int)(cA:Int->(V Int)->(eI Int Int)->M ((V Int)×(eI Int Int)))(rH:V Int)(VU:eI Int Int):M ((V Int)×(eI Int Int)):=
 cA (IntKind.i64.wrap (GO+1)) rH VU
def r?  (c6:V Int) (QF:eI Int Int):M ((V Int)×(eI Int Int)):=
 some (c6,QF)
def YZ(p2:V aJ)(dD:(V aG))(self:Int->(V aJ)->(V Int)->(eI Int Int)->M ((V Int)×(eI Int Int))):Nat->Int->(V Int)->(eI Int Int)->M ((V Int)×(eI Int Int))
 |0,_,_,_=>none|m1+1,GO,kO,BV=>cond (decide (GO<(dD.length:Int))) (a8 (aC dD GO) fun mY=>cond (!((tE (fun a b=>a==b) BV mY.To).isSome)) (a8 (self mY.To p2 kO BV) fun nY=>Ik GO (YZ p2 dD self m1) nY.1 nY.2) (Ik GO (YZ p2 dD self m1) kO BV)) (r? kO BV)
def uz(n:Nat)(self:Int->(V aJ)->(V Int)->(eI Int Int)->M ((V Int)×(eI Int Int)))(p1:Int)(p2:V aJ)(p3:V Int)(p5:eI Int Int):M ((V Int)×(eI Int Int)):=
 aH ((p3.length+1)*8<=140737488355328/\p3.length+1<=140737488355328) (
 a8 (aC p2 p1) fun x7=>
 a8 (Rw n x7.Arcs) fun r9=>
 a8 (Sd n r9) fun dD=>
 YZ p2 dD self n 0 (p3++[p1]) (xV (fun a b=>a==b) p5 p1 (p3.length:Int)))
def OS:Nat->Int->(V aJ)->(V Int)->(eI Int Int)->M ((V Int)×(eI Int Int))
 |0,_,_,_,_=>none|n+1,p1,p2,p3,p5=>uz n (OS n) p1 p2 p3 p5
theorem qc6:∀(n:Nat)(p1:Int)(p2:V aJ)(p3:V Int)(p5:eI Int Int)(r:(V Int)×(eI Int Int)),OS n p1 p2 p3 p5=some r->∀t4:Nat,b7 prog 85 [.int .i64 p1,.ptr 0 0 0,.ptr 1 0 0,.ptr 2 0 0,.ptr 3 0 0] ⟨Y7 t4 p2 p3 (.map (List.map (mE (fun x=>.int .i64 x) (fun x=>.int .i64 x)) p5.es) p5.cl),6⟩ (fun u X'=>∃t:Nat->Nat,u=.tup []/\X'=⟨Y7 (t 0) p2 r.1 (.map (List.map (mE (fun x=>.int .i64 x) (fun x=>.int .i64 x)) r.2.es) r.2.cl),6⟩)
 |0,p1,p2,p3,p5,r,J=>by cases J
 |n+1,p1,p2,p3,p5,r,J=>by have ih:=qc6 n;unfold OS uz at J;intro t4;refine bg5 45 Ca ?_;apply(go);refine LN (u:=.junk) (X':=⟨Y7 t4 p2 p3 (.map (List.map (mE (fun x=>.i6 x) (fun x=>.i6 x)) (xV (fun a b=>a==b) p5 p1 (p3.length:Int)).es) (xV (fun a b=>a==b) p5 p1 (p3.length:Int)).cl),6⟩) rfl (zbx (kU:=(fun x=>.i6 x)) (vU:=(fun x=>.i6 x)) (m:=p5) (k:=p1) (v:=(p3.length:Int)) (Ng kC.h) yH.h rfl rfl rfl rfl rfl) rfl ?_;obtain⟨h6,J⟩:=d7 J;apply(go);refine bN ?_;refine bN ?_;obtain⟨x7,h8,r9,eW,dD,dC,J⟩:=lG J;apply(go);refine aY h8 ?_;apply(go);refine jQ (args:=[.iM aL x7.Arcs]) rfl (fH rfl rfl By rfl rfl rfl) (b7.st [] (qc7 n x7.Arcs r9 eW )) rfl rfl ?_;rintro _ _ ⟨jH,rfl,rfl⟩;refine jQ (args:=[.fn (.func 114) [] [.iptr [.iM aL r9]],.fn (.func 88) [] []]) rfl (fH rfl rfl Bz rfl rfl rfl) (b7.st [] (q9m n r9 dD dC )) rfl rfl ?_;rintro _ _ ⟨fA,rfl,rfl⟩;apply(go);refine gL (fun m tm X=>∃GO kO IL,∃BV:eI Int Int,YZ p2 dD (OS n) m GO kO BV=some r/\tm=fr 45 [(2,.ptr 1 0 0),(4,.ptr 3 0 0),(25,.vl 8 (fA 0) 0 dD.length),(26,.i6 (dD.length:Int)),(27,.i6 GO)]/\X=⟨(8,.bv aL dD 98 2 (fA 0))::(6,.row [.i6 p1] 3)::Y7 IL p2 kO (.map (List.map (mE (fun x=>.i6 x) (fun x=>.i6 x)) BV.es) BV.cl),9⟩) (fun tm X=>∃c6 iV,∃QF:eI Int Int,r? c6 QF=some r/\tm=fr 45 []/\X=⟨(8,.bv aL dD 98 2 (fA 0))::(6,.row [.i6 p1] 3)::Y7 iV p2 c6 (.map (List.map (mE (fun x=>.i6 x) (fun x=>.i6 x)) QF.es) QF.cl),9⟩) n ⟨0,(p3++[p1]),(t4+1),(xV (fun a b=>a==b) p5 p1 (p3.length:Int)),J,rfl,rfl⟩ ?_ ?_;rintro _ _ ⟨c6,iV,QF,J,rfl,rfl⟩;apply(go);obtain rfl:=sI J;exact⟨.inl rfl,[],d9,.tup [],⟨Y7 iV p2 c6 (.map (List.map (mE (fun x=>.i6 x) (fun x=>.i6 x)) QF.es) QF.cl),6⟩,NL,Gh.to (n1:=6) [] rfl rfl NL NL eQ.h BH.h,stF [iV],rfl,rfl⟩;rintro(_|m1) _ _ ⟨GO,kO,IL,BV,J,rfl,rfl⟩;cases J;refine gF J ?_ ?_<;>intro uO J;apply(go);apply aU;obtain⟨mY,qQ,J⟩:=aN J;apply(go);refine aO rfl (dO rfl rfl (gR aL dW.h (aX iO.h) (by decide) mT (vo rfl) qQ)) ?_;refine aO (u:=.agg (aL mY)) rfl (RM aL sS.h rfl (aX iO.h) mT rfl rfl qQ rfl) ?_;apply(go);refine aO (u:=.tup [.i6 ((tE (fun a b=>a==b) BV mY.To).getD 0),.bool ((tE (fun a b=>a==b) BV mY.To).isSome)]) rfl (z0u (kU:=(fun x=>.i6 x)) (vU:=(fun x=>.i6 x)) (m:=BV) (k:=mY.To) (zv:=0) (Ng kC.h) yH.h rfl rfl rfl gH.h rfl) ?_;apply(gr);refine dJ (fun tm X=>∃rH zo,∃VU:eI Int Int,Ik GO (YZ p2 dD (OS n) m1) rH VU=some r/\tm=fr 45 [(2,.ptr 1 0 0),(4,.ptr 3 0 0),(25,.vl 8 (fA 0) 0 dD.length),(26,.i6 (dD.length:Int)),(27,.i6 GO)]/\X=⟨(9,.row (aL mY) 98)::(8,.bv aL dD 98 2 (fA 0))::(6,.row [.i6 p1] 3)::Y7 zo p2 rH (.map (List.map (mE (fun x=>.i6 x) (fun x=>.i6 x)) VU.es) VU.cl),10⟩) ?_ ?_;rintro _ _ ⟨rH,zo,VU,J,rfl,rfl⟩;unfold Ik at J;apply(go);exact lC ⟨_,rH,zo,VU,J,rfl,rfl⟩;refine cF J ?_ ?_<;>intro mW J;obtain⟨nY,tZ,J⟩:=aN J;apply(go);refine jQ (args:=[.i6 mY.To,.ptr 0 0 0,.ptr 1 0 0,.ptr 2 0 0,.ptr 3 0 0]) rfl (fH rfl rfl Ca rfl rfl (rfl)) (b7.st [0,1,2,3,4,5] (ih mY.To p2 kO BV nY tZ IL)) rfl rfl ?_;rintro _ _ ⟨t40,rfl,rfl⟩;apply(go);exact xC ⟨nY.1,(t40 0),nY.2,J,rfl,rfl⟩;apply(go);exact xC ⟨kO,IL,BV,J,rfl,rfl⟩;apply(go);exact xC ⟨kO,IL,BV,J,rfl,rfl⟩
def ux(p1:GFS)(r3:(V Int)×(eI Int Int))(eD:Int)(l15:V aJ)(cA:Int->(V aJ)->M (GFS))(pW:Int)(oL:V aG):M (GFS):=
 a8 (aC p1.Nodes pW) fun GQ=>
 a8 (m6 l15 0 ((r3.1.length:Int).toNat) eD) fun x47=>
 cA (IntKind.i64.wrap (eD+1)) (l15.set eD.toNat (aJ.mk GQ.Typex oL))
def Ii(p1:GFS)(r3:(V Int)×(eI Int Int))(eD:Int)(l15:V aJ)(cA:Int->(V aJ)->M (GFS))(pW:Int)(nZ:(V aG)):Nat->Int->(V aG)->M (GFS)
 |0,_,_=>none|m2+1,D7,kG=>cond (decide (D7<(nZ.length:Int))) (a8 (aC kG D7) fun BQ=>a8 (aC kG D7) fun VQ=>(Ii p1 r3 eD l15 cA pW nZ m2) (IntKind.i64.wrap (D7+1)) (kG.set (0+D7.toNat) (aG.mk VQ.Feat ((tE (fun a b=>a==b) r3.2 BQ.To).getD 0)))) (ux p1 r3 eD l15 cA pW kG)
def h?(r3:(V Int)×(eI Int Int))(eR:V aJ):M (GFS):=
 aH ((r3.1.length:Int).toNat=eR.length) (some (GFS.mk eR))
def SQ(p1:GFS)(n:Nat)(r3:(V Int)×(eI Int Int)):Nat->Int->(V aJ)->M (GFS)
 |0,_,_=>none|m1+1,eD,l15=>
  cond (decide (eD<(r3.1.length:Int))) (a8 (aC r3.1 eD) fun pW=>
   a8 (aC p1.Nodes pW) fun pV=>
   a8 (Rw n pV.Arcs) fun sZ=>
   a8 (Sd n sZ) fun nZ=>
   Ii p1 r3 eD l15 (SQ p1 n r3 m1) pW nZ n 0 nZ) (h? r3 l15)
def um(n:Nat)(p1:GFS)(p2:Int):M (GFS):=
 a8 (OS n p2 p1.Nodes ([]:V Int) (yM:eI Int Int)) fun r3=>
 aH (0<=(r3.1.length:Int)/\32*(r3.1.length:Int).toNat<=281474976710656/\(r3.1.length:Int)<=281474976710656) (
 SQ p1 n r3 n 0 (List.replicate (r3.1.length:Int).toNat (aJ.mk 0 [])))
theorem qns(n:Nat)(p1:GFS)(p2:Int)(r:GFS)(J:um n p1 p2=some r):cV prog 58 [.agg [.isl false (p1.Nodes.map aW)],.int .i64 p2] (.agg [.isl false (r.Nodes.map aW)]):=by refine fQ 68 Yd ?_;apply(go);refine aO (u:=.map 2) (X':=⟨ie p1.Nodes,3⟩) rfl (z6s) ?_;apply(go);refine aO rfl (Mm rfl rfl) ?_;apply(gn);refine c9 (tm':=fr 68 [(1,.i6 p2),(2,.ptr 0 0 0),(4,.ptr 1 0 0),(5,.ptr 3 0 0),(6,.ptr 4 0 0),(7,.ptr 5 0 0)]) (X':=⟨(6,.bv (cI .i64) ([]:V Int) 3 1 0)::(5,.row [.fn (.func 85) [] [.ptr 4 0 0,.ptr 3 0 0,.ptr 0 0 0,.ptr 5 0 0]] 99)::(4,.row [.vl 6 0 0 (([]:V Int).length)] 34)::(3,.row [.map 2] 118)::ie p1.Nodes,7⟩) (Gh.trans (vP 4 0 3 1 (by decide) NZ rfl rfl) (mX ⟨rfl,rfl,rfl,rfl,rfl,rfl,trivial⟩ rfl)) NZ ?_;obtain⟨r3,h4,J⟩:=aN J;apply(go);refine jQ (args:=[.i6 p2,.ptr 4 0 0,.ptr 3 0 0,.ptr 0 0 0,.ptr 5 0 0]) rfl (fH rfl rfl Ca rfl rfl (rfl)) (b7.st [4,3,0,5,6,2] (qc6 n p2 p1.Nodes ([]:V Int) (yM:eI Int Int) r3 h4 0)) rfl rfl ?_;rintro _ _ ⟨t5,rfl,rfl⟩;obtain⟨h6,J⟩:=d7 J;apply(go);refine aO (u:=.sl 7 0 ((r3.1.length:Int).toNat) ((r3.1.length:Int).toNat)) (X':=⟨MK (.row (List.map aW (List.replicate (r3.1.length:Int).toNat (aJ.mk 0 []))).flatten 78) r3.1 (t5 0) (.map (List.map (mE (fun x=>.i6 x) (fun x=>.i6 x)) r3.2.es) r3.2.cl) p1.Nodes,8⟩) rfl (Ml aW (aJ.mk 0 []) rfl rfl g8.h kP.h rfl rfl rfl rfl h6) ?_;apply(go);refine gL (fun m tm X=>∃eD l15,SQ p1 n r3 m eD l15=some r/\tm=fr 68 [(2,.ptr 0 0 0),(4,.ptr 1 0 0),(5,.ptr 3 0 0),(8,.ptr 8 0 0),(22,.vl 6 (t5 0) 0 r3.1.length),(23,.i6 (r3.1.length:Int)),(24,.i6 eD)]/\X=⟨(8,.row [.sl 7 0 ((r3.1.length:Int).toNat) ((r3.1.length:Int).toNat)] 40)::MK (.row (l15.map aW).flatten 78) r3.1 (t5 0) (.map (List.map (mE (fun x=>.i6 x) (fun x=>.i6 x)) r3.2.es) r3.2.cl) p1.Nodes,9⟩) (fun tm X=>∃eR,h? r3 eR=some r/\tm=fr 68 [(4,.ptr 1 0 0),(8,.ptr 8 0 0)]/\X=⟨(8,.row [.sl 7 0 ((r3.1.length:Int).toNat) ((r3.1.length:Int).toNat)] 40)::MK (.row (eR.map aW).flatten 78) r3.1 (t5 0) (.map (List.map (mE (fun x=>.i6 x) (fun x=>.i6 x)) r3.2.es) r3.2.cl) p1.Nodes,9⟩) n ⟨0,(List.replicate (r3.1.length:Int).toNat (aJ.mk 0 [])),J,rfl,rfl⟩ ?_ ?_;rintro _ _ ⟨eR,J,rfl,rfl⟩;obtain⟨fI,J⟩:=d7 J;apply(go);obtain rfl:=sI J;exact⟨.inr rfl,[.agg [.sl 7 0 ((r3.1.length:Int).toNat) ((r3.1.length:Int).toNat)]],lV (jA iA.h rfl (aX mB.h) rfl rfl rfl) (d9),.agg [.iM aW eR],⟨[],0⟩,zF _,Gh.trans (Gh.fz (tm':=[.agg [.iM aW eR]]) 7 (.row (eR.map aW).flatten 78) 2 rfl (by simp) (by simp only[nM,v6,sG,C4,FE,F7,DV,H8,H9,HA,FD,F8,H4,DS,F6,DO,B4,XA MM fI,OF,YJ,YK,Nat.beq,oH _ _ _ (w7 7 (fun q=>O0 _ .i64 q) r3.1),Kc]) rfl) (pU (.agg [.iM aW eR]) rfl),rfl,BU.h⟩;rintro(_|m1) _ _ ⟨eD,l15,J,rfl,rfl⟩;cases J;refine gF J ?_ ?_<;>intro dB J;apply(go);apply aU;obtain⟨pW,pG,J⟩:=aN J;apply(go);refine aO rfl (dO rfl rfl (gR (cI .i64) fJ.h (aX gH.h) (by decide) (m9 .i64) (vo rfl) pG)) ?_;refine aO rfl (yW (cI .i64) (fun x=>.i6 x) kC.h rfl (fun _=>rfl) rfl rfl pG) ?_;obtain⟨pV,oA,sZ,oR,nZ,uP,J⟩:=lG J;apply(go);refine aY oA ?_;apply(go);refine jQ (args:=[.iM aL pV.Arcs]) rfl (fH rfl rfl By rfl rfl rfl) (b7.st [] (qc7 n pV.Arcs sZ oR )) rfl rfl ?_;rintro _ _ ⟨nL,rfl,rfl⟩;refine jQ (args:=[.fn (.func 114) [] [.iptr [.iM aL sZ]],.fn (.func 88) [] []]) rfl (fH rfl rfl Bz rfl rfl rfl) (b7.st [] (q9m n sZ nZ uP )) rfl rfl ?_;rintro _ _ ⟨m5,rfl,rfl⟩;apply(go);refine gL (fun m tm X=>∃D7 kG,Ii p1 r3 eD l15 (SQ p1 n r3 m1) pW nZ m D7 kG=some r/\tm=fr 68 [(2,.ptr 0 0 0),(4,.ptr 1 0 0),(5,.ptr 3 0 0),(8,.ptr 8 0 0),(9,.i6 eD),(10,.i6 pW),(11,.vl 10 (m5 0) 0 kG.length),(22,.vl 6 (t5 0) 0 r3.1.length),(23,.i6 (r3.1.length:Int)),(24,.i6 eD),(38,.i6 (nZ.length:Int)),(39,.i6 D7)]/\X=⟨(10,.bv aL kG 98 2 (m5 0))::(8,.row [.sl 7 0 ((r3.1.length:Int).toNat) ((r3.1.length:Int).toNat)] 40)::MK (.row (l15.map aW).flatten 78) r3.1 (t5 0) (.map (List.map (mE (fun x=>.i6 x) (fun x=>.i6 x)) r3.2.es) r3.2.cl) p1.Nodes,11⟩) (fun tm X=>∃oL,ux p1 r3 eD l15 (SQ p1 n r3 m1) pW oL=some r/\tm=fr 68 [(2,.ptr 0 0 0),(4,.ptr 1 0 0),(5,.ptr 3 0 0),(8,.ptr 8 0 0),(9,.i6 eD),(10,.i6 pW),(11,.vl 10 (m5 0) 0 oL.length),(22,.vl 6 (t5 0) 0 r3.1.length),(23,.i6 (r3.1.length:Int)),(24,.i6 eD)]/\X=⟨(10,.bv aL oL 98 2 (m5 0))::(8,.row [.sl 7 0 ((r3.1.length:Int).toNat) ((r3.1.length:Int).toNat)] 40)::MK (.row (l15.map aW).flatten 78) r3.1 (t5 0) (.map (List.map (mE (fun x=>.i6 x) (fun x=>.i6 x)) r3.2.es) r3.2.cl) p1.Nodes,11⟩) n ⟨0,nZ,J,rfl,rfl⟩ ?_ ?_;rintro _ _ ⟨oL,J,rfl,rfl⟩;apply(gn);refine c9 (tm':=fr 68 [(2,.ptr 0 0 0),(4,.ptr 1 0 0),(5,.ptr 3 0 0),(8,.ptr 8 0 0),(9,.i6 eD),(10,.i6 pW),(11,.iM aL oL),(22,.vl 6 (t5 0) 0 r3.1.length),(23,.i6 (r3.1.length:Int)),(24,.i6 eD)]) (X':=⟨(8,.row [.sl 7 0 ((r3.1.length:Int).toNat) ((r3.1.length:Int).toNat)] 40)::MK (.row (l15.map aW).flatten 78) r3.1 (t5 0) (.map (List.map (mE (fun x=>.i6 x) (fun x=>.i6 x)) r3.2.es) r3.2.cl) p1.Nodes,11⟩) (Gh.trans (Gh.sub (l':=[(2,.ptr 0 0 0),(4,.ptr 1 0 0),(5,.ptr 3 0 0),(8,.ptr 8 0 0),(9,.i6 eD),(10,.i6 pW),(11,.vl 10 (m5 0) 0 oL.length),(22,.vl 6 (t5 0) 0 r3.1.length),(23,.i6 (r3.1.length:Int)),(24,.i6 eD)]) ⟨rfl,rfl,rfl,rfl,rfl,rfl,rfl,rfl,rfl,rfl,trivial⟩) (Gh.fzS (l':=[(2,.ptr 0 0 0),(4,.ptr 1 0 0),(5,.ptr 3 0 0),(8,.ptr 8 0 0),(9,.i6 eD),(10,.i6 pW),(11,.iM aL oL),(22,.vl 6 (t5 0) 0 r3.1.length),(23,.i6 (r3.1.length:Int)),(24,.i6 eD)]) (h':=[(8,.row [.sl 7 0 ((r3.1.length:Int).toNat) ((r3.1.length:Int).toNat)] 40),(7,.row (l15.map aW).flatten 78),(6,.bv (cI .i64) r3.1 3 1 (t5 0)),(5,.row [.fn (.func 85) [] [.ptr 4 0 0,.ptr 3 0 0,.ptr 0 0 0,.ptr 5 0 0]] 99),(4,.row [.vl 6 (t5 0) 0 r3.1.length] 34),(3,.row [.map 2] 118),(2,.map (List.map (mE (fun x=>.i6 x) (fun x=>.i6 x)) r3.2.es) r3.2.cl),(1,.row [.nils] 40),(0,.row [.iM aW p1.Nodes] 40)]) 10 (.bv aL oL 98 2 (m5 0)) 2 rfl (by simp) (by simp only[fzS,nM,v6,sG,C4,FE,F7,DV,H8,H9,HA,FD,F8,H4,DS,F6,DO,B4,R9 mT,OF,YJ,YK,Nat.beq,oH _ _ _ (w7 10 (fun q=>JC _ q) l15),oH _ _ _ (w7 10 (fun q=>O0 _ .i64 q) r3.1),Kc]) (by simp only[fzH,fzB,ug,Nat.beq,zC,zD,nM,v6,sG,C4,FE,F7,DV,H8,H9,HA,FD,F8,H4,DS,F6,DO,B4,R9 mT,OF,YJ,YK,Nat.beq,oH _ _ _ (w7 10 (fun q=>JC _ q) l15),oH _ _ _ (w7 10 (fun q=>O0 _ .i64 q) r3.1),Kc]))) NZ ?_;obtain⟨GQ,U5,x47,EG,J⟩:=bS J;apply(go);refine dE [] ?_;apply(gd);refine c8 U5 ?_;apply(gd);refine aQ rfl (dO rfl rfl (DN g8.h (aX kP.h) rfl EG)) (HX (u:=.junk) (X':=⟨(8,.row [.sl 7 0 ((r3.1.length:Int).toNat) ((r3.1.length:Int).toNat)] 40)::MK (.row (List.map aW (l15.set eD.toNat (aJ.mk GQ.Typex oL))).flatten 78) r3.1 (t5 0) (.map (List.map (mE (fun x=>.i6 x) (fun x=>.i6 x)) r3.2.es) r3.2.cl) p1.Nodes,11⟩) rfl (X7 aW (aX kP.h) MM rfl rfl rfl rfl rfl rfl EG rfl) rfl ?_);refine bC ⟨by kernel_rfl,trivial,?_⟩;apply(go);exact lC ⟨_,(l15.set eD.toNat (aJ.mk GQ.Typex oL)),J,rfl,rfl⟩;rintro(_|m2) _ _ ⟨D7,kG,J,rfl,rfl⟩;cases J;refine gF J ?_ ?_<;>intro Wu J;apply(go);apply aU;obtain⟨BQ,tY,VQ,PO,J⟩:=bS J;apply(gr);refine dJ (fun tm X=>tm=fr 68 [(2,.ptr 0 0 0),(4,.ptr 1 0 0),(5,.ptr 3 0 0),(8,.ptr 8 0 0),(9,.i6 eD),(10,.i6 pW),(11,.vl 10 (m5 0) 0 ((kG.set (0+D7.toNat) (aG.mk VQ.Feat ((tE (fun a b=>a==b) r3.2 BQ.To).getD 0))).length)),(22,.vl 6 (t5 0) 0 r3.1.length),(23,.i6 (r3.1.length:Int)),(24,.i6 eD),(38,.i6 (nZ.length:Int)),(39,.i6 D7)]/\X=⟨(10,.bv aL (kG.set (0+D7.toNat) (aG.mk VQ.Feat ((tE (fun a b=>a==b) r3.2 BQ.To).getD 0))) 98 2 (m5 0))::(8,.row [.sl 7 0 ((r3.1.length:Int).toNat) ((r3.1.length:Int).toNat)] 40)::MK (.row (l15.map aW).flatten 78) r3.1 (t5 0) (.map (List.map (mE (fun x=>.i6 x) (fun x=>.i6 x)) r3.2.es) r3.2.cl) p1.Nodes,11⟩) ?_ ?_;rintro _ _ ⟨rfl,rfl⟩;apply(go);exact lC ⟨_,(kG.set (0+D7.toNat) (aG.mk VQ.Feat ((tE (fun a b=>a==b) r3.2 BQ.To).getD 0))),J,rfl,rfl⟩;refine dE [] ?_;apply(gd);refine aQ rfl (dO rfl rfl (gR aL dW.h (aX iO.h) (by decide) mT (vo rfl) tY)) ?_;refine aQ rfl (j5 sS.h rfl (aX gH.h) rfl (sE rfl) rfl) (aQ (u:=.i6 BQ.To) rfl (vZ aL kC.h rfl mT rfl rfl (o7 tY) rfl) (aQ (u:=.i6 ((tE (fun a b=>a==b) r3.2 BQ.To).getD 0)) rfl (zdl (kU:=(fun x=>.i6 x)) (vU:=(fun x=>.i6 x)) (m:=r3.2) (k:=BQ.To) (zv:=0) (Ng kC.h) yH.h rfl rfl rfl gH.h rfl) ?_));refine aQ rfl (dO rfl rfl (gR aL dW.h (aX iO.h) (by decide) mT (vo rfl) PO)) ?_;refine aQ rfl (j5 sS.h rfl (aX gH.h) rfl (sE rfl) rfl) (HX (u:=.junk) (X':=⟨(10,.bv aL (kG.set (0+D7.toNat) (aG.mk VQ.Feat ((tE (fun a b=>a==b) r3.2 BQ.To).getD 0))) 98 2 (m5 0))::(8,.row [.sl 7 0 ((r3.1.length:Int).toNat) ((r3.1.length:Int).toNat)] 40)::MK (.row (l15.map aW).flatten 78) r3.1 (t5 0) (.map (List.map (mE (fun x=>.i6 x) (fun x=>.i6 x)) r3.2.es) r3.2.cl) p1.Nodes,11⟩) rfl (qf (y:=(aG.mk VQ.Feat ((tE (fun a b=>a==b) r3.2 BQ.To).getD 0))) aL (aX gH.h) mT rfl rfl rfl rfl rfl rfl (o7 PO) rfl rfl) rfl ?_);refine bC ⟨by kernel_rfl,trivial,?_⟩;apply(go);exact⟨_,_,⟨rfl,rfl⟩,NZ,mX ⟨rfl,rfl,rfl,rfl,rfl,rfl,(by simp only[ie,MK,List.length_set];rfl),rfl,rfl,rfl,rfl,rfl,trivial⟩ rfl⟩;apply(go);exact xC ⟨kG,J,rfl,rfl⟩;apply(go);exact xC ⟨l15,J,rfl,rfl⟩
def kp(n:Nat)(p1:GFS)(p2:Int):M (GFS):=
 a8 (um n p1 p2) fun r3=>some r3
theorem qyc(n:Nat)(p1:GFS)(p2:Int)(r:GFS)(J:kp n p1 p2=some r):cV prog 30 [.agg [.isl false (p1.Nodes.map aW)],.int .i64 p2] (.agg [.isl false (r.Nodes.map aW)]):=by refine fQ 8 Yq ?_;obtain⟨r3,h4,J⟩:=aN J;apply(go);refine aR rfl (pC (qns n p1 p2 r3 h4) _) Yd ?_;apply(go);obtain rfl:=sI J;exact rT (lV (jA iA.h rfl (aX mB.h) rfl rfl rfl) (d9)) (pU _ rfl)
instance:TbP prog tb:=⟨tb_ok⟩
set_option maxRecDepth 20000
set_option maxHeartbeats 4000000
set_option synthInstance.maxSize 4000
set_option synthInstance.maxHeartbeats 200000
abbrev Gk(a)(b:Nat)(c)(d:Nat)(e)(f:Nat)(g)(h)(i:B)(j):=([(7,.bv pM a 94 2 b),(6,.bv mA c 151 4 d),(5,.bv fZ e 96 3 f),(3,.row [.iM fK g,.iM gN h,.vl 5 f 0 e.length,.vl 6 d 0 c.length,.vl 7 b 0 a.length] 85),(1,i),(0,.row [.iM aW j] 40)]:V (Nat×B))
def i?(n:Nat): M (D1):=
 a8 (YX n) fun tx=>some tx
def Rv(p3:GFS)(n:Nat)(fG:Int×(V aT)×Nat)(jR:(V GFS)):Nat->Int->M (D1)
 |0,_=>none|m1+1,N8=>
  cond (decide (N8<(p3.Nodes.length:Int))) (a8 (aC jR (IntKind.i64.wrap (fG.1+N8))) fun eu=>
   a8 (kp n p3 N8) fun EZ=>
   a8 (FK n eu EZ) fun QZ=>cond (!QZ) (some false) ((Rv p3 n fG jR m1) (IntKind.i64.wrap (N8+1)))) (i? n)
def V_(n:Nat)(p1:V bL)(p2:V qT)(p3:GFS):M (D1):=
 a8 (Qq n p1) fun r4=>
 a8 (a8 (kz n r4 p2) fun r6=>cond (!r6) (some true) (a8 (Ot n r4 ([p3])) fun r9=>some (!r9))) fun D3=>cond D3 (a8 (YX n) fun eH=>some eH) (a8 (ul n r4 p2) fun bU=>
  a8 (Qp n bU.1 bU.2.1 bU.2.2.1 bU.2.2.2.2.1 bU.2.2.2.2.2.2.1) fun xT=>
  a8 (SN n p3 bU.1 bU.2.1 bU.2.2.1 bU.2.2.2.1 bU.2.2.2.2.1 bU.2.2.2.2.2.2.1) fun fG=>
  a8 (Qp n bU.1 bU.2.1 fG.2.1 bU.2.2.2.2.1 bU.2.2.2.2.2.2.1) fun jR=>
  a8 (cond (fG.1 != (xT.length:Int)) (some true) (a8 (SO n bU.1 bU.2.1 fG.2.1 bU.2.2.2.2.1 bU.2.2.2.2.2.2.1) fun BY=>cond (BY != (IntKind.i64.wrap (fG.1+(p3.Nodes.length:Int)))) (some true) (a8 (SO n bU.1 bU.2.1 fG.2.1 bU.2.2.2.2.1 bU.2.2.2.2.2.2.1) fun zx=>cond ((jR.length:Int) != zx) (some true) (a8 (qD jR 0 fG.1) fun pA=>a8 (uc n pA xT) fun pY=>some (!pY))))) fun y7=>cond y7 (some false) (Rv p3 n fG jR n 0))
theorem qmd(n:Nat)(p1:V bL)(p2:V qT)(p3:GFS)(r:D1)(J:V_ n p1 p2 p3=some r):cV prog 8 [.isl false (p1.map bV),.isl false (p2.map lE),.agg [.isl false (p3.Nodes.map aW)]] (.bool r):=by refine D2 85 fn8 ?_;obtain⟨r4,h5,J⟩:=aN J;refine go ?_;refine aR rfl (pC (qnv n p1 r4 h5) _) fn9 ?_;obtain⟨D3,dK,J⟩:=aN J;refine gn ?_;refine dJ (fun tm X=>tm=fr 85 [(1,.iM lE p2),(5,.ptr 0 0 0),(7,.ptr 1 0 0),(25,.bool D3)]/\X=⟨[(1,.row (g7 r4) 27),(0,.row [.iM aW p3.Nodes] 40)],2⟩) ?_ ?_;rintro _ _ ⟨rfl,rfl⟩;refine gF J ?_ ?_<;>intro dC J;obtain⟨eH,eM,J⟩:=aN J;refine go ?_;refine aR rfl (pC (qec n eH eM) _) Cl ?_;exact gx J;obtain⟨bU,fI,J⟩:=aN J;refine go ?_;refine jQ (args:=[.agg (g7 r4),.iM lE p2]) rfl (fH rfl rfl Ys rfl rfl rfl) (b7.st [] (qnx n r4 p2 bU fI )) rfl rfl ?_;rintro _ _ ⟨GU,rfl,rfl⟩;obtain⟨xT,pG,J⟩:=aN J;refine go ?_;refine jQ (args:=[.ptr 3 0 0]) rfl (fH rfl rfl Ci rfl rfl rfl) (b7.st [3,5,6,7] (qgy n bU.1 bU.2.1 bU.2.2.1 bU.2.2.2.2.1 bU.2.2.2.2.2.2.1 xT pG bU.2.2.2.1 bU.2.2.2.2.2.1 bU.2.2.2.2.2.2.2)) rfl rfl ?_;rintro _ _ ⟨IM,rfl,rfl⟩;obtain⟨fG,nF,J⟩:=aN J;refine go ?_;refine jQ (args:=[.ptr 3 0 0,.agg [.iM aW p3.Nodes]]) rfl (fH rfl rfl G8 rfl rfl rfl) (b7.st [3,5,6,7] (Rq n p3 bU.1 bU.2.1 bU.2.2.1 bU.2.2.2.1 bU.2.2.2.2.1 bU.2.2.2.2.2.2.1 fG nF bU.2.2.2.2.2.1 bU.2.2.2.2.2.2.2)) rfl rfl ?_;rintro _ _ ⟨Eo,rfl,rfl⟩;obtain⟨jR,mL,J⟩:=aN J;refine go ?_;refine jQ (args:=[.ptr 3 0 0]) rfl (fH rfl rfl Ci rfl rfl rfl) (b7.st [3,5,6,7] (qgy n bU.1 bU.2.1 fG.2.1 bU.2.2.2.2.1 bU.2.2.2.2.2.2.1 jR mL fG.2.2 bU.2.2.2.2.2.1 bU.2.2.2.2.2.2.2)) rfl rfl ?_;rintro _ _ ⟨AU,rfl,rfl⟩;obtain⟨y7,eV,J⟩:=aN J;refine gn ?_;refine dJ (fun tm X=>tm=fr 85 [(5,.ptr 0 0 0),(10,.i6 fG.1),(11,.iM oG jR),(65,.bool y7)]/\X=⟨Gk bU.2.2.2.2.2.2.1 bU.2.2.2.2.2.2.2 bU.2.2.2.2.1 bU.2.2.2.2.2.1 fG.2.1 fG.2.2 bU.1 bU.2.1 (.row (g7 r4) 27) p3.Nodes,8⟩) ?_ ?_;rintro _ _ ⟨rfl,rfl⟩;refine gF J ?_ ?_<;>intro pQ J;exact gx J;refine go ?_;refine gL (fun m tm X=>∃N8,Rv p3 n fG jR m N8=some r/\tm=fr 85 [(5,.ptr 0 0 0),(10,.i6 fG.1),(11,.iM oG jR),(68,.i6 (p3.Nodes.length:Int)),(69,.i6 N8)]/\X=⟨Gk bU.2.2.2.2.2.2.1 bU.2.2.2.2.2.2.2 bU.2.2.2.2.1 bU.2.2.2.2.2.1 fG.2.1 fG.2.2 bU.1 bU.2.1 (.row (g7 r4) 27) p3.Nodes,8⟩) (fun tm X=>i? n=some r/\tm=fr 85 []/\X=⟨Gk bU.2.2.2.2.2.2.1 bU.2.2.2.2.2.2.2 bU.2.2.2.2.1 bU.2.2.2.2.2.1 fG.2.1 fG.2.2 bU.1 bU.2.1 (.row (g7 r4) 27) p3.Nodes,8⟩) n ⟨0,J,rfl,rfl⟩ ?_ ?_;rintro _ _ ⟨J,rfl,rfl⟩;obtain⟨tx,h63,J⟩:=aN J;refine go ?_;refine aR rfl (pC (qec n tx h63) _) Cl ?_;exact gx J;rintro(_|m1) _ _ ⟨N8,J,rfl,rfl⟩;cases J;refine gF J ?_ ?_<;>intro sM J;refine go ?_;apply aU;obtain⟨eu,gh,EZ,Bn,QZ,h70,J⟩:=lG J;refine go ?_;refine dE [] ?_;refine gd ?_;refine c8 gh ?_;refine gd ?_;refine fC rfl (pC (qyc n p3 N8 EZ Bn)) Yq ?_;refine gd ?_;refine fC rfl (pC (YI n eu EZ QZ h70)) AJ ?_;refine gd ?_;refine bC ⟨by kernel_rfl,trivial,?_⟩;refine gF J ?_ ?_<;>intro Wp J;exact gx J;refine go ?_;exact lC ⟨_,J,rfl,rfl⟩;refine go ?_;exact xC ⟨J,rfl,rfl⟩;rcases gB eV with⟨oQ,eV⟩|⟨oQ,eV⟩;obtain rfl:=sI eV;refine dE [] ?_;refine gd ?_;refine bC ⟨by kernel_rfl,trivial,?_⟩;refine go ?_;exact xC ⟨rfl,rfl⟩;obtain⟨BY,pS,eV⟩:=aN eV;rcases gB eV with⟨nE,eV⟩|⟨nE,eV⟩;obtain rfl:=sI eV;refine dE [(7,6),(8,6),(9,6),(10,6),(11,6)] ?_;refine gd ?_;refine AR (u:=.i6 BY) (X1:=⟨Gk bU.2.2.2.2.2.2.1 bU.2.2.2.2.2.2.2 bU.2.2.2.2.1 bU.2.2.2.2.2.1 fG.2.1 fG.2.2 bU.1 bU.2.1 (.row (g7 r4) 27) p3.Nodes,8⟩) (args:=[.ptr 3 0 0]) (yP rfl rfl rfl oQ) (fH rfl rfl G6 rfl rfl rfl) ((b7.st [3,5,6,7] (Rm n bU.1 bU.2.1 fG.2.1 bU.2.2.2.2.1 bU.2.2.2.2.2.2.1 BY pS fG.2.2 bU.2.2.2.2.2.1 bU.2.2.2.2.2.2.2)).mono fun _ _ ⟨_,h⟩=>h) rfl rfl ?_;refine gd ?_;refine bC ⟨by kernel_rfl,⟨i7 rfl,⟨j5 iA.h rfl (aX xD.h) rfl rfl rfl,⟨nQ g8.h rfl rfl rfl rfl,⟨F5 rfl rfl rfl (Fu aW g8.h),⟨tG rfl rfl (zd _ _ _) rfl,trivial⟩⟩⟩⟩⟩,?_⟩;refine go ?_;exact xC ⟨rfl,rfl⟩;obtain⟨zx,mW,eV⟩:=aN eV;refine dE [(7,6),(8,6),(9,6),(10,6),(11,6),(15,18),(16,18)] ?_;refine gd ?_;refine AR (u:=.i6 BY) (X1:=⟨Gk bU.2.2.2.2.2.2.1 bU.2.2.2.2.2.2.2 bU.2.2.2.2.1 bU.2.2.2.2.2.1 fG.2.1 fG.2.2 bU.1 bU.2.1 (.row (g7 r4) 27) p3.Nodes,8⟩) (args:=[.ptr 3 0 0]) (yP rfl rfl rfl oQ) (fH rfl rfl G6 rfl rfl rfl) ((b7.st [3,5,6,7] (Rm n bU.1 bU.2.1 fG.2.1 bU.2.2.2.2.1 bU.2.2.2.2.2.2.1 BY pS fG.2.2 bU.2.2.2.2.2.1 bU.2.2.2.2.2.2.2)).mono fun _ _ ⟨_,h⟩=>h) rfl rfl ?_;refine gd ?_;refine AR (u:=.i6 zx) (X1:=⟨Gk bU.2.2.2.2.2.2.1 bU.2.2.2.2.2.2.2 bU.2.2.2.2.1 bU.2.2.2.2.2.1 fG.2.1 fG.2.2 bU.1 bU.2.1 (.row (g7 r4) 27) p3.Nodes,8⟩) (args:=[.ptr 3 0 0]) (yP rfl rfl rfl nE) (fH rfl rfl G6 rfl rfl rfl) ((b7.st [3,5,6,7] (Rm n bU.1 bU.2.1 fG.2.1 bU.2.2.2.2.1 bU.2.2.2.2.2.2.1 zx mW fG.2.2 bU.2.2.2.2.2.1 bU.2.2.2.2.2.2.2)).mono fun _ _ ⟨_,h⟩=>h) rfl rfl ?_;refine gd ?_;rcases gB eV with⟨vK,eV⟩|⟨vK,eV⟩;obtain rfl:=sI eV;refine gd ?_;refine bC ⟨by kernel_rfl,⟨i7 rfl,⟨j5 iA.h rfl (aX xD.h) rfl rfl rfl,⟨nQ g8.h rfl rfl rfl rfl,⟨F5 rfl rfl rfl (Fu aW g8.h),⟨tG rfl rfl (zd _ _ _) rfl,⟨i7 rfl,⟨F5 rfl rfl rfl (Fu oG WS.h),trivial⟩⟩⟩⟩⟩⟩⟩,?_⟩;refine go ?_;exact xC ⟨rfl,rfl⟩;obtain⟨pA,kZ,eV⟩:=aN eV;obtain⟨tZ,sN⟩:=XN oG .i64 kZ;obtain⟨pY,pR,eV⟩:=aN eV;obtain rfl:=sI eV;refine gd ?_;refine RD.wq (u:=.iM oG pA) rfl (yX rfl mI (yN rfl) mI (RE oG WS.h (aX mB.h) z0b tZ sN)) ?_;refine gd ?_;refine fC rfl (pC (qpa n pA xT pY pR)) Yr ?_;refine gd ?_;refine bC ⟨by kernel_rfl,⟨i7 rfl,⟨j5 iA.h rfl (aX xD.h) rfl rfl rfl,⟨nQ g8.h rfl rfl rfl rfl,⟨F5 rfl rfl rfl (Fu aW g8.h),⟨tG rfl rfl (zd _ _ _) rfl,⟨i7 rfl,⟨F5 rfl rfl rfl (Fu oG WS.h),trivial⟩⟩⟩⟩⟩⟩⟩,?_⟩;refine go ?_;exact xC ⟨rfl,rfl⟩;obtain⟨r6,h7,dK⟩:=aN dK;refine go ?_;refine aR rfl (pC (qtt n r4 p2 r6 h7) _) Yx ?_;refine go ?_;rcases gB dK with⟨h8,dK⟩|⟨h8,dK⟩;exact gy dK;obtain⟨r9,eW,dK⟩:=aN dK;obtain rfl:=sI dK;refine go ?_;refine bN ?_;refine aR rfl (vw (qoo n r4 ([p3]) r9 eW) (lQ 2 1)) Ch ?_;refine go ?_;exact xC ⟨rfl,rfl⟩
end Go.Proofs
namespace Go.Proofs
open Go Go.Rx Go.Vx Go.Shelf Go.Sort
set_option maxRecDepth 10000
theorem z4n(n:Nat)(a b:Int):Rj n a b=some (cmpI a b):=by
 have e1:(a != a)=false:=by simp
 have e2:(b != b)=false:=by simp
 simp only[Rj,Qi,aP,e1,e2,zD,cmpI];by_cases h1:a<b;simp[h1];by_cases h2:b<a<;>simp[h1,h2]
theorem qso{v11:Type}{lt lt':v11->v11->D1}(x:v11):∀{l:V v11},(∀y∈l,lt y x=lt' y x)->EO lt x l=EO lt' x l
 |[],_=>rfl|y::l,h=>by have ih:=qso (lt:=lt) (lt':=lt') x (l:=l) fun z hz=>h z (List.mem_cons_of_mem _ hz);simp only[EO,h y (by simp),ih]
theorem qxp{v11:Type}{lt lt':v11->v11->D1}:∀{l:V v11},(∀x∈l,∀y∈l,lt x y=lt' x y)->srt lt l=srt lt' l
 |[],_=>rfl|x::l,h=>by simp only[srt];rw[qxp fun a ha b hb=>h a (by simp[ha]) b (by simp[hb])];exact qso x fun y hy=>h y (by simp[(Fz lt' l).mem_iff.1 hy]) x (by simp)
theorem z6p{v11:Type}{eq:v11->v11->D1}(HK:∀x,eq x x=true){f:v11->v11->M Int}{c:v11->v11->Int}(hc:Cmp c){ds:V v11}(hf:∀x∈ds,∀y∈ds,f x y=some (c x y))(hz:∀x∈ds,∀y∈ds,c x y=0->x=y):XG eq f ds=true:=by
 have aF:∀x∈ds,∀y∈ds,iP f x y=ltOf c x y:=fun x hx y hy=>by simp[iP,hf x hx y hy,ltOf]
 have hs:=hc.swo;unfold XG;rw[List.all_eq_true];intro x hx;rw[Bool.and_eq_true,Bool.not_eq_true',List.all_eq_true];refine⟨by rw[aF x hx x hx];exact hs.irrefl x,fun y hy=>?_⟩;rw[Bool.and_eq_true,Bool.and_eq_true,List.all_eq_true];refine⟨by rw[hf x hx y hy];rfl,?_,fun z Ue=>?_⟩;rw[aF x hx y hy,aF y hy x hx];cases h1:ltOf c x y with
 |true=>rfl|false=>cases h2:ltOf c y x with|true=>rfl|false=>have a:=hc.anti x y;simp[ltOf]at h1 h2;have:=hz x hx y hy (by omega);subst this;simp[HK]
 rw[aF x hx y hy,aF y hy z Ue,aF x hx z Ue];cases h1:ltOf c x y with
 |true=>rcases h2:ltOf c y z with _|_;simp;simp[hs.trans x y z h1 h2]
 |false=>rcases h2:ltOf c y z with _|_;simp[hs.ntrans x y z h1 h2];simp
theorem zal{v11:Type}{eq:v11->v11->D1}(HK:∀x,eq x x=true){f:v11->v11->M Int}{c:v11->v11->Int}(hc:Cmp c){ds:V v11}(hl:ds.length<=1000000)(hf:∀x∈ds,∀y∈ds,f x y=some (c x y))(hz:∀x∈ds,∀y∈ds,c x y=0->x=y):R2 eq f ds=some (srt (ltOf c) ds):=by
 unfold R2;have hb:Nat.ble ds.length 1000000=true:=by rw[Nat.ble_eq];exact hl
 rw[z6p HK hc hf hz,hb];simp only[Bool.and_self,zC];have e:srt (iP f) ds=srt (ltOf c) ds:=qxp fun x hx y hy=>by simp[iP,hf x hx y hy,ltOf]
 rw[e]
theorem qzd{l:V aG}(hl:l.length<=1000000):∀(m i:Nat),l.length-i<m->i<=l.length->Il l m i (l.take i)=some l
 |0,i,hm,_=>by omega
 |m+1,i,hm,hi=>by
  unfold Il;by_cases aF:i<l.length;obtain⟨x,hx,_⟩:=eA aF;have hn:((l.take i).length+1)*16<=140737488355328/\(l.take i).length+1<=140737488355328:=by rw[List.length_take];omega
  simp only[gP aF,zC,cH,hx,aP,aH,hn,and_self,if_true,sd,iF aF (show l.length<=9223372036854775807 by omega),<-iY hx];exact qzd hl m (i+1) (by omega) (by omega);simp only[hX aF,zD,s?];rw[zW (by omega)]
theorem Dj(n:Nat)(a b:aG):MS n a b=some (cFq a b):=by simp[MS,z4n,aP,cFq]
theorem z9e(x:aG):Js x x=true:=by simp[Js]
theorem qxo{l:V aG}(hl:l.length<=1000000)(hd:mN l){n:Nat}(hn:l.length<n):Sd n l=some (vT l):=by have h1:=qzd hl n 0 (by omega) (by omega);rw[zV,List.take_zero]at h1;have h2:=zal z9e (f:=fun a b=>MS n a b) VC hl (fun x _ y _=>Dj n x y) (fun x hx y hy h=>hd.eq x hx y hy (Gn.1 h));simp only[Sd,m?,sa,h1,aP,h2,vT]
theorem z1y{f:GFS}{k:Nat}(hg:wJ f)(hf:cJ f k)(hk:k<=1000000):∀(n:Nat)(o:V Int)(v:Int)(w:eI Int Int),Seen f o->sO f v->v ∉ o->Rep w o->f.Nodes.length-o.length+k+2<=n->
  ∃w',OS n v f.Nodes o w=some (dfs f n o v,w')/\Rep w' (dfs f n o v)
 |0,o,v,w,hs,hv,hn,hw,Jj=>by omega
 |n+1,o,v,w,hs,hv,hn,hw,Jj=>by
  have xF:=hs.snoc hv hn;have vC:=xF.len;simp only[zU,zO,zS]at vC;obtain⟨hx,fT⟩:=R5 hv;have fD:=hg _ fT;have qN:=hf.arcs _ fT;have vA:=hf.nodes;have FV:(jI f v).length=(nd f v).Arcs.length:=(J7 _).length_eq;have key:∀(m i:Nat)(p:V Int)(w:eI Int Int),(jI f v).length-i<m->i<=(jI f v).length->Seen f p->o.length+1<=p.length->Rep w p->
    ∃w',YZ f.Nodes (jI f v) (OS n) m i p w=some (((jI f v).drop i).foldl (lU (dfs f n)) p,w')/\Rep w' (((jI f v).drop i).foldl (lU (dfs f n)) p):=by
   intro m;induction m with
   |zero=>intro i p w hm;omega|succ m ih=>intro i p w hm hi hp kI hw;unfold YZ;by_cases aF:i<(jI f v).length;obtain⟨a,ha,tX⟩:=eA aF;have h1:=fD.arc a (FA.1 tX);have P1:IntKind.i64.wrap ((i:Int)+1)=((i+1:Nat):Int):=iF aF (by omega);simp only[gP aF,zC,cH,ha,aP,hw.mget,aV ha,List.foldl_cons];by_cases AA:a.To∈p;simp only[AA,if_true,Option.isSome_some,Bool.not_true,zD,Ik,P1,lU];exact ih (i+1) p w (by omega) (by omega) hp kI hw;simp only[AA,if_false,Option.isSome_none,Bool.not_false,zC,Ik,P1,lU];obtain⟨w1,g1,g2⟩:=z1y hg hf hk n p a.To w hp ⟨h1.2.1,h1.2.2⟩ AA hw (by omega);obtain⟨d1,⟨t,d2⟩,_,_⟩:=Mt hg n p a.To hp ⟨h1.2.1,h1.2.2⟩ AA (by omega);simp only[g1,aP];exact ih (i+1) _ w1 (by omega) (by omega) d1 (by rw[d2];simp;omega) g2;rw[bQ aF];simp only[hX aF,zD,r?,List.foldl_nil];exact⟨w,rfl,hw⟩
  have oP:(o.length+1)*8<=140737488355328/\o.length+1<=140737488355328:=by omega
  obtain⟨w',g1,g2⟩:=key n 0 (o++[v]) _ (by omega) (by omega) xF (by simp) (hw.snoc hn);rw[zV,List.drop_zero]at g1;rw[List.drop_zero]at g2;refine⟨w',?_,g2⟩;show uz n (OS n) v f.Nodes o w=_;simp only[uz,aH,oP,and_self,if_true,hx,aP,Rw,qxo (show(nd f v).Arcs.length<=1000000 by omega) fD.dis (show(nd f v).Arcs.length<n by omega)];exact g1
theorem qzn{f:GFS}{o:V Int}{w:eI Int Int}{z:Int}{l15:V aJ}{rc:Int->V aJ->M GFS}{x:Int}{l:V aG}(hl:l.length<=1000000)(hw:Rep w o)(iS:∀a∈l,a.To∈o):∀(m i:Nat),l.length-i<m->i<=l.length->
  Ii f (o,w) z l15 rc x l m i ((l.take i).map (m7 o)++l.drop i)=ux f (o,w) z l15 rc x (l.map (m7 o))
 |0,i,hm,_=>by omega
 |m+1,i,hm,hi=>by
  unfold Ii;by_cases aF:i<l.length;obtain⟨a,ha,tX⟩:=eA aF;have e1:(((l.take i).map (m7 o)++l.drop i))[i]? = some a:=by rw[List.getElem?_append_right (by simp;omega)];simp[show min i l.length=i by omega,ha]
  have e2:(((l.take i).map (m7 o)++l.drop i)).set (0+(i:Int).toNat) (m7 o a)=(l.take (i+1)).map (m7 o)++l.drop (i+1):=by
   rw[aV ha,iY ha];have h3:((l.take i).map (m7 o)).length=i:=by simp;omega
   have:=bo ((l.take i).map (m7 o)) (l.drop (i+1)) a (m7 o a);rw[h3]at this;rw[Nat.zero_add,zZ,this,List.map_append,zQ,List.map_nil,zT];rfl
  have e3:(⟨a.Feat,((if a.To∈o then some (o.idxOf a.To:Int)else none).getD 0)⟩:aG)=m7 o a:=by simp[iS a tX,m7]
  simp only[gP aF,zC,cH,e1,aP,hw.mget,e3,e2,iF aF (show l.length<=9223372036854775807 by omega)];exact qzn hl hw iS m (i+1) (by omega) (by omega);simp only[hX aF,zD];rw[zW (by omega),List.drop_eq_nil_of_le (by omega),List.append_nil]
theorem qzm{f:GFS}{k:Nat}(hg:wJ f)(hf:cJ f k)(hk:k<=1000000){n:Nat}(hn:k+2<=n){r:Int}{o:V Int}{w:eI Int Int}(ho:bk f r o)(hw:Rep w o):∀(m i:Nat),o.length-i<m->i<=o.length->
  SQ f n (o,w) m i ((o.take i).map (m8 f o)++List.replicate (o.length-i) (aJ.mk 0 []))=some ⟨o.map (m8 f o)⟩
 |0,i,hm,_=>by omega
 |m+1,i,hm,hi=>by
  have A6:=ho.seen.len;have vA:=hf.nodes;unfold SQ;by_cases aF:i<o.length;obtain⟨v,hv,Iu⟩:=eA aF;obtain⟨hx,fT⟩:=R5 (ho.seen.ing v Iu);have fD:=hg _ fT;have qN:=hf.arcs _ fT;have FV:(jI f v).length=(nd f v).Arcs.length:=(J7 _).length_eq;have h2:=qzn (f:=f) (z:=(i:Int)) (l15:=(o.take i).map (m8 f o)++List.replicate (o.length-i) (aJ.mk 0 [])) (rc:=SQ f n (o,w) m) (x:=v) (l:=jI f v) (by omega) hw (fun a ha=>ho.clo v Iu a (FA.1 ha)) n 0 (by omega) (by omega);rw[zV,List.take_zero,List.map_nil,List.nil_append,List.drop_zero]at h2;have h3:((o.take i).map (m8 f o)).length=i:=by simp;omega
  have e0:o.length-i=(o.length-(i+1))+1:=by omega
  have e1:m6 ((o.take i).map (m8 f o)++List.replicate (o.length-i) (aJ.mk 0 [])) 0 ((o.length:Int).toNat) (i:Int)=some (aJ.mk 0 []):=by
   have hi:0<=(i:Int)/\(i:Int)<(((o.length:Int).toNat:Nat):Int):=by rw[zZ];omega
   rw[m6,if_pos hi,Nat.zero_add,zZ,List.getElem?_append_right (by omega),h3,e0];simp
  have e2:((o.take i).map (m8 f o)++List.replicate (o.length-i) (aJ.mk 0 [])).set (i:Int).toNat (m8 f o v)=(o.take (i+1)).map (m8 f o)++List.replicate (o.length-(i+1)) (aJ.mk 0 []):=by rw[e0,List.replicate_succ,iY hv];have:=bo ((o.take i).map (m8 f o)) (List.replicate (o.length-(i+1)) (aJ.mk 0 [])) (aJ.mk 0 []) (m8 f o v);rw[h3]at this;simp only[zZ];rw[this];simp
  have e3:(⟨(nd f v).Typex,(jI f v).map (m7 o)⟩:aJ)=m8 f o v:=rfl;have hso:=qxo (show(nd f v).Arcs.length<=1000000 by omega) fD.dis (show(nd f v).Arcs.length<n by omega);simp only[gP aF,zC,cH,hv,hx,aP,Rw,hso];show Ii f (o,w) i _ _ v (jI f v) n 0 (jI f v)=_;rw[h2];simp only[ux,hx,aP,e1,e3,iF aF (show o.length<=9223372036854775807 by omega)];rw[e2];exact qzm hg hf hk hn ho hw m (i+1) (by omega) (by omega);have e:((o.length:Int)).toNat=((o.take i).map (m8 f o)++List.replicate (o.length-i) (aJ.mk 0 [])).length:=by simp;omega
  simp only[hX aF,zD,h?,aH,<-e,if_true];rw[zW (by omega),show o.length-i=0 by omega];simp
theorem qvi{f:GFS}{k:Nat}(hg:wJ f)(hf:cJ f k)(hk:k<=1000000){r:Int}(hr:sO f r){n:Nat}(hn:2*k+4<=n):um n f r=some (nR f r):=by
 obtain⟨ho,cK⟩:=XT hg hr;have vA:=hf.nodes;obtain⟨w,g1,g2⟩:=z1y hg hf hk n [] r yM (Seen.nil f) hr (by simp) Rep.nil (by simp;omega);rw[cK n (by omega)]at g1 g2;have A6:=ho.seen.len;have h1:=qzm hg hf hk (show k+2<=n by omega) ho g2 n 0 (by omega) (by omega);rw[zV,List.take_zero,List.map_nil,List.nil_append,Nat.sub_zero]at h1;have oP:0<=((tD f r).length:Int)/\32*((tD f r).length:Int).toNat<=281474976710656/\((tD f r).length:Int)<=281474976710656:=by simp;omega
 simp only[um,g1,aP,aH,oP,and_self,if_true];rw[zZ];exact h1
end Go.Proofs
namespace Go.Proofs
open Go Go.Rx Go.Vx
set_option maxRecDepth 10000
variable{n:Nat}
theorem QX{h:cZ}{ws:V Nat}(hh:nP h ws){N D:Nat}{c:V aT}{aA d:Nat->Nat}(hp:kD N D (h.Feats.length:Int) (ws.length:Int) c aA d)(hN:N<=1000)(hn:N<n){v:Int}(hv:0<=v/\v<(N:Int)):cJ (yJ n c aA v) 1000:=by
 have MZ:(cG c aA).Nodes.length=N:=by simp[cG,hp.len]
 have Uo:=hp.rI hv;have CV:=hh.fl;rw[No hp hn hv];refine cJ.canon ⟨by rw[MZ];omega,fun x hx=>?_⟩ hp.gok ⟨Uo.1,by rw[MZ];exact Uo.2⟩;obtain⟨y,hy,rfl⟩:=List.mem_map.1 hx;obtain⟨i,hi⟩:=List.getElem?_of_mem hy;have ha:=hp.ar i y hi;show(y.arcs.map (xR aA)).length<=1000;rw[yA];have:=Oy h.Feats.length (o:=y.arcs.map aG.Feat) (by have:=ha.up;unfold lY at this;rw[List.nodup_iff_pairwise_ne,List.pairwise_map];exact this.imp fun{a b} q=>by omega) fun v hv=>by obtain⟨a,hm,rfl⟩:=List.mem_map.1 hv;have:=ha.ok a hm;omega
 rw[yA]at this;omega
section
variable{h:cZ}{ws:V Nat}{N D:Nat}{c:V aT}{aA d:Nat->Nat}{f:GFS}
theorem ZJ(hh:nP h ws)(hp:kD N D (h.Feats.length:Int) (ws.length:Int) c aA d)(hf:AZ h f)(hn:N+f.Nodes.length<n){v:Int}(hv:0<=v/\v<(N:Int)):yJ n (c++f.Nodes.map (lH N)) (ext N aA) v=yJ n c aA v:=by have FX:=ww hh hp hf;have eZ:=hp.len;have e1:∀i,i<N->ext N aA i=aA i:=fun i hi=>if_pos hi;have e2:∀i,i<N->celN (c++f.Nodes.map (lH N)) i=celN c i:=fun i hi=>z4g (by omega);have B:Bi N c aA (c++f.Nodes.map (lH N)) (ext N aA) id:=⟨fun i j hi hj=>by rw[id,id,e1 i hi,e1 j hj],fun i hi hr=>by rw[id,e1 i hi,hr,e2 i hi],fun i hi hr=>by rw[id,e1 i hi,hr,e2 i hi];have ha:=hp.ar _ _ (hp.celN hi);have e:=(List.map_id (celN c i).arcs).symm;rw[e];exact AL.of2 fun a hm=>⟨rfl,(ha.ok a hm).2.2,rfl⟩⟩;have:=B.canon hp FX (fun i hi=>by show i<_;omega) (v:=v.toNat) (by omega);rw[No hp (by omega) hv,No FX hn ⟨hv.1,by omega⟩];exact this
theorem ZK(hh:nP h ws)(hp:kD N D (h.Feats.length:Int) (ws.length:Int) c aA d)(hf:AZ h f)(hn:N+f.Nodes.length<n){i:Nat}(hi:i<f.Nodes.length):yJ n (c++f.Nodes.map (lH N)) (ext N aA) ((N+i:Nat):Int)=nR f (i:Int):=by
 have FX:=ww hh hp hf;have eZ:=hp.len;have CV:∀x∈f.Nodes.map (lH 0),Flat f.Nodes.length (h.Feats.length:Int) (ws.length:Int) x:=fun x hx=>by
  have:=hf.flat (N:=f.Nodes.length) (by omega) hx
  rwa [hh.tl]at this
 have hp0:=kD.init (show(f.Nodes.map (lH 0)).length=f.Nodes.length by simp) CV;have e1:∀i,ext N aA (N+i)=N+i:=fun i=>if_neg (by omega);have e2:∀j (x:aJ),f.Nodes[j]? = some x->celN (c++f.Nodes.map (lH N)) (N+j)=lH N x/\celN (f.Nodes.map (lH 0)) j=lH 0 x:=fun j x hx=>by have:=z4h (a:=c) (b:=f.Nodes.map (lH N)) (i:=j);rw[eZ]at this;rw[this];simp only[celN,List.getElem?_map,hx,zM,Option.getD_some,and_self]
 have at_:∀j,j<f.Nodes.length->∃x,f.Nodes[j]? = some x/\x∈f.Nodes:=fun j hj=>eA hj;have B:Bi f.Nodes.length (f.Nodes.map (lH 0)) id (c++f.Nodes.map (lH N)) (ext N aA) (fun j=>N+j):=⟨fun i j _ _=>by simp only[id,e1];omega,fun j hj _=>by
  obtain⟨x,hx,_⟩:=at_ j hj;rw[e1,(e2 j x hx).1,(e2 j x hx).2];rfl,fun j hj _=>by
  obtain⟨x,hx,hm⟩:=at_ j hj;rw[e1,(e2 j x hx).1,(e2 j x hx).2];refine AL.of2 fun a ha=>⟨rfl,?_⟩;have ht:=((hf.nok x hm).2.ok a ha).2.2;simp only[EX];refine⟨by omega,?_⟩;rw[show(a.To+(N:Int)).toNat=N+(a.To+((0:Nat):Int)).toNat by omega]⟩
 have:=B.canon hp0 FX (fun j hj=>by omega) (v:=i) hi;rw[zcq (fun y hy a ha=>(hf.to y hy a ha).1)]at this;rw[No FX hn ⟨by omega,by omega⟩];exact this
theorem zd8(hh:nP h ws)(hp:kD N D (h.Feats.length:Int) (ws.length:Int) c aA d)(hf:AZ h f)(hn:N+f.Nodes.length<n):(uW n (c++f.Nodes.map (lH N)) (ext N aA) (N+f.Nodes.length)).take N=uW n c aA N:=by unfold uW;rw[<-List.map_take,List.take_range,Nat.min_eq_left (by omega)];refine List.map_congr_left fun i hi=>?_;rw[List.mem_range]at hi;exact ZJ hh hp hf hn ⟨by omega,by omega⟩
end
theorem zeb{c:V aT}{aA:Nat->Nat}{N i:Nat}(hi:i<N):aC (uW n c aA N) (i:Int)=some (yJ n c aA (i:Int)):=by rw[cH,uW,List.getElem?_map,List.getElem?_range hi];rfl
theorem z67{f:GFS}{n N F:Nat}(J:f.Nodes.length=F)(hN:N<=1000)(Bm:F<=1000){fG:Int×V aT×Nat}(oA:fG.1=(N:Int)){c:V aT}{aA:Nat->Nat}(uM:YX n=some true)(hs:∀i:Nat,i<F->kp n f (i:Int)=some (yJ n c aA ((N+i:Nat):Int))/\FK n (yJ n c aA ((N+i:Nat):Int)) (yJ n c aA ((N+i:Nat):Int))=some true):∀(m i:Nat),F-i<m->i<=F->
  Rv f n fG (uW n c aA (N+F)) m (i:Int)=some true
 |0,i,hm,_=>by omega
 |m+1,i,hm,hi=>by
  unfold Rv;rw[J];by_cases aF:i<F;obtain⟨s1,s2⟩:=hs i aF;have w:IntKind.i64.wrap (fG.1+(i:Int))=((N+i:Nat):Int):=by rw[oA];exact DD (by omega) (by omega)
  simp only[gP aF,zC,w,zeb (show N+i<N+F by omega),aP,s1,s2,Bool.not_true,zD,iF aF (show F<=9223372036854775807 by omega)];exact z67 J hN Bm oA uM hs m (i+1) (by omega) (by omega);simp only[hX aF,zD,i?,uM,aP]
theorem z68(d:V bL)(l:V qT)(f:GFS)(hl:l.length<=9223372036854775807)(hn:3000000+l.length<=n):V_ n d l f=some true:=by
 have uM:=ex12 (show 200<=n by omega);obtain⟨h,ws,e1,hh⟩:=zd1 d (n:=n) (by omega);obtain⟨x,e2,e3⟩:=FQ h hl (n:=n) (by omega);obtain⟨y,e4,e5⟩:=z5a h (l:=[f]) (by simp) (n:=n) (by omega);simp only[V_,e1,aP,e2];rcases x with _|_;simp only[Bool.not_false,zC,aP,uM];simp only[Bool.not_true,zD,e4,aP];rcases y with _|_;simp only[Bool.not_false,zC,aP,uM];have hf:=e5 rfl f (by simp);obtain⟨a16,aop⟩:=e3 rfl;obtain⟨c0,tj,mk0,L0,AM,rm0,t1,t2,t3,g1,S,p⟩:=z0y hh a16 aop (n:=n) (by omega) n 0 [] [] [] [] [] [] 0 0 0 (by omega) (by omega) zd2;rw[zV]at g1;have g2:ul n h l=some (h.Types,h.Feats,c0,t3,tj,t2,mk0,t1):=by simp only[ul,yx,nk,aP];exact g1
 have l3:=p.lm;have l4:=p.ln;have TL:=hf.sm.nodes;obtain⟨aA,d',r,D,pp⟩:=p.pt;have gW:=pp.bd;have eZ:=pp.hp.len;have FX:=ww hh pp.hp hf;have PE:=FX.len;have Aa:tot (c0++f.Nodes.map (lH L0.length))<=tot c0+12*12:=by have:=qn (cells:=f.Nodes.map (lH L0.length)) fun x hx=>(hf.flat (N:=L0.length+f.Nodes.length) (zF _) hx).sm;rw[yA]at this;simp only[tot,List.map_append,List.sum_append]at this ⊢;omega
 have hv:=z87 pp.hp (n:=n) (by omega) (by omega) (by omega) (by omega) h.Types h.Feats;have hv':=z87 FX (n:=n) (by omega) (by omega) (by omega) (by omega) h.Types h.Feats;have hld:=Nf hf.sm hf.to (p4:=c0) (by omega) (n:=n) (by omega) t3 h.Types h.Feats tj mk0;rw[eZ]at hld;have nV:(uW n c0 aA L0.length).length=L0.length:=by simp[uW]
 have Uj:(uW n (c0++f.Nodes.map (lH L0.length)) (ext L0.length aA) (L0.length+f.Nodes.length)).length=L0.length+f.Nodes.length:=by simp[uW]
 have hs:=zdx (l:=uW n c0 aA L0.length) (fun g hg=>by obtain⟨i,hi,rfl⟩:=List.mem_map.1 hg;rw[List.mem_range]at hi;exact QX hh pp.hp (by omega) (by omega) ⟨by omega,by omega⟩) (by rw[nV];omega) (n:=n) (by omega);have KE:qD (uW n (c0++f.Nodes.map (lH L0.length)) (ext L0.length aA) (L0.length+f.Nodes.length)) 0 (L0.length:Int)=some (uW n c0 aA L0.length):=by have e:=zd8 hh pp.hp hf (n:=n) (by omega);unfold qD;rw[if_pos (by rw[Uj];omega),zZ,e];rfl
 have b1:((L0.length:Int) != (L0.length:Int))=false:=by simp
 have b2:(((L0.length+f.Nodes.length:Nat):Int) != IntKind.i64.wrap ((L0.length:Int)+(f.Nodes.length:Int)))=false:=by rw[show IntKind.i64.wrap ((L0.length:Int)+(f.Nodes.length:Int))=((L0.length+f.Nodes.length:Nat):Int)from DD (by omega) (by omega)];simp
 have b3:(((L0.length+f.Nodes.length:Nat):Int) != ((L0.length+f.Nodes.length:Nat):Int))=false:=by simp
 simp only[Bool.not_true,zD,g2,aP,hv,hld,hv',nV,Uj,SO,PE,b1,b2,b3,KE,hs];refine z67 rfl (by omega) (by omega) rfl uM (fun i hi=>?_) n 0 (by omega) (by omega);have hnw:=ZK hh pp.hp hf (n:=n) (by omega) hi;have Iz:=QX hh FX (by omega) (n:=n) (by omega) (v:=((L0.length+i:Nat):Int)) ⟨by omega,by omega⟩;have HK:=xj Iz Iz (n:=n) (by omega);rw[xx.2 rfl]at HK;refine⟨?_,HK⟩;rw[hnw];simp only[kp,qvi hf.gok hf.sm (by omega) (r:=(i:Int)) ⟨by omega,by omega⟩ (n:=n) (by omega),aP]
end Go.Proofs
