/-
  Texts of the walk: H0 H2 H3.
-/
import Derived.WalkKit
import Derived.Sort.Grow
import Derived.Test.YtkgbipeaeamohaaGreatDoorP16
set_option linter.unusedSimpArgs false
set_option linter.unusedVariables false
section
namespace Go.Proofs
open Go Go.Rx Go.Vx Go.Shelf Go.RowKit Go.Sort
set_option maxRecDepth 100000
def qdo (n:Nat) (x:Int):Option Int:=cond (x == 0) (some 0) none
theorem qld (n:Nat) (p1:Int) (r:Int) (hF:qdo n p1=some r) (σ:Sg):EvU Tryz.prog 144 [.int .u64 p1] σ (fun u σ'=>u = .int .i64 r∧σ'=σ):=by
 unfold qdo at hF
 cases hp:(p1 == 0) with
 | false=>rw [hp] at hF; cases hF
 | true =>
  rw [hp] at hF
  simp at hF hp
  subst hF; subst hp
  refine EvU.of_same (vs:=[.int .u64 0]) (cv:=.int .i64 0) rfl (fun m=>by simp [q0m,ren]) rfl (fun m=>by simp [ren]) (fun w=>?_) σ
  have h:=Any.bits_Len (SlLaysF0.n15.bits (P:=Tryz.prog) (ρ:=Tryz.sortJ_ren) { Tryz.sortJ with }) 0 w (by omega) (by omega)
  exact h
theorem z5w (x:Int) (w:World):Calls Tryz.prog 145 #[.int .i64 x] w fun e w'=>e = .returned (.bool false)∧w'=w:=by
 go_enter Tryz.func145,Tryz.ntmps145
 go_wp2
 go_ret
 simp
def cmpV (x y:Int):Int:=if x<y then -1 else if x > y then 1 else 0
theorem cmp_W (x y:Int) (w:World):Calls Tryz.prog 114 #[.int .i64 x,.int .i64 y] w fun e w'=>e = .returned (.int .i64 (cmpV x y))∧w'=w:=by
 go_enter Tryz.func114,Tryz.ntmps114
 go_wp2_with (go_at_call 145; refine (z5w _ _).mono ?_; rintro e w' ⟨rfl,rfl⟩)
 all_goals go_ret
 all_goals (refine ⟨?_,rfl⟩; unfold cmpV; simp_all)
 all_goals (rw [if_neg (by omega),if_neg (by omega)])
theorem byF_W (a b c d:Int) (w:World):Calls Tryz.prog 86 #[.agg #[.int .i64 a,.int .i64 b],.agg #[.int .i64 c,.int .i64 d]] w fun e w'=>e = .returned (.int .i64 (cmpV a c))∧∃ q os,w'=grow (w.drewN q) os:=by
 go_enter Tryz.func86,Tryz.ntmps86
 go_wp2_with (go_at_call 114; refine (cmp_W _ _ _).mono ?_; rintro e w' ⟨rfl,rfl⟩)
 all_goals go_ret
 refine ⟨rfl,0,#[.cells #[.int .i64 a,.int .i64 b] 66,.cells #[.int .i64 c,.int .i64 d] 66],?_⟩
 cases w with
 | mk heap tape drawn os output =>
  have e:∀ A B:Obj,(heap.push A).push B=heap ++ #[A,B]:=fun A B=>by apply Array.ext'; simp
  exact congrArg (fun h=>(⟨h,tape,drawn,os,output⟩:World)) (e _ _)
theorem z5k {n:Nat} {a b:q0f} {r:Int} (h:q1f n a b=some r):r=cmpV a.Feat b.Feat:=by
 have e1:(a.Feat != a.Feat)=false:=by simp
 have e2:(b.Feat != b.Feat)=false:=by simp
 simp only [q1f,q3p,q58,q09,e1,e2,zD] at h
 unfold cmpV
 by_cases h1:a.Feat<b.Feat
 ·simp [h1] at h; simp [h1,h]
 ·by_cases h2:a.Feat > b.Feat
  ·simp [h1,h2] at h; simp [h1,h2,h]
  ·simp [h1,h2] at h; simp [h1,h2,h]
theorem byF_D {n:Nat} {a b:q0f} {r:Int} (h:q1f n a b=some r):z59 Tryz.prog 86 [.agg (q08 a),.agg (q08 b)] r:=by
 rw [z5k h]
 exact z59.ofW (vs:=[.agg #[.int .i64 a.Feat,.int .i64 a.To],.agg #[.int .i64 b.Feat,.int .i64 b.To]]) rfl (fun m=>by simp [q0m,ren,qqu]) (fun w=>byF_W _ _ _ _ w)
theorem extra:Builder.Extra Tryz.prog Tryz.layJ_ren where
 sizeBuilder:=by kernel_rfl
 liesBuilder:=by kernel_rfl
 t5:=Tryz.underlying5
 a5:=Tryz.isAgg5
 z5:=Tryz.sizeOf5
 v5:=Tryz.zeroValue5
 infoByte:=by kernel_rfl
 cellsByte:=by kernel_rfl
 sizeByte:=by kernel_rfl
 neB5:=by decide
def ql8 (n:Nat) (s:List UInt8):Option Bool:=some (qla s)
theorem qnm (n:Nat) (p1:List UInt8) (r:Bool) (hF:ql8 n p1=some r) (σ:Sg):EvU Tryz.prog 54 [.str p1] σ (fun u σ'=>u = .bool r∧σ'=σ):=by
 have:=Option.some.inj hF
 subst this
 exact EvU.of_bel (vs:=[.string ⟨⟨p1⟩⟩]) (cv:=.bool (qla p1)) rfl (fun m=>by simp [q0m,ren]) rfl (fun m=>by simp [ren]) (fun w=>qyj ⟨⟨p1⟩⟩ w) σ
def strings_Join (n:Nat) (l:List (List UInt8)) (sep:List UInt8):Option (List UInt8) :=
 if l.length≤140737488355328∧(sep.intercalate l).length≤140737488355328 then some (sep.intercalate l) else none
theorem qnk (n:Nat) (p1:List (List UInt8)) (p2:List UInt8) (r:List UInt8) (hF:strings_Join n p1 p2=some r) (σ:Sg):EvU Tryz.prog 52 [.isl false (List.map cS p1),.str p2] σ (fun u σ'=>u = .str r∧σ'=σ):=by
 unfold strings_Join at hF
 by_cases hc:p1.length≤140737488355328∧(p2.intercalate p1).length≤140737488355328
 ·rw [if_pos hc] at hF
  cases hF
  refine EvU.strJoin (fun h0 a c w=>?_) (fun bk o c w hcell hbk hlen=>?_) σ
  ·subst h0
   refine (Any.strings_Join_none Tryz.layJ extra a c ⟨⟨p2⟩⟩ w).mono ?_
   rintro e w' ⟨rfl,rfl⟩
   exact ⟨rfl,Below.refl _ _⟩
  ·have h:=Any.strings_Join Tryz.layJ extra bk o c (p1.map fun s=>⟨⟨s⟩⟩) ⟨⟨p2⟩⟩ w (fun j x hj=>by
    rw [List.getElem?_map] at hj
    cases hp:p1[j]? with
    | none=>rw [hp] at hj; cases hj
    | some s=>rw [hp] at hj; cases hj; exact hcell j s hp) hbk (by rw [List.length_map]; exact hc.1) (by rw [List.length_map]; exact hlen) (by
    have e:((p1.map fun s=>(⟨⟨s⟩⟩:ByteArray)).map (·.data.toList))=p1:=by simp [Function.comp_def]
    rw [e]; exact hc.2)
   have e:((p1.map fun s=>(⟨⟨s⟩⟩:ByteArray)).map (·.data.toList))=p1:=by simp [Function.comp_def]
   rw [e,List.length_map] at h
   exact h
 ·rw [if_neg hc] at hF; cases hF
theorem qo8 (n:Nat) (p1:List (List UInt8)) (p2:List UInt8) (r:List UInt8) (hF:strings_Join n p1 p2=some r):EvU Tryz.prog 52 [.isl false (List.map cS p1),.str p2] ⟨[],0⟩ (fun u _=>u = .str r∧Bel 0 u) :=
 (qnk n p1 p2 r hF ⟨[],0⟩).mono fun u s h=>⟨h.1,by rw [h.1]; simp [Bel]⟩
def qeq (n:Nat) (s sep:List UInt8):Option (List (List UInt8)) :=
 match sep with
 | [c]=>if s.length<4294967281 then some (Lib.splitK [c] 0 (Lib.count s [c]) s) else none
 | _=>none
theorem z6d (s:List UInt8) (c:UInt8) (hs:s.length<4294967281) (w:World):Calls Tryz.prog 53 #[.string ⟨⟨s⟩⟩,.string ⟨#[c]⟩] w fun e w' =>
  e = .returned (.slice (some ⟨w.heap.size,0,none⟩) (Lib.count s [c]+1) (Lib.count s [c]+1))∧w'=w.alloc (.cells ((Lib.splitB ⟨#[c]⟩ 0 (Lib.count s [c]) ⟨⟨s⟩⟩).map Value.string).toArray (Tryz.layS_ren.t 9)):=by
 have hcb:Lib.countB ⟨⟨s⟩⟩ ⟨#[c]⟩=Lib.count s [c]:=rfl
 have hle:=Lib.countB_le ⟨#[c]⟩ (zF 1) s.length ⟨⟨s⟩⟩ (zF _)
 have hlen:=Lib.splitB_all ⟨#[c]⟩ (zF 1) 0 _ ⟨⟨s⟩⟩ rfl
 rw [hcb] at hle hlen
 have hsz:(⟨⟨s⟩⟩:ByteArray).size=s.length:=rfl
 have h1:=Any.strings_genSplit_core (P:=Tryz.prog) (ρ:=Tryz.layS_ren) { Tryz.layS with } (by kernel_rfl) ⟨⟨s⟩⟩ ⟨#[c]⟩ 0 (-1) (Lib.count s [c]+1) w hs (zF 1) (Nat.zero_le _)
  (fun x cs hx=>by
   have:=Any.strings_Index_one (P:=Tryz.prog) (ρ:=Tryz.layS_ren) { Tryz.layS with } x c (w.alloc (.cells cs (Tryz.layS_ren.t 9)))
   rw [show Lib.indexB x ⟨#[c]⟩=Lib.indexByte x.data.toList c from Lib.index_one _ _]
   exact this)
  (by
   have:=Any.strings_Count_one (P:=Tryz.prog) (ρ:=Tryz.layS_ren) { Tryz.layS with } ⟨⟨s⟩⟩ c w
   rw [hcb,Lib.count_one]
   exact this) (by decide) (by decide) (by rw [if_pos (by decide),hcb,hsz]; rw [hsz] at hle; omega)
 rw [Nat.add_sub_cancel,hlen] at h1
 have e2:Lib.cellsOf (Lib.splitB ⟨#[c]⟩ 0 (Lib.count s [c]) ⟨⟨s⟩⟩) (Lib.count s [c]+1)=((Lib.splitB ⟨#[c]⟩ 0 (Lib.count s [c]) ⟨⟨s⟩⟩).map Value.string).toArray:=by rw [← hlen]; exact Lib.cellsOf_full _
 rw [e2] at h1
 go_enter Tryz.func53,Tryz.ntmps53
 go_wp2_with (go_at_call 78; refine h1.mono ?_; rintro e w' ⟨rfl,hw⟩; rw [hw])
 go_ret
 exact ⟨rfl,rfl⟩
theorem qli (n:Nat) (p1:List UInt8) (p2:List UInt8) (r:List (List UInt8)) (hF:qeq n p1 p2=some r) (σ:Sg):EvU Tryz.prog 53 [.str p1,.str p2] σ (fun u σ'=>u = .isl false (List.map cS r)∧σ'=σ):=by
 unfold qeq at hF
 match p2,hF with
 | [c],hF =>
  simp only at hF
  by_cases hs:p1.length<4294967281
  ·rw [if_pos hs] at hF
   cases hF
   have hle:=Lib.countB_le ⟨#[c]⟩ (zF 1) p1.length ⟨⟨p1⟩⟩ (zF _)
   have hlen:=Lib.splitB_all ⟨#[c]⟩ (zF 1) 0 _ ⟨⟨p1⟩⟩ rfl
   have hcb:Lib.countB ⟨⟨p1⟩⟩ ⟨#[c]⟩=Lib.count p1 [c]:=rfl
   have hsz:(⟨⟨p1⟩⟩:ByteArray).size=p1.length:=rfl
   rw [hcb] at hle hlen
   rw [hsz] at hle
   have hd:=Lib.splitB_data ⟨#[c]⟩ 0 (Lib.count p1 [c]) ⟨⟨p1⟩⟩
   have hl2:(Lib.splitK [c] 0 (Lib.count p1 [c]) p1).length=Lib.count p1 [c]+1:=by
    have:=congrArg List.length hd
    rw [List.length_map,hlen] at this
    exact this.symm
   refine EvU.strsNew (vs:=[.string ⟨⟨p1⟩⟩,.string ⟨#[c]⟩]) rfl (fun m=>by simp [q0m,ren]) (N:=Lib.count p1 [c]+1) (e0:=Tryz.layS_ren.t 9) (fun w=>?_) (Nat.le_of_eq hl2) (by unfold q05; omega) σ
   refine (z6d p1 c hs w).mono ?_
   rintro e w' ⟨rfl,rfl⟩
   refine ⟨by rw [hl2],_,rfl,fun j x hj=>?_⟩
   have e1:Lib.splitK [c] 0 (Lib.count p1 [c]) p1=(Lib.splitB ⟨#[c]⟩ 0 (Lib.count p1 [c]) ⟨⟨p1⟩⟩).map (·.data.toList):=hd.symm
   rw [e1,List.getElem?_map] at hj
   cases hp:(Lib.splitB ⟨#[c]⟩ 0 (Lib.count p1 [c]) ⟨⟨p1⟩⟩)[j]? with
   | none=>rw [hp] at hj; cases hj
   | some s=>rw [hp] at hj; cases hj; simp [hp]
  ·rw [if_neg hs] at hF; cases hF
end Go.Proofs
end
section
namespace Go.Proofs
open Go Go.Rx Go.Vx Tryz
set_option maxRecDepth 20000
def q12   : Option (Unit) :=
 some ()
def q13  : Nat→Option (Unit)
 | 0=>none
 | m1+1 =>
  q12
def q19 (f3:q0f→q0f→Option (Int)) (n:Nat)  : Option (Unit) :=
 q13 n
theorem q44 (f3:q0f→q0f→Option (Int)) (hf3:∀ (a0:q0f) (a1:q0f) (r:Int),f3 a0 a1=some r→EvU Tryz.prog 86 [.agg (q08 a0),.agg (q08 a1)] ⟨[],0⟩ (fun u _=>u = .int .i64 r∧Bel 0 u)) (n:Nat)  (r:Unit) (hF:q19 f3 n  = some r):EvU Tryz.prog 159 [.isl false (List.map q08 ([]:List q0f)),.int .i64 0,.int .i64 0,.fn (.func 86) [] []] ⟨[],0⟩ (fun u _=>u = .tup []∧Bel 0 u):=by
 unfold q19 at hF
 have hf3S:∀ (a0:q0f) (a1:q0f) (r:Int),f3 a0 a1=some r→∀ σ,EvU Tryz.prog 86 [.agg (q08 a0),.agg (q08 a1)] σ (fun u σ'=>u = .i6 r∧σ'=σ):=fun a0 a1 r h σ=>z78 (hf3 a0 a1 r h) σ
 refine bg4 53 fn159 ?_
 refine go ?_
 refine gS (l':=[(0,_),(1,_),(2,_),(3,_),(8,_)]) ?_
 refine z6o (fun m tm σ=>q13 m=some r∧tm=fr 53 [(0,.iM q08 ([]:List q0f)),(1,.i6 0),(2,.i6 0),(3,.fn (.func 86) [] []),(8,.i6 1)]∧σ=⟨[],0⟩) (fun tm σ=>q12=some r∧tm=fr 53 []∧σ=⟨[],0⟩) n ⟨hF,rfl,rfl⟩ ?_ ?_
 rintro _ _ ⟨hF,rfl,rfl⟩
 unfold q12 at hF
 refine go ?_
 obtain rfl:=sI hF
 exact ⟨.inl rfl,[],q1t,.tup [],⟨[],0⟩,zF _,z6y (.tup []) rfl,rfl,BU.h⟩
 rintro (_|m1) _ _ ⟨hF,rfl,rfl⟩
 cases hF
 unfold q13 at hF
 refine go ?_
 refine z74 (t:=false) rfl (fun hc=>by cases hc) (fun _=>?_)
 refine go ?_
 exact xC ⟨hF,rfl,rfl⟩
def q1i (f4:q0f→q0f→Option (Int)) (n:Nat):Nat→Option (Unit)
 | 0=>none
 | m1+1 =>
  q03 (q19 f4 n) fun r2 =>
  some ()
def q1u (f4:q0f→q0f→Option (Int)) (n:Nat) (p1:Int):Option (Unit) :=
 q1i f4 n n
theorem q5w (f4:q0f→q0f→Option (Int)) (hf4:∀ (a0:q0f) (a1:q0f) (r:Int),f4 a0 a1=some r→EvU Tryz.prog 86 [.agg (q08 a0),.agg (q08 a1)] ⟨[],0⟩ (fun u _=>u = .int .i64 r∧Bel 0 u)) (n:Nat) (p1:Int) (r:Unit) (hF:q1u f4 n p1=some r):EvU Tryz.prog 143 [.isl false (List.map q08 ([]:List q0f)),.int .i64 0,.int .i64 0,.int .i64 p1,.fn (.func 86) [] []] ⟨[],0⟩ (fun u _=>u = .tup []∧Bel 0 u):=by
 unfold q1u at hF
 have hf4S:∀ (a0:q0f) (a1:q0f) (r:Int),f4 a0 a1=some r→∀ σ,EvU Tryz.prog 86 [.agg (q08 a0),.agg (q08 a1)] σ (fun u σ'=>u = .i6 r∧σ'=σ):=fun a0 a1 r h σ=>z78 (hf4 a0 a1 r h) σ
 refine bg5 148 fn143 ?_
 refine go ?_
 refine gS (l':=[(0,_),(1,_),(2,_),(3,_),(4,_),(10,_),(11,_)]) ?_
 refine z6o (fun m tm σ=>q1i f4 n m=some r∧tm=fr 148 [(0,.iM q08 ([]:List q0f)),(1,.i6 0),(2,.i6 0),(3,.i6 p1),(4,.fn (.func 86) [] []),(10,.bool true),(11,.bool true)]∧σ=⟨[],0⟩) (fun _ _=>False) n ⟨hF,rfl,rfl⟩ ?_ ?_
 rintro _ _ h; exact h.elim
 rintro (_|m1) _ _ ⟨hF,rfl,rfl⟩
 cases hF
 unfold q1i at hF
 refine go ?_
 refine WPU.block ?_
 refine go ?_
 refine z74 (t:=true) rfl (fun _=>?_) (fun hc=>by cases hc)
 obtain ⟨r2,h3,hF⟩:=q00 hF
 refine go ?_
 refine RS.cl rfl (pC (q44 f4 hf4 n r2 h3) _) fn159 ?_
 refine go ?_
 obtain rfl:=sI hF
 exact ⟨.inr rfl,[],q1t,.tup [],⟨[],0⟩,zF _,z6y (.tup []) rfl,rfl,BU.h⟩
def q49 (f1:q0f→q0f→Option (Int)) (n:Nat)  : Option (Unit) :=
 q03 (qdo n 0) fun r1 =>
 q03 (q1u f1 n r1) fun r3 =>
 some ()
theorem q81 (f1:q0f→q0f→Option (Int)) (hf1:∀ (a0:q0f) (a1:q0f) (r:Int),f1 a0 a1=some r→EvU Tryz.prog 86 [.agg (q08 a0),.agg (q08 a1)] ⟨[],0⟩ (fun u _=>u = .int .i64 r∧Bel 0 u)) (n:Nat)  (r:Unit) (hF:q49 f1 n  = some r):EvU Tryz.prog 112 [.isl false (List.map q08 ([]:List q0f)),.fn (.func 86) [] []] ⟨[],0⟩ (fun u _=>u = .tup []∧Bel 0 u):=by
 unfold q49 at hF
 have hf1S:∀ (a0:q0f) (a1:q0f) (r:Int),f1 a0 a1=some r→∀ σ,EvU Tryz.prog 86 [.agg (q08 a0),.agg (q08 a1)] σ (fun u σ'=>u = .i6 r∧σ'=σ):=fun a0 a1 r h σ=>z78 (hf1 a0 a1 r h) σ
 refine bg2 14 fn112 ?_
 obtain ⟨r1,h2,hF⟩:=q00 hF
 obtain ⟨r3,h4,hF⟩:=q00 hF
 refine go ?_
 refine RS.q (u:=.int .u64 0) rfl (qtq rfl rfl (by simp only [qr5,un3.h,un190.h]<;>rfl) rfl) ?_
 refine RS.cl rfl (qld n 0 r1 h2 _) fn144 ?_
 refine go ?_
 refine RS.cl rfl (pC (q5w f1 hf1 n r1 r3 h4) _) fn143 ?_
 refine go ?_
 obtain rfl:=sI hF
 exact ⟨.inl rfl,[],q1t,.tup [],⟨[],0⟩,zF _,z6y (.tup []) rfl,rfl,BU.h⟩
end Go.Proofs
end
section
namespace Go.Proofs
open Go Go.Rx Go.Vx Go.Shelf Go.Sort
set_option maxRecDepth 10000
theorem sortKJ:qxd Tryz.prog 112 86 2:=fun α _ enc cf hk h1 hO cb blk off cap d w hc hH hb hs =>
 AnyQ.slices_SortFunc Tryz.sortJ 2 Tryz.isAgg66 Tryz.sizeOf66 enc hk h1 cf hO 86 cb blk off cap d w (enters_of Tryz.func86 (by kernel_rfl) rfl) hc hH hb hs
def eqA (a b:q0f):Bool:=a.Feat == b.Feat&&a.To == b.To
theorem eqA_eq (a b:q0f) (h:eqA a b=true):a=b:=by
 cases a; cases b; simpa [eqA] using h
theorem z3o:EvU Tryz.prog 112 [.isl false [],.fn (.func 86) [] []] ⟨[],0⟩ (fun u _=>u = .tup []∧Bel 0 u) :=
 q81 (fun _ _=>none) (fun a0 a1 r h=>by cases h) 1 () rfl
theorem z6e {n:Nat} (_hcmp:∀ a b r,q1f n a b=some r→EvU Tryz.prog 86 [.agg (q08 a),.agg (q08 b)] ⟨[],0⟩ (fun u _=>u = .int .i64 r∧Bel 0 u))
  (xs ys:List q0f) (h:qsl eqA (fun a b=>q1f n a b) xs=some ys) (σ:Sg) {K t:Nat} {e:TypeId} (hK:Nat.blt K σ.nx=true) (hg:gt σ.h K=some (.vec (List.map q08 xs).flatten e 2 t)) :
  EvU Tryz.prog 112 [.vl K t 0 xs.length,.fn (.func 86) [] []] σ (fun u σ'=>u = .tup []∧σ'=⟨ug σ.h K (.vec (List.map q08 ys).flatten e 2 t),σ.nx⟩) :=
 z3m (encU:=q08) (cs:=[]) q17 (by decide) (fun _=>rfl) (fun a=>qi4 0 a) trivial sortKJ eqA_eq z3o (fun a b r h=>byF_D h) xs ys h σ hK hg
end Go.Proofs
end
