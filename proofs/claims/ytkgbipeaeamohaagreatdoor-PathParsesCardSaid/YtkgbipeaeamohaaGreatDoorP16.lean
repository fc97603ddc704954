/-
  Texts of the walk: H0 H3.
-/
import Derived.WalkKit
import Derived.Sort.Grow
import Derived.Test.YtkgbipeaeamohaaGreatDoorP15
set_option linter.unusedSimpArgs false
set_option linter.unusedVariables false
section
namespace Go.Proofs
open Go Go.Rx Go.Vx Go.Shelf Go.RowKit Go.Sort
set_option maxRecDepth 100000
theorem extra:Builder.Extra Tryz.prog Tryz.layJ_ren where
 sizeBuilder:=by kernel_rfl
 liesBuilder:=by kernel_rfl
 t5:=Tryz.underlying5
 a5:=Tryz.isAgg5
 z5:=Tryz.sizeOf5
 v5:=Tryz.zeroValue5
 infoByte:=by kernel_rfl
 cellsByte:=by kernel_rfl
 sizeByte:=by kernel_rfl
 neB5:=by decide
def qdx (n:Nat) (s:List UInt8):Option Bool:=some (qbj s)
theorem qkm (n:Nat) (p1:List UInt8) (r:Bool) (hF:qdx n p1=some r) (σ:Sg):EvU Tryz.prog 54 [.str p1] σ (fun u σ'=>u = .bool r∧σ'=σ):=by
 have:=Option.some.inj hF
 subst this
 exact EvU.of_bel (vs:=[.string ⟨⟨p1⟩⟩]) (cv:=.bool (qbj p1)) rfl (fun m=>by simp [q0t,ren]) rfl (fun m=>by simp [ren]) (fun w=>qtv ⟨⟨p1⟩⟩ w) σ
def strings_Join (n:Nat) (l:List (List UInt8)) (sep:List UInt8):Option (List UInt8) :=
 if l.length≤140737488355328∧(sep.intercalate l).length≤140737488355328 then some (sep.intercalate l) else none
theorem qkj (n:Nat) (p1:List (List UInt8)) (p2:List UInt8) (r:List UInt8) (hF:strings_Join n p1 p2=some r) (σ:Sg):EvU Tryz.prog 52 [.isl false (List.map cS p1),.str p2] σ (fun u σ'=>u = .str r∧σ'=σ):=by
 unfold strings_Join at hF
 by_cases hc:p1.length≤140737488355328∧(p2.intercalate p1).length≤140737488355328
 ·rw [if_pos hc] at hF
  cases hF
  refine EvU.strJoin (fun h0 a c w=>?_) (fun bk o c w hcell hbk hlen=>?_) σ
  ·subst h0
   refine (Any.strings_Join_none Tryz.layJ extra a c ⟨⟨p2⟩⟩ w).mono ?_
   rintro e w' ⟨rfl,rfl⟩
   exact ⟨rfl,Below.refl _ _⟩
  ·have h:=Any.strings_Join Tryz.layJ extra bk o c (p1.map fun s=>⟨⟨s⟩⟩) ⟨⟨p2⟩⟩ w (fun j x hj=>by
    rw [List.getElem?_map] at hj
    cases hp:p1[j]? with
    | none=>rw [hp] at hj; cases hj
    | some s=>rw [hp] at hj; cases hj; exact hcell j s hp) hbk (by rw [List.length_map]; exact hc.1) (by rw [List.length_map]; exact hlen) (by
    have e:((p1.map fun s=>(⟨⟨s⟩⟩:ByteArray)).map (·.data.toList))=p1:=by simp [Function.comp_def]
    rw [e]; exact hc.2)
   have e:((p1.map fun s=>(⟨⟨s⟩⟩:ByteArray)).map (·.data.toList))=p1:=by simp [Function.comp_def]
   rw [e,List.length_map] at h
   exact h
 ·rw [if_neg hc] at hF; cases hF
theorem qlb (n:Nat) (p1:List (List UInt8)) (p2:List UInt8) (r:List UInt8) (hF:strings_Join n p1 p2=some r):EvU Tryz.prog 52 [.isl false (List.map cS p1),.str p2] ⟨[],0⟩ (fun u _=>u = .str r∧Bel 0 u) :=
 (qkj n p1 p2 r hF ⟨[],0⟩).mono fun u s h=>⟨h.1,by rw [h.1]; simp [Bel]⟩
def q7g (n:Nat) (s sep:List UInt8):Option (List (List UInt8)) :=
 match sep with
 | [c]=>if s.length<4294967281 then some (Lib.splitK [c] 0 (Lib.count s [c]) s) else none
 | _=>none
theorem z0a (s:List UInt8) (c:UInt8) (hs:s.length<4294967281) (w:World):Calls Tryz.prog 53 #[.string ⟨⟨s⟩⟩,.string ⟨#[c]⟩] w fun e w' =>
  e = .returned (.slice (some ⟨w.heap.size,0,none⟩) (Lib.count s [c]+1) (Lib.count s [c]+1))∧w'=w.alloc (.cells ((Lib.splitB ⟨#[c]⟩ 0 (Lib.count s [c]) ⟨⟨s⟩⟩).map Value.string).toArray (Tryz.layS_ren.t 9)):=by
 have hcb:Lib.countB ⟨⟨s⟩⟩ ⟨#[c]⟩=Lib.count s [c]:=rfl
 have hle:=Lib.countB_le ⟨#[c]⟩ (Nat.le_refl 1) s.length ⟨⟨s⟩⟩ (Nat.le_refl _)
 have hlen:=Lib.splitB_all ⟨#[c]⟩ (Nat.le_refl 1) 0 _ ⟨⟨s⟩⟩ rfl
 rw [hcb] at hle hlen
 have hsz:(⟨⟨s⟩⟩:ByteArray).size=s.length:=rfl
 have h1:=Any.strings_genSplit_core (P:=Tryz.prog) (ρ:=Tryz.layS_ren) { Tryz.layS with } (by kernel_rfl) ⟨⟨s⟩⟩ ⟨#[c]⟩ 0 (-1) (Lib.count s [c]+1) w hs (Nat.le_refl 1) (Nat.zero_le _)
  (fun x cs hx=>by
   have:=Any.strings_Index_one (P:=Tryz.prog) (ρ:=Tryz.layS_ren) { Tryz.layS with } x c (w.alloc (.cells cs (Tryz.layS_ren.t 9)))
   rw [show Lib.indexB x ⟨#[c]⟩=Lib.indexByte x.data.toList c from Lib.index_one _ _]
   exact this)
  (by
   have:=Any.strings_Count_one (P:=Tryz.prog) (ρ:=Tryz.layS_ren) { Tryz.layS with } ⟨⟨s⟩⟩ c w
   rw [hcb,Lib.count_one]
   exact this) (by decide) (by decide) (by rw [if_pos (by decide),hcb,hsz]; rw [hsz] at hle; omega)
 rw [Nat.add_sub_cancel,hlen] at h1
 have e2:Lib.cellsOf (Lib.splitB ⟨#[c]⟩ 0 (Lib.count s [c]) ⟨⟨s⟩⟩) (Lib.count s [c]+1)=((Lib.splitB ⟨#[c]⟩ 0 (Lib.count s [c]) ⟨⟨s⟩⟩).map Value.string).toArray:=by rw [← hlen]; exact Lib.cellsOf_full _
 rw [e2] at h1
 go_enter Tryz.func53,Tryz.ntmps53
 go_wp2_with (go_at_call 78; refine h1.mono ?_; rintro e w' ⟨rfl,hw⟩; rw [hw])
 go_ret
 exact ⟨rfl,rfl⟩
theorem qie (n:Nat) (p1:List UInt8) (p2:List UInt8) (r:List (List UInt8)) (hF:q7g n p1 p2=some r) (σ:Sg):EvU Tryz.prog 53 [.str p1,.str p2] σ (fun u σ'=>u = .isl false (List.map cS r)∧σ'=σ):=by
 unfold q7g at hF
 match p2,hF with
 | [c],hF =>
  simp only at hF
  by_cases hs:p1.length<4294967281
  ·rw [if_pos hs] at hF
   cases hF
   have hle:=Lib.countB_le ⟨#[c]⟩ (Nat.le_refl 1) p1.length ⟨⟨p1⟩⟩ (Nat.le_refl _)
   have hlen:=Lib.splitB_all ⟨#[c]⟩ (Nat.le_refl 1) 0 _ ⟨⟨p1⟩⟩ rfl
   have hcb:Lib.countB ⟨⟨p1⟩⟩ ⟨#[c]⟩=Lib.count p1 [c]:=rfl
   have hsz:(⟨⟨p1⟩⟩:ByteArray).size=p1.length:=rfl
   rw [hcb] at hle hlen
   rw [hsz] at hle
   have hd:=Lib.splitB_data ⟨#[c]⟩ 0 (Lib.count p1 [c]) ⟨⟨p1⟩⟩
   have hl2:(Lib.splitK [c] 0 (Lib.count p1 [c]) p1).length=Lib.count p1 [c]+1:=by
    have:=congrArg List.length hd
    rw [List.length_map,hlen] at this
    exact this.symm
   refine EvU.strsNew (vs:=[.string ⟨⟨p1⟩⟩,.string ⟨#[c]⟩]) rfl (fun m=>by simp [q0t,ren]) (N:=Lib.count p1 [c]+1) (e0:=Tryz.layS_ren.t 9) (fun w=>?_) (Nat.le_of_eq hl2) (by unfold q05; omega) σ
   refine (z0a p1 c hs w).mono ?_
   rintro e w' ⟨rfl,rfl⟩
   refine ⟨by rw [hl2],_,rfl,fun j x hj=>?_⟩
   have e1:Lib.splitK [c] 0 (Lib.count p1 [c]) p1=(Lib.splitB ⟨#[c]⟩ 0 (Lib.count p1 [c]) ⟨⟨p1⟩⟩).map (·.data.toList):=hd.symm
   rw [e1,List.getElem?_map] at hj
   cases hp:(Lib.splitB ⟨#[c]⟩ 0 (Lib.count p1 [c]) ⟨⟨p1⟩⟩)[j]? with
   | none=>rw [hp] at hj; cases hj
   | some s=>rw [hp] at hj; cases hj; simp [hp]
  ·rw [if_neg hs] at hF; cases hF
end Go.Proofs
end
section
namespace Go.Proofs
open Go Go.Rx Go.Vx Go.Shelf Go.Sort
set_option maxRecDepth 10000
def eqA (a b:q3w):Bool:=a.Feat == b.Feat&&a.To == b.To
end Go.Proofs
end
