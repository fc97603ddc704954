/-
  Texts of the walk: F8.
-/
import Derived.WalkKit
import Derived.Laws.RangeString
import Derived.Laws.RangeAny
import Derived.LoopTactic
import Derived.Test.YtkgbipeaeamohaaGreatDoorP15
set_option linter.unusedSimpArgs false
set_option linter.unusedVariables false
section
namespace Go.Proofs
open Go Go.RowKit
set_option maxRecDepth 1000000
def isUp (c:Int):Bool:=decide (65≤c)&&decide (c≤90)
def isDg (c:Int):Bool:=decide (48≤c)&&decide (c≤57)
theorem z0x (c:Int) (w:World):Calls Tryz.prog 80 #[.int .i32 c] w fun e w'=>e = .returned (.bool (isUp c))∧w'=w:=by
 go_enter Tryz.func80,Tryz.ntmps80
 go_wp2
 all_goals go_ret
 all_goals (simp_all [isUp]; try omega)
theorem qy8 (c:Int) (w:World):Calls Tryz.prog 108 #[.int .i32 c] w fun e w'=>e = .returned (.bool (isDg c))∧w'=w:=by
 go_enter Tryz.func108,Tryz.ntmps108
 go_wp2
 all_goals go_ret
 all_goals (simp_all [isDg]; try omega)
def qle (i:Nat) (c:Int):Bool:=isUp c || (!decide (i=0)&&(isDg c || decide (c=45)))
def qhb:Nat→List UInt8→Bool
 | _,[]=>true
 | i,b::l=>qle i b.toNat&&qhb (i+1) l
def qla (l:List UInt8):Bool:=decide (0<l.length)&&decide (l.length≤32)&&qhb 0 l
theorem qmm:∀ (l:List UInt8) (i p:Nat) (hp:p<l.length),qle (i+p) (l[p]).toNat=false→qhb i l=false
 | b::l,i,0,_,h=>by simp only [qhb]; simp at h; simp [h]
 | b::l,i,p+1,hp,h=>by
  simp only [qhb]
  rw [qmm l (i+1) p (by simpa using hp) (by simpa [Nat.add_assoc,Nat.add_comm 1 p] using h)]
  simp
theorem qml:∀ (l:List UInt8) (i:Nat),(∀ p (hp:p<l.length),qle (i+p) (l[p]).toNat=true)→qhb i l=true
 | [],i,_=>rfl
 | b::l,i,h=>by
  simp only [qhb,Bool.and_eq_true]
  refine ⟨by have:=h 0 (by simp); rw [Nat.add_zero] at this; exact this,qml l (i+1) fun p hp=>?_⟩
  have:=h (p+1) (by simpa using hp)
  simpa [Nat.add_assoc,Nat.add_comm 1 p] using this
theorem qrx {i:Nat} {c:Int} (h:128≤c):qle i c=false:=by
 have h1:¬ c≤90:=by omega
 have h2:¬ c≤57:=by omega
 have h3:¬ c=45:=by omega
 simp [qle,isUp,isDg,h1,h2,h3]
theorem qut (s:ByteArray) (p:Nat) (hp:p<s.size):s.data.toList[p]'(by simpa using hp)=s[p]'hp:=by
 simp [ByteArray.getElem_eq_getElem_data]
theorem dec_ok (s:ByteArray) (pos:Nat) (hp:pos<s.size):qle pos ((Utf8.decode s pos).1:Nat)=qle pos ((s[pos]'hp).toNat:Nat)∧(qle pos ((Utf8.decode s pos).1:Nat)=true→(Utf8.decode s pos).2=1):=by
 by_cases ha:(s[pos]'hp).toNat<128
 ·rw [decode_ascii s pos hp ha]; exact ⟨rfl,fun _=>rfl⟩
 ·have h1:=(decode_high s pos hp (by omega)).1
  have e1:qle pos ((Utf8.decode s pos).1:Nat)=false:=qrx (by omega)
  have e2:qle pos ((s[pos]'hp).toNat:Nat)=false:=qrx (by omega)
  rw [e1,e2]; exact ⟨rfl,fun h=>by cases h⟩
theorem qyi {s:ByteArray} {w:World} {pos c wd:Nat} (hp:pos<s.size) (hok:∀ (p:Nat) (hp:p<s.size),p<pos→qle p (s[p]'hp).toNat=true) (hd1:qle pos (c:Int)=qle pos ((s[pos]'hp).toNat:Nat)) (hd2:qle pos (c:Int)=true→wd=1) (hk:qle pos (c:Int)=true) :
  (∃ pos_1,w.iter s (pos+wd)=w.iter s pos_1∧pos_1≤s.size∧∀ (p:Nat) (hp:p<s.size),p<pos_1→qle p (s[p]'hp).toNat=true)∧s.size - (w.iter s (pos+wd)).iterPos w.heap.size<s.size - (w.iter s pos).iterPos w.heap.size:=by
 have hw:=hd2 hk
 subst hw
 refine ⟨⟨pos+1,rfl,by omega,fun p hp' hlt=>?_⟩,by simp; omega⟩
 by_cases e:p=pos
 ·subst e; rw [← hd1]; exact hk
 ·exact hok p hp' (by omega)
theorem z2l {s:ByteArray} {pos c:Nat} (hp:pos<s.size) (hd1:qle pos (c:Int)=qle pos ((s[pos]'hp).toNat:Nat)) (hk:qle pos (c:Int)=false):qla s.data.toList=false:=by
 have h:=qmm s.data.toList 0 pos (by simpa using hp) (by
  rw [Nat.zero_add]
  have e:=qut s pos hp
  rw [e,← hd1,hk])
 simp [qla,h]
theorem z2m {s:ByteArray} {pos:Nat} (hp:¬ pos<s.size) (h0:¬ s.size=0) (h32:(s.size:Int)≤32) (hok:∀ (p:Nat) (hp:p<s.size),p<pos→qle p (s[p]'hp).toNat=true):qla s.data.toList=true:=by
 have hl:s.data.toList.length=s.size:=by simp
 have h:=qml s.data.toList 0 (fun p hp'=>by
  have hps:p<s.size:=by omega
  have e:=qut s p hps
  rw [Nat.zero_add,e]
  exact hok p hps (by omega))
 have h1:0<s.size:=by omega
 have h2:s.size≤32:=by omega
 simp only [qla,h,hl,h1,h2,decide_true,Bool.and_self]
theorem qog (w:World) (s:ByteArray) (p:Nat):Below w.heap.size w (w.iter s p):=⟨rfl,rfl,rfl,by simp [World.iter],fun k hk=>Below.heap_alloc _ _ _ hk⟩
theorem qyo (s : ByteArray) (w : World) : Calls Tryz.prog 79 #[.string s, .func (.func 80) #[] #[]] w fun e w' => e = .returned (.bool (qla s.data.toList)) ∧ Below w.heap.size w w' := by
  have hl : s.data.toList.length = s.size := by simp
  go_enter Tryz.func79, Tryz.ntmps79
  by_cases h0 : s.size = 0
  · have hf : qla s.data.toList = false := by simp [qla, hl, h0]
    go_wp2
    all_goals go_ret
    all_goals simp_all
    all_goals exact Below.refl _ _
  by_cases h32 : (s.size : Int) > 32
  · have hf : qla s.data.toList = false := by simp [qla, hl]; omega
    go_wp2
    all_goals go_ret
    all_goals simp_all
    all_goals exact Below.refl _ _
  have hne : ((s.size : Int) == 0) = false := beq_eq_false_iff_ne.2 (by omega)
  have hsz : s.size < 9223372036854775807 := by omega
  go_wp2_with (first
    | (go_at_call 80; refine (z0x _ _).mono ?_; rintro e w' ⟨rfl, rfl⟩)
    | (go_at_call 108; refine (qy8 _ _).mono ?_; rintro e w' ⟨rfl, rfl⟩))
  go_loopw [] (fun w' => ∃ pos : Nat, w' = w.iter s pos ∧ pos ≤ s.size ∧ ∀ p (hp : p < s.size), p < pos → qle p (s[p]'hp).toNat = true) (fun w' => s.size - w'.iterPos w.heap.size)
  case atStart => exact ⟨0, rfl, Nat.zero_le _, fun p _ h => by omega⟩
  case round =>
    obtain ⟨pos, rfl, hpos, hok⟩ := hrel
    by_cases hp : pos < s.size
    · have hnx : ∀ ty, (Instr.next (.pointer (some ⟨w.heap.size, 0, none⟩)) true ty).run Tryz.prog (w.iter s pos) = _ := fun ty => run_next_any w s pos ty hp
      obtain ⟨hd1, hd2⟩ := dec_ok s pos hp
      generalize hdec : (Utf8.decode s pos) = dc at *
      obtain ⟨c, wd⟩ := dc
      simp only at hd1 hd2
      go_wp2_with (first
        | (go_at_call 80; refine (z0x _ _).mono ?_; rintro e w' ⟨rfl, rfl⟩)
        | (go_at_call 108; refine (qy8 _ _).mono ?_; rintro e w' ⟨rfl, rfl⟩))
      all_goals first
        | (have hk : qle pos (c : Int) = true := by simp_all [qle]
           exact qyi hp hok hd1 hd2 hk)
        | (have hk : qle pos (c : Int) = false := by simp_all [qle]
           have hfb := z2l hp hd1 hk
           go_ret
           refine ⟨by rw [hfb]; rfl, qog _ _ _⟩)
    · have hnx : ∀ ty, (Instr.next (.pointer (some ⟨w.heap.size, 0, none⟩)) true ty).run Tryz.prog (w.iter s pos) = _ := fun ty => run_next_end w s pos ty hp
      go_wp2
      go_ret
      have hfe := z2m hp h0 h32 hok
      refine ⟨by rw [hfe]; rfl, qog _ _ _⟩
theorem qyj (s:ByteArray) (w:World):Calls Tryz.prog 54 #[.string s] w fun e w'=>e = .returned (.bool (qla s.data.toList))∧Below w.heap.size w w':=by
 go_enter Tryz.func54,Tryz.ntmps54
 go_wp2_with (go_at_call 79; refine (qyo _ _).mono ?_; rintro e w' ⟨rfl,hb⟩)
 go_ret
 exact ⟨rfl,hb⟩
end Go.Proofs
end
