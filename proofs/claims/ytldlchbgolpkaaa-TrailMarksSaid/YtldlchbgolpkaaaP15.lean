/-
  Texts of the walk: PlA N1.
-/
import Derived.Test.YtldlchbgolpkaaaP14
set_option linter.unusedSimpArgs false
set_option linter.unusedVariables false
section
namespace Go.Proofs
open Go Go.Rx Go.Vx
theorem bindO_s {α β:Type} (a:α) (k:α→Option β):bindO (some a) k=k a:=rfl
theorem wr {z:Int} (h1 : -9223372036854775808≤z) (h2:z≤9223372036854775807):IntKind.i64.wrap z=z:=wrap_i64 (by omega) (by omega)
theorem wr1 {i len:Nat} (h:i<len) (hl:len≤9223372036854775807):IntKind.i64.wrap ((i:Int)+1)=((i+1:Nat):Int):=by rw [wr (by omega) (by omega)]; simp
theorem get_of {α:Type} {l:List α} {i:Nat} (h:i<l.length):∃ x,l[i]? = some x∧x∈l:=⟨l[i],by simp [h],by simp⟩
theorem dlt {i n:Nat} (h:i<n):decide ((i:Int)<(n:Int))=true:=by simp; omega
theorem dnlt {i n:Nat} (h:¬ i<n):decide ((i:Int)<(n:Int))=false:=by simp; omega
section
variable {α:Type} {c:α→α→Int}
end
end Go.Proofs
end
section
namespace Go.Proofs
open Go Go.Rx Go.Vx
set_option maxRecDepth 10000
def mkM (c:Nat):Gmark:=⟨(c:Int),0⟩
def cInt (c:Nat):Int:=c
theorem back0 {n:Nat} (hn:1≤n) (p2:List GType) (p3:List GFeature) (cells:List Gcell) (ms:List Gmark):trail_Heap_back_s1 n 0 p2 p3 cells [] ms=some (cells,[]):=by
 match n,hn with
 | k+1,_=>simp [trail_Heap_back_s1,trail_Heap_back_s1_L1,trail_Heap_back_s1_K1]
theorem load1 {n:Nat} (hn:2≤n) (p2:List GType) (p3:List GFeature) {cells:List Gcell} (hl:cells.length≤1000) (s:Nat) (tr:List Gchange) (ms:List Gmark) (t:Int) :
  trail_Heap_Load_s1 n ⟨[⟨t,[]⟩]⟩ p2 p3 cells s tr ms=some ((cells.length:Int),cells++[⟨-1,t,[]⟩],s+1):=by
 match n,hn with
 | k+2,_ =>
  have h1:needO ((cells.length+1)*40≤140737488355328∧cells.length+1≤140737488355328) (some ((cells.length:Int),cells++[(⟨-1,t,[]⟩:Gcell)],s+1))=some ((cells.length:Int),cells++[⟨-1,t,[]⟩],s+1):=needO_of ⟨by omega,by omega⟩
  simp [trail_Heap_Load_s1,trail_Heap_Load_s1_L1,trail_Heap_Load_s1_L2,trail_Heap_Load_s1_K2,trail_Heap_Load_s1_K1,idxO,IntKind.wrap,IntKind.signed,IntKind.bits]
  exact needO_of ⟨by omega,by omega⟩
theorem undo_neg {n:Nat} (p2:List GType) (p3:List GFeature) (cells:List Gcell) (tr:List Gchange) (ms:List Gmark):trail_Heap_Undo_s1 n (-1) p2 p3 cells tr ms=some (false,cells,tr,ms):=by
 simp [trail_Heap_Undo_s1]
theorem undo_out {n:Nat} (p2:List GType) (p3:List GFeature) (cells:List Gcell) (tr:List Gchange) {ms:List Gmark} {z:Int} (h0:0≤z) (h:(ms.length:Int)≤z):trail_Heap_Undo_s1 n z p2 p3 cells tr ms=some (false,cells,tr,ms):=by
 have h1:decide (z<0)=false:=by simp; omega
 have h2:decide (z ≥ (ms.length:Int))=true:=by simp; omega
 simp only [trail_Heap_Undo_s1,h1,h2,cond_false,cond_true,bindO_s]
theorem undo_in {n:Nat} (hn:1≤n) (p2:List GType) (p3:List GFeature) {cells:List Gcell} {cs:List Nat} (hc:cs.length≤1000) {k c:Nat} (hk:cs[k]? = some c) (hle:c≤cells.length) :
  trail_Heap_Undo_s1 n (k:Int) p2 p3 cells [] (cs.map mkM)=some (true,cells.take c,[],(cs.take (k+1)).map mkM):=by
 have hlt:k<cs.length:=(List.getElem?_eq_some_iff.1 hk).1
 have h1:decide ((k:Int)<0)=false:=by simp
 have h2:decide ((k:Int) ≥ ((cs.map mkM).length:Int))=false:=by simp; omega
 have h3:idxO (cs.map mkM) (k:Int)=some (mkM c):=by rw [idxO_nat,List.getElem?_map,hk]; rfl
 have hw:=wr1 hlt (show cs.length≤9223372036854775807 by omega)
 simp only [trail_Heap_Undo_s1,h1,h2,cond_false,bindO_s,h3]
 rw [show (mkM c).changes=0 from rfl,show (mkM c).cells=(c:Int) from rfl,back0 hn,bindO_s,hw]
 rw [needO_of ⟨by omega,by simp only []; omega⟩,needO_of (by simp only [Int.toNat_natCast]; omega),needO_of ⟨by omega,by rw [List.length_map]; omega⟩,needO_of (by rw [Int.toNat_natCast,List.length_map]; omega)]
 simp only [Int.toNat_natCast,List.map_take]
theorem marks_L {p1:List Int} {n:Nat} (hp:p1.length≤60) (hn:2≤n) (hex:law12_exampleHolds n=some true) {r7:(List GType)×(List GFeature)}:∀ (m i:Nat) (cs:List Nat) (cells:List Gcell) (s1 s2 s3:Nat),p1.length - i<m→i≤p1.length→cs.Pairwise (· ≤ ·)→(∀ c∈cs,c≤cells.length)→cs.length≤i→cells.length≤i →
  law12_TrailMarks_L1 p1 n r7 m i (cs.map mkM) s1 [] cells s2 (cs.map cInt) s3=some true
 | 0,i,cs,cells,s1,s2,s3,hm,_,_,_,_,_=>by omega
 | m+1,i,cs,cells,s1,s2,s3,hm,hi,hs,hb,hl1,hl2=>by
  unfold law12_TrailMarks_L1
  by_cases hlt:i<p1.length
  ·obtain ⟨x,hx,_⟩:=get_of hlt
   have hw:=wr1 hlt (show p1.length≤9223372036854775807 by omega)
   simp only [dlt hlt,cond_true,idxO_nat,hx,bindO_s]
   by_cases h0:x<0
   ·simp only [h0,decide_true,cond_true]
    have e1:trail_Heap_Mark_s1 n r7.1 r7.2 cells [] (cs.map mkM) s1=some ((cs.length:Int),(cs++[cells.length]).map mkM,s1+1):=by
     unfold trail_Heap_Mark_s1
     rw [needO_of ⟨by rw [List.length_map]; omega,by rw [List.length_map]; omega⟩]
     have:IntKind.i64.wrap (((cs.map mkM++[Gmark.mk (cells.length:Int) (([]:List Gchange).length:Int)]).length:Int) - 1)=(cs.length:Int):=by
      rw [wr (by simp<;>omega) (by simp<;>omega)]; simp
     rw [this,List.map_append]<;>rfl
    have e2:((cs.length:Int) != ((cs.map cInt).length:Int))=false:=by simp
    simp only [e1,bindO_s,e2,cond_false,trail_Heap_Len_s1]
    rw [needO_of ⟨by rw [List.length_map]; omega,by rw [List.length_map]; omega⟩]
    rw [show ref07_Atom n 0=some ⟨[⟨0,[]⟩]⟩ from rfl,bindO_s,load1 hn r7.1 r7.2 (by omega),bindO_s,hw]
    have:=marks_L hp hn hex (r7:=r7) m (i+1) (cs++[cells.length]) (cells++[⟨-1,0,[]⟩]) (s1+1) (s2+1) (s3+1) (by omega) (by omega)
     (List.pairwise_append.2 ⟨hs,List.pairwise_singleton _ _,fun a ha b hb'=>by simp at hb'; subst hb'; exact hb a ha⟩)
     (fun c hc=>by
      rw [List.length_append]
      rcases List.mem_append.1 hc with h | h
      ·have:=hb c h; omega
      ·simp at h; omega) (by simp; omega) (by simp; omega)
    rw [List.map_append (f:=cInt)] at this
    exact this
   ·simp only [h0,decide_false,cond_false]
    by_cases h1:x<(cs.length:Int)
    ·obtain ⟨k,rfl⟩:∃ k:Nat,x=(k:Int):=⟨x.toNat,by omega⟩
     have hk:k<cs.length:=by omega
     obtain ⟨c,hc,hcm⟩:=get_of hk
     have hcl:=hb c hcm
     have hwk:=wr1 hk (show cs.length≤9223372036854775807 by omega)
     have hd:decide ((k:Int)<((cs.map cInt).length:Int))=true:=by rw [List.length_map]; exact dlt hk
     rw [undo_in (by omega) r7.1 r7.2 (by omega) hc hcl,bindO_s]
     simp only [hd,beq_self_eq_true,Bool.not_true,cond_false,cond_true,hwk,Int.toNat_natCast,trail_Heap_Len_s1,bindO_s]
     rw [needO_of ⟨by omega,by rw [List.length_map]; omega⟩,needO_of (by rw [List.length_map]; omega)]
     have e3:idxO ((cs.map cInt).take (k+1)) (k:Int)=some (c:Int):=by
      rw [idxO_nat,List.getElem?_take_of_lt (by omega),List.getElem?_map,hc]; rfl
     have e4:(((cells.take c).length:Int) != (c:Int))=false:=by rw [List.length_take_of_le hcl]; simp
     simp only [e3,bindO_s,e4,cond_false,law12_TrailMarks_J2,hw]
     have:=marks_L hp hn hex (r7:=r7) m (i+1) (cs.take (k+1)) (cells.take c) s1 s2 s3 (by omega) (by omega) (hs.sublist (List.take_sublist _ _))
      (fun a ha=>by
       rw [List.length_take_of_le hcl]
       obtain ⟨j,hj,rfl⟩:=List.getElem_of_mem ha
       rw [List.length_take] at hj
       rw [List.getElem_take]
       obtain ⟨hk',rfl⟩:=List.getElem?_eq_some_iff.1 hc
       by_cases hjk:j=k
       ·subst hjk; exact Nat.le_refl _
       ·exact List.pairwise_iff_getElem.1 hs j k (by omega) hk' (by omega))
      (by rw [List.length_take]; omega) (by rw [List.length_take]; omega)
     rw [List.map_take (f:=cInt)] at this
     exact this
    ·have hd:decide (x<((cs.map cInt).length:Int))=false:=by rw [List.length_map]; simp; omega
     rw [undo_out r7.1 r7.2 cells [] (by omega) (by rw [List.length_map]; omega),bindO_s]
     simp only [hd,beq_self_eq_true,Bool.not_true,cond_false,law12_TrailMarks_J2,hw]
     exact marks_L hp hn hex m (i+1) cs cells s1 s2 s3 (by omega) (by omega) hs hb (by omega) (by omega)
  ·simp only [dnlt hlt,cond_false,law12_TrailMarks_K1,undo_neg,bindO_s,Bool.not_false,cond_true,hex]
theorem marks_law' (l:List Int) {n:Nat} (hn:2≤n) (hex:law12_exampleHolds n=some true) (hsm:∃ h,law12_small n=some h) (hm:61<n):law12_TrailMarks n l=some true:=by
 unfold law12_TrailMarks
 by_cases h:(l.length:Int) > 60
 ·simp only [h,decide_true,cond_true,hex,bindO_s]
 ·obtain ⟨hh,e⟩:=hsm
  simp only [h,decide_false,cond_false,e,bindO_s,trail_New_s1]
  exact marks_L (by omega) hn hex n 0 [] [] 0 0 0 (by omega) (by omega) .nil (fun c hc=>by cases hc) (by simp) (by simp)
theorem ex12:law12_exampleHolds 200=some true:=by kernel_rfl
theorem sm12:∃ h,law12_small 200=some h:=by
 have h:(law12_small 200).isSome=true:=by kernel_rfl
 exact Option.isSome_iff_exists.1 h
theorem marks_law (l:List Int):law12_TrailMarks 200 l=some true:=marks_law' l (by decide) ex12 sm12 (by decide)
end Go.Proofs
end
