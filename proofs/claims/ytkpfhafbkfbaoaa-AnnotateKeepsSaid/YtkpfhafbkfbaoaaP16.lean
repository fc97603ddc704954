/-
  Texts of the walk: A6 A7 A8 A9.
-/
import Derived.Test.YtkpfhafbkfbaoaaP15
section
namespace Go.Proofs
open Go Go.Rx Go.Vx Go.Sort
set_option linter.unusedVariables false
set_option linter.unusedSimpArgs false
theorem nodesL_drop {l : List GDeriv} {i : Nat} {x : GDeriv} (h : l[i]? = some x) : nodesL (l.drop i) = nodes x + nodesL (l.drop (i + 1)):=by rw [drop_cons' h]; simp [nodesL]
theorem Nodes_L {d : GDeriv} (hl : d.Kids.length ≤ 9223372036854775807) {most : Int} (h1 : 1 ≤ most) (h2 : most ≤ 61) {self : GDeriv→Int→Option Int}
  (hself : ∀ x ∈ d.Kids,∀ q : Int,1 ≤ q→q ≤ 61→∃ c,self x q = some c∧1 ≤ c∧c ≤ q∧(c < q→c = nodes x)) : ∀ (m i : Nat) (z : Int),d.Kids.length - i < m→i ≤ d.Kids.length→1 ≤ z→z ≤ most →
  ∃ c,q03d d most self m z i = some c∧1 ≤ c∧c ≤ most∧(c < most→c = z + nodesL (d.Kids.drop i))
 | 0,i,z,hm,_,_,_=>by omega
 | m + 1,i,z,hm,hi,hz1,hz2=>by
  unfold q03d
  by_cases hlt : i < d.Kids.length
  ·obtain ⟨x,hx,hxm⟩:=get_of hlt
   rw [dlt hlt,cond_true,bindO_s]
   by_cases hz : z < most
   ·obtain ⟨c,k1,k2,k3,k4⟩:=hself x hxm (most - z) (by omega) (by omega)
    simp only [hz,decide_true,cond_true,idxO_nat,hx,bindO_s,wr (show -9223372036854775808 ≤ most - z by omega) (by omega),k1,wr (show -9223372036854775808 ≤ z + c by omega) (by omega),wr1 hlt hl]
    obtain ⟨c',q1,q2,q3,q4⟩:=Nodes_L hl h1 h2 hself m (i + 1) (z + c) (by omega) (by omega) (by omega) (by omega)
    refine ⟨c',q1,q2,q3,fun h=>?_⟩
    have:=q4 h
    rw [nodesL_drop hx]
    by_cases hc : c < most - z
    ·have:=k4 hc; omega
    ·have : z + c = most:=by omega
     omega
   ·simp only [hz,decide_false,cond_false,q04b]
    exact ⟨z,rfl,hz1,hz2,fun h=>by omega⟩
  ·simp only [dnlt hlt,cond_false,bindO_s,q04b,drop_nil' hlt]
   exact ⟨z,rfl,hz1,hz2,fun _=>by simp [nodesL]⟩
theorem Nodes_ok : ∀ (s : Nat) (d : GDeriv),SizeOf.sizeOf d < s→okG d→∀ n,SizeOf.sizeOf d ≤ n→∀ most : Int,1 ≤ most→most ≤ 61→∃ c,ref37_Nodes n d most = some c∧1 ≤ c∧c ≤ most∧(c < most→c = nodes d)
 | 0,d,hs,_,_,_,_,_,_=>by omega
 | s + 1,d,hs,hok,n,hn,most,h1,h2=>by
  have hk:=kids_lt d
  cases n with
  | zero=>omega
  | succ n =>
   obtain ⟨c,q1,q2,q3,q4⟩:=Nodes_L (d:=d) (okG_len hok) h1 h2 (self:=ref37_Nodes n) (fun x hx q h1 h2=>by
    have:=kid_lt d hx
    exact Nodes_ok s x (by omega) (okG_kid hok hx) n (by omega) q h1 h2) n 0 1 (by omega) (by omega) (by omega) h1
   rw [Int.ofNat_zero] at q1
   refine ⟨c,by simp only [ref37_Nodes,ref37_Nodes_b,q1],q2,q3,fun h=>?_⟩
   have:=q4 h
   rw [nodes_eq]; simp at this; omega
def own (d : GDeriv) : List GProp:=if d.Kind = 0 then [⟨0,d.Name,d.From,d.To⟩] else if d.Kind = 1 then [⟨1,d.Name,d.From,d.To⟩] else if d.Kind = 2 then [⟨2,d.Name,d.From,d.To⟩,⟨3,[],d.From,d.To⟩] else []
mutual
def props : GDeriv→List GProp
 | .mk a b c e ks=>own (.mk a b c e ks) ++ propsL ks
def propsL : List GDeriv→List GProp
 | []=>[]
 | d :: l=>props d ++ propsL l
end
theorem props_eq (d : GDeriv) : props d = own d ++ propsL d.Kids:=by cases d; simp only [props]; rfl
theorem own_len (d : GDeriv) : (own d).length ≤ 2 := by unfold own; split; · simp
                                                        split; · simp
                                                        split <;> simp
mutual
theorem props_len : ∀ d : GDeriv,(props d).length ≤ 2 * nodes d
 | .mk a b c e ks=>by
  have:=propsL_len ks
  have:=own_len (.mk a b c e ks)
  simp only [props,nodes,List.length_append]; omega
theorem propsL_len : ∀ l : List GDeriv,(propsL l).length ≤ 2 * nodesL l
 | []=>by simp [propsL,nodesL]
 | d :: l=>by
  have:=props_len d
  have:=propsL_len l
  simp only [propsL,nodesL,List.length_append]; omega
end
theorem propsL_drop {l : List GDeriv} {i : Nat} {x : GDeriv} (h : l[i]? = some x) : propsL (l.drop i) = props x ++ propsL (l.drop (i + 1)):=by rw [drop_cons' h]; simp [propsL]
theorem kz {a b : Int} (h : a = b) : (a == b) = true:=by simpa using h
theorem knz {a b : Int} (h : ¬ a = b) : (a == b) = false:=by simpa using h
theorem collect_L {d : GDeriv} (hl : d.Kids.length ≤ 9223372036854775807) {self : List GProp→GDeriv→Option (List GProp)} (hself : ∀ x ∈ d.Kids,∀ l,l.length + 2 * nodes x ≤ 1000→self l x = some (l ++ props x)) :
  ∀ (m i : Nat) (l : List GProp),d.Kids.length - i < m→i ≤ d.Kids.length→l.length + 2 * nodesL (d.Kids.drop i) ≤ 1000→q02e d self m i l = some (l ++ propsL (d.Kids.drop i))
 | 0,i,l,hm,_,_=>by omega
 | m + 1,i,l,hm,hi,hb=>by
  unfold q02e
  by_cases hlt : i < d.Kids.length
  ·obtain ⟨x,hx,hxm⟩:=get_of hlt
   rw [nodesL_drop hx] at hb
   simp only [dlt hlt,cond_true,idxO_nat,hx,bindO_s,hself x hxm l (by omega),wr1 hlt hl]
   have:=props_len x
   rw [collect_L hl hself m (i + 1) (l ++ props x) (by omega) (by omega) (by simp; omega),propsL_drop hx,List.append_assoc]
  ·simp only [dnlt hlt,cond_false,q04i,drop_nil' hlt,propsL,List.append_nil]
theorem collect_ok : ∀ (s : Nat) (d : GDeriv),SizeOf.sizeOf d < s→okG d→∀ n,SizeOf.sizeOf d ≤ n→∀ l,l.length + 2 * nodes d ≤ 1000→q01l n l d = some (l ++ props d)
 | 0,d,hs,_,_,_,_,_=>by omega
 | s + 1,d,hs,hok,n,hn,l,hb=>by
  have hk:=kids_lt d
  have hnd:=nodes_eq d
  cases n with
  | zero=>omega
  | succ n =>
   have hL : ∀ l : List GProp,l.length + 2 * nodesL d.Kids ≤ 1000→q02e d (q01l n) n 0 l = some (l ++ propsL d.Kids):=fun l hb=>by
    have:=collect_L (d:=d) (okG_len hok) (self:=q01l n) (fun x hx l hb=>by
     have:=kid_lt d hx
     exact collect_ok s x (by omega) (okG_kid hok hx) n (by omega) l hb) n 0 l (by omega) (by omega) (by simpa using hb)
    simpa using this
   simp only [q01l,disc_collect_b,q03j,q03n,q03k]
   rw [props_eq,own]
   by_cases h0 : d.Kind = 0
   ·rw [kz h0,cond_true,needO_of ⟨by omega,by omega⟩,hL _ (by simp; omega),if_pos h0,List.append_assoc]
   ·rw [knz h0,cond_false,if_neg h0]
    by_cases h1 : d.Kind = 1
    ·rw [kz h1,cond_true,needO_of ⟨by omega,by omega⟩,hL _ (by simp; omega),if_pos h1,List.append_assoc]
    ·rw [knz h1,cond_false,if_neg h1]
     by_cases h2 : d.Kind = 2
     ·rw [kz h2,cond_true,needO_of ⟨by omega,by omega⟩,hL _ (by simp; omega),if_pos h2,List.append_assoc]
     ·rw [knz h2,cond_false,if_neg h2,hL _ (by omega)]; rfl
theorem eqP_iff (x y : GProp) : eqGProp x y = true↔x = y:=by
 cases x; cases y
 simp only [eqGProp,Bool.and_eq_true,beq_iff_eq,bytesEq_iff,GProp.mk.injEq]
instance : DecidableEq GProp:=fun x y=>decidable_of_iff (eqGProp x y = true) (eqP_iff x y)
theorem eqP_dec (x y : GProp) : eqGProp x y = decide (x = y):=by rw [Bool.eq_iff_iff,eqP_iff]; simp
def nxt (c : GProp) : List GProp→List GProp
 | []=>[]
 | y :: l=>if y = c then nxt y l else y :: nxt y l
theorem dedup_nxt : ∀ (l : List GProp) (x : GProp),dedup ccP (x :: l) = x :: nxt x l
 | [],x=>by simp [dedup,nxt]
 | y :: l,x=>by
  simp only [dedup,nxt,dedup_nxt l y]
  by_cases h : y = x
  ·subst h
   simp [cmpP_ok.self y]
  ·have : ¬ ccP x y = 0:=fun e=>h (ccP_zero.1 e).symm
   simp [h,this]
theorem compact_L2 {p : List GProp} (hp : p.length ≤ 1000) {k0 : Nat} (hk0 : k0 ≤ p.length) : ∀ (m k j : Nat) (L : List GProp) (c : GProp),p.length - (k0 + j) < m→1 ≤ j→k0 + j ≤ p.length→k + 1 ≤ k0 + j→L.length = p.length→L.drop (k0 + j - 1) = p.drop (k0 + j - 1)→p[k0 + j - 1]? = some c →
  q00w p k0 m k j L = some (L.take k ++ nxt c (p.drop (k0 + j)))
 | 0,k,j,L,c,hm,_,_,_,_,_,_=>by omega
 | m + 1,k,j,L,c,hm,hj,hjl,hk,hL,hd,hc=>by
  have get : ∀ q,k0 + j - 1 ≤ q→L[q]? = p[q]?:=fun q hq=>by
   have:=congrArg (fun l : List GProp=>l[q - (k0 + j - 1)]?) hd
   simpa [List.getElem?_drop,show k0 + j - 1 + (q - (k0 + j - 1)) = q by omega] using this
  unfold q00w
  by_cases hlt : k0 + j < p.length
  ·obtain ⟨x,hx,_⟩:=get_of hlt
   have e1 : decide ((j : Int) < (((p.length - (k0 : Int).toNat) : Nat) : Int)) = true:=by simp; omega
   have i1 : idxV L (0 + (k0 : Int).toNat) (p.length - (k0 : Int).toNat) (j : Int) = some x:=by
    unfold idxV
    rw [if_pos ⟨by omega,by simp; omega⟩]
    simp only [Int.toNat_natCast,Nat.zero_add]
    rw [get (k0 + j) (by omega),hx]
   have i2 : idxV L (0 + (k0 : Int).toNat) (p.length - (k0 : Int).toNat) (IntKind.i64.wrap ((j : Int) - 1)) = some c:=by
    rw [wr (by omega) (by omega)]
    unfold idxV
    rw [if_pos ⟨by omega,by simp; omega⟩]
    simp only [Int.toNat_natCast,Nat.zero_add]
    rw [show k0 + ((j : Int) - 1).toNat = k0 + j - 1 by omega,get _ (by omega),hc]
   obtain ⟨w,hw,_⟩:=get_of (show k < L.length by omega)
   have wj : IntKind.i64.wrap ((j : Int) + 1) = ((j + 1 : Nat) : Int):=wrn (by simp) (by omega)
   have wk : IntKind.i64.wrap ((k : Int) + 1) = ((k + 1 : Nat) : Int):=wrn (by simp) (by omega)
   simp only [e1,cond_true,i1,i2,bindO_s,idxO_nat,hw,q01y,wj,wk,eqP_dec,drop_cons' hx,nxt]
   by_cases hxc : x = c
   ·simp only [hxc,decide_true,Bool.not_true,cond_false,if_true]
    have:=compact_L2 hp hk0 m k (j + 1) L x (by omega) (by omega) (by omega) (by omega) hL (by
     have:=congrArg (List.drop 1) hd
     simpa [List.drop_drop,show k0 + j - 1 + 1 = k0 + j by omega,show k0 + (j + 1) - 1 = k0 + j by omega] using this) (by simpa using hx)
    rw [this,hxc]; rfl
   ·simp only [hxc,decide_false,Bool.not_false,cond_true,if_false]
    have:=compact_L2 hp hk0 m (k + 1) (j + 1) (L.set (0 + (k : Int).toNat) x) x (by omega) (by omega) (by omega) (by omega) (by simpa using hL) (by
     have h1:=congrArg (List.drop 1) hd
     simp only [List.drop_drop,show k0 + j - 1 + 1 = k0 + j by omega] at h1
     rw [show k0 + (j + 1) - 1 = k0 + j by omega,← h1]
     rw [List.drop_set]
     simp; omega) (by simpa using hx)
    rw [this]
    have ht : (L.set (0 + (k : Int).toNat) x).take (k + 1) = L.take k ++ [x]:=by
     rw [Nat.zero_add,Int.toNat_natCast,List.take_add_one,List.take_set_of_le (Nat.le_refl _)]
     congr 1
     rw [List.getElem?_set]
     simp; omega
    rw [ht,List.append_assoc]; rfl
  ·have hpos : k0 + j = p.length:=by omega
   have e1 : decide ((j : Int) < (((p.length - (k0 : Int).toNat) : Nat) : Int)) = false:=by simp; omega
   have hlen : (clrV L (0 + (k : Int).toNat) (L.length - (k : Int).toNat) (GProp.mk 0 [] 0 0)).length = L.length:=clrV_len (by simp; omega)
   simp only [e1,cond_false,q028,hlen]
   rw [needO_of ⟨by omega,by omega⟩,needO_of (by simp; omega),needO_of ⟨by omega,by omega⟩,needO_of (by simp; omega),drop_nil' (by omega),nxt,List.append_nil]
   congr 1
   simp only [Int.toNat_natCast,Nat.zero_add,clrV]
   rw [List.take_append_of_le_length (by simp; omega),List.take_take,Nat.min_self]
theorem compact_L1 {p : List GProp} (hp : p.length ≤ 1000) {n : Nat} (hn : p.length < n) : ∀ (m k : Nat) (c : GProp),p.length - k < m→1 ≤ k→k ≤ p.length→p[k - 1]? = some c →
  q01g p n m k = some (p.take k ++ nxt c (p.drop k))
 | 0,k,c,hm,_,_,_=>by omega
 | m + 1,k,c,hm,hk1,hk,hc=>by
  unfold q01g
  by_cases hlt : k < p.length
  ·obtain ⟨x,hx,_⟩:=get_of hlt
   have i2 : idxO p (IntKind.i64.wrap ((k : Int) - 1)) = some c:=by
    rw [wrn (k:=k - 1) (by omega) (by omega),idxO_nat,hc]
   simp only [dlt hlt,cond_true,idxO_nat,hx,bindO_s,i2,eqP_dec,wr1 hlt (show p.length ≤ 9223372036854775807 by omega)]
   by_cases hxc : x = c
   ·simp only [hxc,decide_true,cond_true]
    rw [needO_of ⟨by omega,by omega⟩]
    have:=compact_L2 hp (k0:=k) (by omega) n k 1 p x (by omega) (by omega) (by omega) (by omega) rfl rfl (by simpa using hx)
    rw [show ((1 : Nat) : Int) = 1 from rfl] at this
    rw [this,drop_cons' hx,nxt,if_pos hxc]
   ·simp only [hxc,decide_false,cond_false]
    rw [compact_L1 hp hn m (k + 1) x (by omega) (by omega) (by omega) (by simpa using hx),drop_cons' hx,nxt,if_neg hxc,take_snoc hx,List.append_assoc]
    rfl
  ·simp only [dnlt hlt,cond_false,q029,drop_nil' hlt,nxt,List.append_nil]
   rw [List.take_of_length_le (by omega)]
theorem compact_ok {p : List GProp} (hp : p.length ≤ 1000) {n : Nat} (hn : p.length < n) : q023 n p = some (dedup ccP p):=by
 unfold q023
 match p,hp,hn with
 | [],_,_=>simp [dedup]
 | [x],_,_=>simp [dedup]
 | x :: y :: l,hp,hn =>
  have e : decide (((x :: y :: l).length : Int) < 2) = false:=by simp; omega
  rw [e,cond_false]
  have:=compact_L1 hp hn n 1 x (by omega) (by omega) (by simp) (by simp)
  rw [show ((1 : Nat) : Int) = 1 from rfl] at this
  rw [this,dedup_nxt]; simp
def PS (d : GDeriv) : List GProp:=dedup ccP (srtP (props d))
theorem ccP_eq (x y : GProp) (h : ccP x y = 0) : x = y:=ccP_zero.1 h
theorem srtP_mem {l : List GProp} {x : GProp} : x ∈ srtP l↔x ∈ l:=(srt_perm (ltOf ccP) l).mem_iff
theorem PS_mem {d : GDeriv} {x : GProp} : x ∈ PS d↔x ∈ props d:=by unfold PS; rw [dedup_mem ccP_eq,srtP_mem]
theorem PS_up (d : GDeriv) : Up ccP (PS d):=dedup_up cmpP_ok ccP_eq (srt_le cmpP_ok _)
theorem PS_len (d : GDeriv) : (PS d).length ≤ 2 * nodes d:=by
 have h1:=dedup_len (c:=ccP) (srtP (props d))
 have h2:=props_len d
 rw [srtP_len] at h1
 unfold PS; omega
theorem Props_ok {d : GDeriv} (hok : okG d) {n : Nat} (hn : SizeOf.sizeOf d ≤ n) (hn2 : 1001 ≤ n) (hb : nodes d ≤ 500) : disc_Props n d = some (PS d):=by
 have hl:=props_len d
 have h1:=collect_ok _ d (Nat.lt_succ_self _) hok n hn [] (by simp; omega)
 simp only [disc_Props,h1,bindO_s,List.nil_append]
 rw [needO_of (by omega),compact_ok (by rw [srtP_len]; omega) (by rw [srtP_len]; omega),bindO_s]
 rfl
theorem half {i j : Nat} (hi : i ≤ 1000) (hj : j ≤ 1000) : IntKind.i64.wrap ((IntKind.u64.wrap (IntKind.i64.wrap ((i : Int) + (j : Int)))).fdiv (2 ^ (min (1 : Int).toNat IntKind.u64.bits))) = (((i + j) / 2 : Nat) : Int):=by
 have e1 : IntKind.i64.wrap ((i : Int) + (j : Int)) = ((i + j : Nat) : Int):=wrn (by simp) (by omega)
 have e2 : IntKind.u64.wrap ((i + j : Nat) : Int) = ((i + j : Nat) : Int):=IntWalk.u64_in _ ⟨by omega,by omega⟩
 have e3 : ((2 : Int) ^ (min (1 : Int).toNat IntKind.u64.bits)) = 2:=by decide
 rw [e1,e2,e3,Int.fdiv_eq_ediv_of_nonneg _ (by omega)]
 exact wrn (by omega) (by omega)
theorem up_get {l : List GProp} (h : Up ccP l) {i j : Nat} {x y : GProp} (hij : i < j) (hx : l[i]? = some x) (hy : l[j]? = some y) : ccP x y < 0:=by
 obtain ⟨h1,rfl⟩:=List.getElem?_eq_some_iff.1 hx
 obtain ⟨h2,rfl⟩:=List.getElem?_eq_some_iff.1 hy
 exact List.pairwise_iff_getElem.1 h i j h1 h2 hij
theorem bs_L {l : List GProp} (hl : l.length ≤ 1000) (hu : Up ccP l) {p : GProp} {n : Nat} (hn : 5 ≤ n) : ∀ (m i j : Nat),j - i < m→i ≤ j→j ≤ l.length→(∀ q x,q < i→l[q]? = some x→ccP x p < 0)→(∀ q x,j ≤ q→l[q]? = some x→0 ≤ ccP x p) →
  ∃ z,q000 l p (disc_order n) m i j = some (z,decide (p ∈ l))
 | 0,i,j,hm,_,_,_,_=>by omega
 | m + 1,i,j,hm,hij,hj,lo,hi=>by
  unfold q000
  by_cases hlt : i < j
  ·have e1 : decide ((i : Int) < (j : Int)) = true:=by simp; omega
   have hh : (i + j) / 2 < j:=by omega
   have hh' : i ≤ (i + j) / 2:=by omega
   obtain ⟨x,hx,_⟩:=get_of (show (i + j) / 2 < l.length by omega)
   have w1 : IntKind.i64.wrap ((((i + j) / 2 : Nat) : Int) + 1) = (((i + j) / 2 + 1 : Nat) : Int):=wrn (by simp) (by omega)
   simp only [e1,cond_true,half (show i ≤ 1000 by omega) (show j ≤ 1000 by omega),idxO_nat,hx,bindO_s,order_n hn,q00f,w1]
   by_cases hc : ccP x p < 0
   ·rw [decide_eq_true hc,cond_true]
    refine bs_L hl hu hn m ((i + j) / 2 + 1) j (by omega) (by omega) hj (fun q y hq hy=>?_) hi
    by_cases he : q = (i + j) / 2
    ·subst he; rw [hx] at hy; cases hy; exact hc
    ·exact cmpP_ok.lt_of (up_get hu (show q < (i + j) / 2 by omega) hy hx) (by omega)
   ·rw [decide_eq_false hc,cond_false]
    refine bs_L hl hu hn m i ((i + j) / 2) (by omega) (by omega) (by omega) lo (fun q y hq hy=>?_)
    by_cases he : q = (i + j) / 2
    ·subst he; rw [hx] at hy; cases hy; omega
    ·have h1:=up_get hu (show (i + j) / 2 < q by omega) hx hy
     rcases Int.lt_or_le (ccP y p) 0 with h2 | h2
     ·have:=cmpP_ok.lt_of h1 (by omega : ccP y p ≤ 0); omega
     ·exact h2
  ·have hij' : i = j:=by omega
   subst hij'
   have e1 : decide ((i : Int) < (i : Int)) = false:=by simp
   simp only [e1,cond_false,q00v]
   have none_lo : ∀ q,q < i→l[q]? ≠ some p:=fun q hq h=>by
    have:=lo q p hq h
    rw [cmpP_ok.self] at this; omega
   by_cases hil : i < l.length
   ·obtain ⟨x,hx,hxm⟩:=get_of hil
    simp only [dlt hil,cond_true,idxO_nat,hx,bindO_s,order_n hn]
    refine ⟨i,?_⟩
    have : (ccP x p == 0) = decide (p ∈ l):=by
     rw [Bool.eq_iff_iff]
     simp only [beq_iff_eq,decide_eq_true_eq]
     constructor
     ·intro h; have:=ccP_zero.1 h; subst this; exact hxm
     ·intro h
      obtain ⟨q,hq⟩:=List.getElem?_of_mem h
      rcases Nat.lt_trichotomy q i with h1 | h1 | h1
      ·exact absurd hq (none_lo q h1)
      ·subst h1; rw [hx] at hq; cases hq; exact cmpP_ok.self _
      ·have h2:=up_get hu h1 hx hq
       have h3:=hi i x (Nat.le_refl _) hx
       omega
    rw [this]
   ·simp only [dnlt hil,cond_false,bindO_s]
    refine ⟨i,?_⟩
    have : p ∉ l:=fun h=>by
     obtain ⟨q,hq⟩:=List.getElem?_of_mem h
     have:=(List.getElem?_eq_some_iff.1 hq).1
     exact none_lo q (by omega) hq
    simp [this]
theorem has_ok {l : List GProp} (hl : l.length ≤ 1000) (hu : Up ccP l) (p : GProp) {n : Nat} (hn : 1001 ≤ n) : disc_has n l p = some (decide (p ∈ l)):=by
 obtain ⟨z,hz⟩:=bs_L hl hu (p:=p) (n:=n) (by omega) n 0 l.length (by omega) (by omega) (by omega) (fun q x hq=>by omega) (fun q x hq hx=>by
  have:=(List.getElem?_eq_some_iff.1 hx).1; omega)
 rw [Int.ofNat_zero] at hz
 simp only [disc_has,q00m,hz,bindO_s]
theorem Holds_ok {d : GDeriv} (hok : okG d) {n : Nat} (hn : SizeOf.sizeOf d ≤ n) (hn2 : 1001 ≤ n) (hb : nodes d ≤ 500) (p : GProp) : disc_Holds n d p = some (decide (p ∈ props d)):=by
 have:=PS_len d
 simp only [disc_Holds,Props_ok hok hn hn2 hb,bindO_s,has_ok (show (PS d).length ≤ 1000 by omega) (PS_up d) p hn2,PS_mem]
structure Lt (l : List GDeriv) (n : Nat) : Prop where
 len : l.length ≤ 6
 sum : nodesL l ≤ 60
 ok : ∀ d ∈ l,okG d
 fuel : ∀ d ∈ l,SizeOf.sizeOf d + 1001 ≤ n
 n1 : 1001 ≤ n
theorem Lt.nd {l : List GDeriv} {n : Nat} (h : Lt l n) {d : GDeriv} (hd : d ∈ l) : nodes d ≤ 60:=by have:=nodesL_mem hd; have:=h.sum; omega
theorem Lt.pr {l : List GDeriv} {n : Nat} (h : Lt l n) {d : GDeriv} (hd : d ∈ l) : disc_Props n d = some (PS d):=Props_ok (h.ok d hd) (by have:=h.fuel d hd; omega) h.n1 (by have:=h.nd hd; omega)
theorem set_take {α : Type} {L : List α} {i : Nat} {x : α} (h : i < L.length) : (L.set i x).take (i + 1) = L.take i ++ [x]:=by
 rw [List.take_add_one,List.take_set_of_le (Nat.le_refl _),List.getElem?_set]
 simp [h]
theorem all_L {l : List GDeriv} {n : Nat} (hL : Lt l n) : ∀ (m i : Nat) (a : List (List GProp)),l.length - i < m→i ≤ l.length→a.length = l.length→a.take i = (l.take i).map PS→disc_all_L1 l n m i a = some (l.map PS)
 | 0,i,a,hm,_,_,_=>by omega
 | m + 1,i,a,hm,hi,ha,ht=>by
  have h6:=hL.len
  unfold disc_all_L1
  by_cases hlt : i < l.length
  ·obtain ⟨x,hx,hxm⟩:=get_of hlt
   obtain ⟨y,hy,_⟩:=get_of (show i < a.length by omega)
   have iv : idxV a 0 (l.length : Int).toNat (i : Int) = some y:=by
    unfold idxV
    rw [if_pos ⟨by omega,by simp; omega⟩]
    simpa using hy
   simp only [dlt hlt,cond_true,idxO_nat,hx,bindO_s,hL.pr hxm,iv,wr1 hlt (show l.length ≤ 9223372036854775807 by omega)]
   refine all_L hL m (i + 1) _ (by omega) (by omega) (by simpa using ha) ?_
   rw [Int.toNat_natCast,set_take (by omega),ht,take_snoc hx]; simp
  ·simp only [dnlt hlt,cond_false,disc_all_K1]
   rw [needO_of (by simp; omega)]
   rw [List.take_of_length_le (by omega),List.take_of_length_le (by omega)] at ht
   rw [ht]
theorem all_ok {l : List GDeriv} {n : Nat} (hL : Lt l n) : disc_all n l = some (l.map PS):=by
 have h6:=hL.len
 have h1:=hL.n1
 unfold disc_all
 rw [needO_of ⟨by omega,by simp; omega,by omega⟩]
 have:=all_L hL n 0 (List.replicate (l.length : Int).toNat []) (by omega) (by omega) (by simp) (by simp)
 rwa [Int.ofNat_zero] at this
theorem flat_small {l : List GDeriv} : ((l.map PS).flatten).length ≤ 2 * nodesL l:=by
 induction l with
 | nil=>simp [nodesL]
 | cons d l ih=>have:=PS_len d; simp only [List.map_cons,List.flatten_cons,List.length_append,nodesL]; omega
theorem concat_L2 {Ls : List (List GProp)} (hl : Ls.length ≤ 1000) (hs : Ls.flatten.length ≤ 1000) : ∀ (m i : Nat) (a : List GProp),Ls.length - i < m→i ≤ Ls.length→a ++ (Ls.drop i).flatten = Ls.flatten→q01m Ls m i a = some Ls.flatten
 | 0,i,a,hm,_,_=>by omega
 | m + 1,i,a,hm,hi,ha=>by
  unfold q01m
  by_cases hlt : i < Ls.length
  ·obtain ⟨x,hx,_⟩:=get_of hlt
   have hlen:=congrArg List.length ha
   rw [drop_cons' hx] at ha hlen
   simp only [List.flatten_cons,List.length_append] at hlen
   simp only [dlt hlt,cond_true,idxO_nat,hx,bindO_s,wr1 hlt (show Ls.length ≤ 9223372036854775807 by omega)]
   rw [needO_of ⟨by omega,by omega⟩]
   exact concat_L2 hl hs m (i + 1) (a ++ x) (by omega) (by omega) (by simpa using ha)
  ·simp only [dnlt hlt,cond_false,q02g]
   rw [drop_nil' hlt] at ha
   simpa using ha
theorem grow_ok {z : Nat} (hz : z ≤ 1000) (n : Nat) : q035 n z = some []:=by
 unfold q035
 have e1 : decide ((z : Int) < 0) = false:=by simp
 have w : IntKind.i64.wrap ((z : Int) - 0) = (z : Int):=wrn (by simp) (by omega)
 rw [e1,cond_false,w]
 by_cases h : z = 0
 ·subst h; simp
 ·have e2 : decide ((z : Int) > 0) = true:=by simp; omega
  rw [e2,cond_true,needO_of ⟨by omega,by simp; omega,by simp; omega⟩,needO_of (by simp),needO_of ⟨by omega,by omega⟩,needO_of (by omega)]
  simp
theorem concat_L1 {Ls : List (List GProp)} (hl : Ls.length ≤ 1000) (hs : Ls.flatten.length ≤ 1000) {n : Nat} (hn : 1001 ≤ n) : ∀ (m i z : Nat),Ls.length - i < m→i ≤ Ls.length→z + (Ls.drop i).flatten.length = Ls.flatten.length→q01n Ls n m z i = some Ls.flatten
 | 0,i,z,hm,_,_=>by omega
 | m + 1,i,z,hm,hi,hz=>by
  unfold q01n
  by_cases hlt : i < Ls.length
  ·obtain ⟨x,hx,_⟩:=get_of hlt
   rw [drop_cons' hx] at hz
   simp only [List.flatten_cons,List.length_append] at hz
   have w : IntKind.i64.wrap ((z : Int) + (x.length : Int)) = ((z + x.length : Nat) : Int):=wrn (by simp) (by omega)
   have e : decide (((z + x.length : Nat) : Int) < 0) = false:=by simp; omega
   simp only [dlt hlt,cond_true,idxO_nat,hx,bindO_s,w,e,cond_false,wr1 hlt (show Ls.length ≤ 9223372036854775807 by omega)]
   exact concat_L1 hl hs hn m (i + 1) _ (by omega) (by omega) (by omega)
  ·simp only [dnlt hlt,cond_false,q02f]
   rw [drop_nil' hlt] at hz
   simp only [List.flatten_nil,List.length_nil,Nat.add_zero] at hz
   rw [grow_ok (by omega),bindO_s]
   have:=concat_L2 hl hs n 0 [] (by omega) (by omega) (by simp)
   rwa [Int.ofNat_zero] at this
theorem concat_ok {Ls : List (List GProp)} (hl : Ls.length ≤ 1000) (hs : Ls.flatten.length ≤ 1000) {n : Nat} (hn : 1001 ≤ n) : q02j n Ls = some Ls.flatten:=by
 have:=concat_L1 hl hs hn n 0 0 (by omega) (by omega) (by simp)
 simpa [q02j] using this
def grp (k : Nat) : List GProp→Nat→List GProp
 | [],_=>[]
 | _ :: _,0=>[]
 | x :: l,f + 1=>(if ((x :: l).takeWhile fun y=>decide (y = x)).length < k then [x] else []) ++ grp k ((x :: l).dropWhile fun y=>decide (y = x)) f
theorem dropWhile_eq {α : Type} (p : α→Bool) : ∀ l : List α,l.dropWhile p = l.drop (l.takeWhile p).length
 | []=>by simp
 | x :: l=>by
  rw [List.dropWhile_cons,List.takeWhile_cons]
  cases h : p x <;> simp [dropWhile_eq p l]
theorem takeWhile_get {α : Type} (p : α→Bool) : ∀ (l : List α) (i : Nat),i < (l.takeWhile p).length→∃ x,l[i]? = some x∧p x = true
 | [],i,h=>by simp at h
 | x :: l,i,h=>by
  rw [List.takeWhile_cons] at h
  cases hp : p x with
  | false=>rw [hp] at h; simp at h
  | true =>
   rw [hp] at h
   cases i with
   | zero=>exact ⟨x,rfl,hp⟩
   | succ i=>simpa using takeWhile_get p l i (by simpa using h)
theorem takeWhile_stop {α : Type} (p : α→Bool) : ∀ (l : List α) (x : α),l[(l.takeWhile p).length]? = some x→p x = false
 | [],x,h=>by simp at h
 | y :: l,x,h=>by
  rw [List.takeWhile_cons] at h
  cases hp : p y with
  | false=>rw [hp] at h; simp at h; subst h; exact hp
  | true=>rw [hp] at h; simp at h; exact takeWhile_stop p l x h
theorem mem_tw {α : Type} (p : α→Bool) {y : α} : ∀ {l : List α},y ∈ l.takeWhile p→p y = true
 | [],h=>by simp at h
 | x :: l,h=>by
  rw [List.takeWhile_cons] at h
  cases hp : p x with
  | false=>rw [hp] at h; simp at h
  | true =>
   rw [hp] at h
   simp only [if_true] at h
   rcases List.mem_cons.1 h with rfl | h
   ·exact hp
   ·exact mem_tw p h
theorem takeWhile_le {α : Type} (p : α→Bool) : ∀ l : List α,(l.takeWhile p).length ≤ l.length
 | []=>by simp
 | x :: l=>by
  rw [List.takeWhile_cons]
  split
  ·have:=takeWhile_le p l; simp; omega
  ·simp
theorem differ_L2 {Ls : List (List GProp)} {r : List GProp} (hr : r.length ≤ 1000) {i : Nat} {a : List GProp} {rc : Int→List GProp→Option (List GProp)} {x : GProp} (hx : (srtP r)[i]? = some x) : ∀ (m k : Nat),(srtP r).length - (i + k) < m→1 ≤ k→k ≤ (((srtP r).drop i).takeWhile fun y=>decide (y = x)).length →
  q03c Ls r i a rc m ((i + k : Nat) : Int) = q043 Ls r i a rc ((i + (((srtP r).drop i).takeWhile fun y=>decide (y = x)).length : Nat) : Int)
 | 0,k,hm,_,_=>by omega
 | m + 1,k,hm,hk,hg=>by
  have hle:=takeWhile_le (fun y=>decide (y = x)) ((srtP r).drop i)
  rw [List.length_drop] at hle
  have hl:=srtP_len r
  unfold q03c
  by_cases hlt : i + k < (srtP r).length
  ·obtain ⟨y,hy,_⟩:=get_of hlt
   have hy' : ((srtP r).drop i)[k]? = some y:=by rw [List.getElem?_drop]; exact hy
   have e1:=dlt hlt
   simp only [e1,cond_true,idxO_nat,hx,hy,bindO_s,eqP_dec,wr1 hlt (show (srtP r).length ≤ 9223372036854775807 by omega)]
   by_cases hlast : k = (((srtP r).drop i).takeWhile fun y=>decide (y = x)).length
   ·have hne:=takeWhile_stop (fun y=>decide (y = x)) ((srtP r).drop i) y (by rw [← hlast]; exact hy')
    simp only [hne,cond_false]
    rw [← hlast]
   ·obtain ⟨y',h1,h2⟩:=takeWhile_get (fun y=>decide (y = x)) ((srtP r).drop i) k (by omega)
    rw [hy'] at h1; cases h1
    simp only [h2,cond_true]
    exact differ_L2 hr hx m (k + 1) (by omega) (by omega) (by omega)
  ·simp only [dnlt hlt,cond_false,bindO_s]
   have : i + k = i + (((srtP r).drop i).takeWhile fun y=>decide (y = x)).length:=by omega
   rw [this]
theorem differ_L1 {Ls : List (List GProp)} (hLs : Ls.length ≤ 1000) {r : List GProp} (hr : r.length ≤ 1000) {n : Nat} (hn : 1001 ≤ n) : ∀ (m i : Nat) (a : List GProp) (f : Nat),(srtP r).length - i < m→i ≤ (srtP r).length→(srtP r).length - i ≤ f→a.length + ((srtP r).length - i) ≤ 1000→q024 Ls n r m i a = some (a ++ grp Ls.length ((srtP r).drop i) f)
 | 0,i,a,f,hm,_,_,_=>by omega
 | m + 1,i,a,f,hm,hi,hf,ha=>by
  have hl:=srtP_len r
  unfold q024
  by_cases hlt : i < (srtP r).length
  ·obtain ⟨x,hx,_⟩:=get_of hlt
   obtain ⟨f,rfl⟩ : ∃ q,f = q + 1:=⟨f - 1,by omega⟩
   have hdc:=drop_cons' hx
   have hg1 : 1 ≤ (((srtP r).drop i).takeWhile fun y=>decide (y = x)).length:=by rw [hdc,List.takeWhile_cons]; simp
   have hle:=takeWhile_le (fun y=>decide (y = x)) ((srtP r).drop i)
   rw [List.length_drop] at hle
   rw [dlt hlt,cond_true,wr1 hlt (by omega),differ_L2 hr hx n 1 (by omega) (Nat.le_refl _) hg1]
   generalize hG : (((srtP r).drop i).takeWhile fun y=>decide (y = x)).length = G at *
   have w : IntKind.i64.wrap (((i + G : Nat) : Int) - (i : Int)) = (G : Int):=wrn (by omega) (by omega)
   simp only [q043,w,idxO_nat,hx,bindO_s,q04c]
   have hgr : grp Ls.length ((srtP r).drop i) (f + 1) = (if G < Ls.length then [x] else []) ++ grp Ls.length ((srtP r).drop (i + G)) f:=by
    have : grp Ls.length ((srtP r).drop i) (f + 1) = (if (((srtP r).drop i).takeWhile fun y=>decide (y = x)).length < Ls.length then [x] else []) ++ grp Ls.length (((srtP r).drop i).dropWhile fun y=>decide (y = x)) f:=by
     conv=>lhs; rw [hdc]
     rw [grp,← hdc]
    rw [this,dropWhile_eq,hG,List.drop_drop]
   by_cases hc : G < Ls.length
   ·have e : decide ((G : Int) < (Ls.length : Int)) = true:=dlt hc
    rw [e,cond_true,needO_of ⟨by omega,by omega⟩,differ_L1 hLs hr hn m (i + G) _ f (by omega) (by omega) (by omega) (by simp; omega),hgr,if_pos hc,List.append_assoc]
   ·have e : decide ((G : Int) < (Ls.length : Int)) = false:=dnlt hc
    rw [e,cond_false,differ_L1 hLs hr hn m (i + G) _ f (by omega) (by omega) (by omega) (by omega),hgr,if_neg hc]
    rfl
  ·simp only [dnlt hlt,cond_false,q04n,drop_nil' hlt,grp,List.append_nil]
theorem grp_eq (k : Nat) : ∀ (f : Nat) (l : List GProp),l.length ≤ f→l.Pairwise (fun x y=>ccP x y ≤ 0)→grp k l f = (dedup ccP l).filter (fun p=>decide (l.count p < k))
 | f,[],_,_=>by simp [grp,dedup]
 | 0,x :: l,h,_=>by simp at h
 | f + 1,x :: l,h,hs=>by
  have htw : ∀ y ∈ (x :: l).dropWhile (fun y=>decide (y = x)),ccP x y < 0:=by
   intro y hy
   have hdx : ((x :: l).dropWhile fun y=>decide (y = x)) = l.dropWhile fun y=>decide (y = x):=by simp [List.dropWhile_cons]
   rw [hdx] at hy
   have hp:=List.pairwise_cons.1 hs
   cases hd : l.dropWhile (fun y=>decide (y = x)) with
   | nil=>rw [hd] at hy; cases hy
   | cons z q =>
    have hz : ¬ z = x:=by
     have:=List.head?_dropWhile_not (fun y=>decide (y = x)) l
     rw [hd] at this
     simpa using this
    have hsub : (z :: q).Sublist l:=by rw [← hd]; exact List.dropWhile_sublist _
    have hxz : ccP x z < 0:=by
     have h1:=hp.1 z (hsub.subset (by simp))
     rcases Int.lt_or_eq_of_le h1 with h2 | h2
     ·exact h2
     ·exact absurd (ccP_zero.1 h2).symm hz
    rw [hd] at hy
    rcases List.mem_cons.1 hy with rfl | hy
    ·exact hxz
    ·exact cmpP_ok.lt_of hxz ((List.pairwise_cons.1 (hp.2.sublist hsub)).1 y hy)
  have hrest : ((x :: l).dropWhile fun y=>decide (y = x)).Pairwise (fun x y=>ccP x y ≤ 0):=hs.sublist (List.dropWhile_sublist _)
  have hlen : ((x :: l).dropWhile fun y=>decide (y = x)).length ≤ f:=by
   have : ((x :: l).dropWhile fun y=>decide (y = x)) = l.dropWhile fun y=>decide (y = x):=by simp [List.dropWhile_cons]
   rw [this]
   have:=(List.dropWhile_sublist (fun y=>decide (y = x)) (l:=l)).length_le
   simp at h; omega
  have hsplit : x :: l = ((x :: l).takeWhile fun y=>decide (y = x)) ++ ((x :: l).dropWhile fun y=>decide (y = x)):=(List.takeWhile_append_dropWhile).symm
  have hall : ∀ y ∈ (x :: l).takeWhile (fun y=>decide (y = x)),y = x:=fun y hy=>by simpa using mem_tw (fun y=>decide (y = x)) hy
  have hnx : x ∉ (x :: l).dropWhile (fun y=>decide (y = x)):=fun hm=>by have:=htw x hm; rw [cmpP_ok.self] at this; omega
  have hcx : (x :: l).count x = ((x :: l).takeWhile fun y=>decide (y = x)).length:=by
   conv=>lhs; rw [hsplit]
   rw [List.count_append,List.count_eq_zero.2 hnx,Nat.add_zero,List.count_eq_length.2 (fun y hy=>(hall y hy).symm)]
  have hcy : ∀ y,y ∈ (x :: l).dropWhile (fun y=>decide (y = x))→(x :: l).count y = ((x :: l).dropWhile fun y=>decide (y = x)).count y:=fun y hy=>by
   conv=>lhs; rw [hsplit]
   rw [List.count_append,List.count_eq_zero.2,Nat.zero_add]
   intro hm
   have:=hall y hm
   subst this
   exact hnx hy
  have hdd : dedup ccP (x :: l) = x :: dedup ccP ((x :: l).dropWhile fun y=>decide (y = x)):=by
   refine Up.ext cmpP_ok ccP_eq (dedup_up cmpP_ok ccP_eq hs) ?_ fun y=>?_
   ·refine List.pairwise_cons.2 ⟨fun y hy=>htw y ((dedup_mem ccP_eq _ y).1 hy),dedup_up cmpP_ok ccP_eq hrest⟩
   ·rw [dedup_mem ccP_eq,List.mem_cons (l:=dedup ccP _),dedup_mem ccP_eq]
    constructor
    ·intro hy
     rw [hsplit] at hy
     rcases List.mem_append.1 hy with hy | hy
     ·exact .inl (hall y hy)
     ·exact .inr hy
    ·rintro (rfl | hy)
     ·simp
     ·rw [hsplit]; exact List.mem_append.2 (.inr hy)
  rw [grp,grp_eq k f _ hlen hrest,hdd,List.filter_cons,← hcx]
  have hfil : (dedup ccP ((x :: l).dropWhile fun y=>decide (y = x))).filter (fun p=>decide (((x :: l).dropWhile fun y=>decide (y = x)).count p < k)) = (dedup ccP ((x :: l).dropWhile fun y=>decide (y = x))).filter (fun p=>decide ((x :: l).count p < k)):=by
   refine List.filter_congr fun y hy=>?_
   rw [hcy y ((dedup_mem ccP_eq _ y).1 hy)]
  rw [hfil]
  by_cases hc : (x :: l).count x < k
  ·rw [if_pos hc,decide_eq_true hc,if_pos rfl]; rfl
  ·rw [if_neg hc,decide_eq_false hc]; rfl
def cntH (l : List GDeriv) (p : GProp) : Nat:=(l.filter fun d=>decide (p ∈ props d)).length
def dsc (l : List GDeriv) : List GProp:=(dedup ccP (srtP (propsL l))).filter (fun p=>decide (cntH l p < l.length))
theorem up_nodup {l : List GProp} (h : Up ccP l) : l.Nodup:=List.Pairwise.imp (fun {x y} hxy=>by
 rintro rfl; rw [cmpP_ok.self] at hxy; omega) h
theorem count_PS (d : GDeriv) (p : GProp) : (PS d).count p = if p ∈ props d then 1 else 0:=by
 by_cases h : p ∈ props d
 ·rw [if_pos h,List.Nodup.count (up_nodup (PS_up d)),if_pos (PS_mem.2 h)]
 ·rw [if_neg h]; exact List.count_eq_zero.2 (fun hm=>h (PS_mem.1 hm))
theorem count_flat : ∀ (l : List GDeriv) (p : GProp),((l.map PS).flatten).count p = cntH l p
 | [],p=>by simp [cntH]
 | d :: l,p=>by
  rw [List.map_cons,List.flatten_cons,List.count_append,count_PS,count_flat l p]
  simp only [cntH,List.filter_cons]
  by_cases h : p ∈ props d
  ·simp [h]; omega
  ·simp [h]
theorem mem_propsL {p : GProp} : ∀ {l : List GDeriv},p ∈ propsL l↔∃ d ∈ l,p ∈ props d
 | []=>by simp [propsL]
 | d :: l=>by simp [propsL,mem_propsL (l:=l)]
theorem mem_flat {l : List GDeriv} {p : GProp} : p ∈ (l.map PS).flatten↔p ∈ propsL l:=by
 rw [mem_propsL]
 simp only [List.mem_flatten,List.mem_map]
 constructor
 ·rintro ⟨_,⟨d,hd,rfl⟩,hp⟩; exact ⟨d,hd,PS_mem.1 hp⟩
 ·rintro ⟨d,hd,hp⟩; exact ⟨_,⟨d,hd,rfl⟩,PS_mem.2 hp⟩
theorem ded_flat (l : List GDeriv) : dedup ccP (srtP (l.map PS).flatten) = dedup ccP (srtP (propsL l)) :=
 Up.ext cmpP_ok ccP_eq (dedup_up cmpP_ok ccP_eq (srt_le cmpP_ok _)) (dedup_up cmpP_ok ccP_eq (srt_le cmpP_ok _)) fun x=>by
  rw [dedup_mem ccP_eq,dedup_mem ccP_eq,srtP_mem,srtP_mem,mem_flat]
theorem differ_ok {l : List GDeriv} {n : Nat} (hL : Lt l n) : disc_differ n (l.map PS) = some (dsc l):=by
 have h6:=hL.len
 have hs:=hL.sum
 have h1:=hL.n1
 have hfl:=flat_small (l:=l)
 have hsl:=srtP_len (l.map PS).flatten
 unfold disc_differ
 rw [concat_ok (by simp; omega) (by omega) h1,bindO_s,needO_of (by omega)]
 have:=differ_L1 (Ls:=l.map PS) (by simp; omega) (r:=(l.map PS).flatten) (by omega) h1 n 0 [] (srtP (l.map PS).flatten).length (by omega) (by omega) (by omega) (by simp; omega)
 rw [Int.ofNat_zero] at this
 rw [this,List.nil_append,List.drop_zero,grp_eq _ _ (srtP (l.map PS).flatten) (Nat.le_refl _) (srt_le cmpP_ok _),ded_flat,dsc]
 congr 1
 refine List.filter_congr fun p _=>?_
 rw [show (srtP (l.map PS).flatten).count p = ((l.map PS).flatten).count p from (srt_perm (ltOf ccP) (l.map PS).flatten).count_eq p,count_flat,List.length_map]
theorem Discr_ok {l : List GDeriv} {n : Nat} (hL : Lt l n) : q01s n l = some (dsc l):=by
 simp only [q01s,all_ok hL,bindO_s,differ_ok hL]
theorem dsc_len (l : List GDeriv) : (dsc l).length ≤ 2 * nodesL l:=by
 have h1:=List.length_filter_le (fun p=>decide (cntH l p < l.length)) (dedup ccP (srtP (propsL l)))
 have h2:=dedup_len (c:=ccP) (srtP (propsL l))
 have h3:=srtP_len (propsL l)
 have h4:=propsL_len l
 unfold dsc; omega
def fits1 (d : GDeriv) (x : GDecision) : Bool:=decide (x.Propx ∈ props d) == x.Yes
def agree (d : GDeriv) (ds : List GDecision) : Bool:=ds.all (fits1 d)
def remF : List GDeriv→List GDecision→Nat→List Int
 | [],_,_=>[]
 | d :: l,ds,i=>(if agree d ds then [(i : Int)] else []) ++ remF l ds (i + 1)
def rem (l : List GDeriv) (ds : List GDecision) : List Int:=remF l ds 0
theorem remF_len : ∀ (l : List GDeriv) (ds : List GDecision) (i : Nat),(remF l ds i).length ≤ l.length
 | [],ds,i=>by simp [remF]
 | d :: l,ds,i=>by
  have:=remF_len l ds (i + 1)
  simp only [remF,List.length_append,List.length_cons]
  split <;> simp <;> omega
theorem remF_mem : ∀ (l : List GDeriv) (ds : List GDecision) (i : Nat) (z : Int),z ∈ remF l ds i↔∃ k d,l[k]? = some d∧z = ((i + k : Nat) : Int)∧agree d ds = true
 | [],ds,i,z=>by simp [remF]
 | d :: l,ds,i,z=>by
  simp only [remF,List.mem_append,remF_mem l ds (i + 1) z]
  constructor
  ·rintro (h | ⟨k,e,h1,h2,h3⟩)
   ·split at h
    ·rename_i ha; simp at h; exact ⟨0,d,rfl,by simpa using h,ha⟩
    ·cases h
   ·exact ⟨k + 1,e,by simpa using h1,by rw [h2]; congr 1; omega,h3⟩
  ·rintro ⟨k,e,h1,h2,h3⟩
   cases k with
   | zero=>simp at h1; subst h1; left; simp [h3,h2]
   | succ k=>right; exact ⟨k,e,by simpa using h1,by rw [h2]; congr 1; omega,h3⟩
theorem rem_mem {l : List GDeriv} {ds : List GDecision} {z : Int} : z ∈ rem l ds↔∃ (k : Nat) (d : GDeriv),l[k]? = some d∧z = (k : Int)∧agree d ds = true:=by
 rw [rem,remF_mem]; simp
theorem wrong_ok {d : GDeriv} (hd : nodes d ≤ 60) {n : Nat} (hn : 1001 ≤ n) (x : GDecision) : q01x n x (PS d) = some (!fits1 d x):=by
 have:=PS_len d
 simp only [q01x,has_ok (show (PS d).length ≤ 1000 by omega) (PS_up d) x.Propx hn,bindO_s,PS_mem,fits1]
theorem idx_L {d : GDeriv} (hd : nodes d ≤ 60) {n : Nat} (hn : 1001 ≤ n) {ds : List GDecision} (hl : ds.length ≤ 1000) : ∀ (m i : Nat),ds.length - i < m→i ≤ ds.length→∃ z,q003 ds (PS d) (q01x n) m i = some z∧decide (z ≥ 0) = !agree d (ds.drop i)
 | 0,i,hm,_=>by omega
 | m + 1,i,hm,hi=>by
  unfold q003
  by_cases hlt : i < ds.length
  ·obtain ⟨x,hx,_⟩:=get_of hlt
   simp only [dlt hlt,cond_true,idxO_nat,hx,bindO_s,wrong_ok hd hn,wr1 hlt (show ds.length ≤ 9223372036854775807 by omega),drop_cons' hx,agree,List.all_cons]
   cases hf : fits1 d x with
   | false=>exact ⟨i,rfl,by simp⟩
   | true =>
    obtain ⟨z,h1,h2⟩:=idx_L hd hn hl m (i + 1) (by omega) (by omega)
    refine ⟨z,by simpa using h1,?_⟩
    rw [h2]; simp [agree]
  ·simp only [dnlt hlt,cond_false,q00o,drop_nil' hlt]
   exact ⟨-1,rfl,by simp [agree]⟩
theorem cont_ok {d : GDeriv} (hd : nodes d ≤ 60) {n : Nat} (hn : 1001 ≤ n) {ds : List GDecision} (hl : ds.length ≤ 1000) : q00a (q01x n) n ds (PS d) = some (!agree d ds):=by
 obtain ⟨z,h1,h2⟩:=idx_L hd hn hl n 0 (by omega) (by omega)
 rw [Int.ofNat_zero] at h1
 simp only [q00a,q00e,h1,bindO_s,h2,List.drop_zero]
theorem map_get {l : List GDeriv} {i : Nat} {d : GDeriv} (h : l[i]? = some d) : (l.map PS)[i]? = some (PS d):=by simp [h]
theorem rem_L {l : List GDeriv} {n : Nat} (hL : Lt l n) {ds : List GDecision} (hl : ds.length ≤ 1000) : ∀ (m i : Nat) (a : List Int),l.length - i < m→i ≤ l.length→a.length ≤ i→q01o (l.map PS) ds n m i a = some (a ++ remF (l.drop i) ds i)
 | 0,i,a,hm,_,_=>by omega
 | m + 1,i,a,hm,hi,ha=>by
  have h6:=hL.len
  have hml : (l.map PS).length = l.length:=by simp
  unfold q01o
  by_cases hlt : i < l.length
  ·obtain ⟨d,hd,hdm⟩:=get_of hlt
   have hw : IntKind.i64.wrap ((i : Int) + 1) = ((i + 1 : Nat) : Int):=wrn (by simp) (by omega)
   simp only [dlt (show i < (l.map PS).length by omega),cond_true,idxO_nat,map_get hd,bindO_s,cont_ok (hL.nd hdm) hL.n1 hl,q02u,hw,drop_cons' hd,remF,Bool.not_not]
   cases hg : agree d ds with
   | true =>
    rw [cond_true,needO_of ⟨by omega,by omega⟩,rem_L hL hl m (i + 1) _ (by omega) (by omega) (by simp; omega)]
    simp
   | false =>
    rw [cond_false,rem_L hL hl m (i + 1) _ (by omega) (by omega) (by omega)]
    simp
  ·simp only [dnlt (show ¬ i < (l.map PS).length by omega),cond_false,q03u,drop_nil' hlt,remF,List.append_nil]
theorem remaining_ok {l : List GDeriv} {n : Nat} (hL : Lt l n) {ds : List GDecision} (hl : ds.length ≤ 1000) : q02n n (l.map PS) ds = some (rem l ds):=by
 have h6:=hL.len
 have h1:=hL.n1
 have:=rem_L hL hl n 0 [] (by omega) (by omega) (by simp)
 simpa [q02n,rem] using this
theorem Remaining_ok {l : List GDeriv} {n : Nat} (hL : Lt l n) {ds : List GDecision} (hl : ds.length ≤ 1000) : q02q n l ds = some (rem l ds):=by
 simp only [q02q,all_ok hL,bindO_s,remaining_ok hL hl]
def hasAt (l : List GDeriv) (p : GProp) (z : Int) : Bool:=match l[z.toNat]? with
 | some d=>decide (p ∈ props d)
 | none=>false
def cntR (l : List GDeriv) (r : List Int) (p : GProp) : Nat:=(r.filter (hasAt l p)).length
def isDec (ds : List GDecision) (p : GProp) : Bool:=ds.any fun x=>decide (x.Propx = p)
def impl1 (l : List GDeriv) (ds : List GDecision) (r : List Int) (p : GProp) : List GDecision :=
 if isDec ds p then [] else if cntR l r p = 0 ∨ cntR l r p = r.length then [⟨p,decide (0 < cntR l r p)⟩] else []
def impl (l : List GDeriv) (ds : List GDecision) : List GDecision:=if rem l ds = [] then [] else (dsc l).flatMap (impl1 l ds (rem l ds))
theorem dec_L {ds : List GDecision} (hl : ds.length ≤ 1000) {p : GProp} {n : Nat} : ∀ (m i : Nat),ds.length - i < m→i ≤ ds.length→∃ z,q005 ds p (q02o n) m i = some z∧decide (z ≥ 0) = isDec (ds.drop i) p
 | 0,i,hm,_=>by omega
 | m + 1,i,hm,hi=>by
  unfold q005
  by_cases hlt : i < ds.length
  ·obtain ⟨x,hx,_⟩:=get_of hlt
   simp only [dlt hlt,cond_true,idxO_nat,hx,bindO_s,q02o,eqP_dec,wr1 hlt (show ds.length ≤ 9223372036854775807 by omega),drop_cons' hx,isDec,List.any_cons]
   by_cases h : x.Propx = p
   ·simp only [h,decide_true,cond_true]; exact ⟨i,rfl,by simp⟩
   ·simp only [h,decide_false,cond_false,Bool.false_or]
    exact dec_L hl m (i + 1) (by omega) (by omega)
  ·simp only [dnlt hlt,cond_false,q00t,drop_nil' hlt]
   exact ⟨-1,rfl,by simp [isDec]⟩
theorem decd_ok {ds : List GDecision} (hl : ds.length ≤ 1000) (p : GProp) {n : Nat} (hn : 1001 ≤ n) : q00b (q02o n) n ds p = some (isDec ds p):=by
 obtain ⟨z,h1,h2⟩:=dec_L (n:=n) hl (p:=p) n 0 (by omega) (by omega)
 rw [Int.ofNat_zero] at h1
 simp only [q00b,q00i,h1,bindO_s,h2,List.drop_zero]
def Idx (l : List GDeriv) (r : List Int) : Prop:=∀ z ∈ r,∃ (k : Nat) (d : GDeriv),l[k]? = some d∧z = (k : Int)
theorem rem_idx (l : List GDeriv) (ds : List GDecision) : Idx l (rem l ds):=fun z hz=>by
 obtain ⟨k,d,h1,h2,_⟩:=rem_mem.1 hz
 exact ⟨k,d,h1,h2⟩
theorem rem_len (l : List GDeriv) (ds : List GDecision) : (rem l ds).length ≤ l.length:=remF_len l ds 0
theorem cntR_drop {l : List GDeriv} {r : List Int} {p : GProp} {k : Nat} {z : Int} (h : r[k]? = some z) : cntR l (r.drop k) p = (if hasAt l p z then 1 else 0) + cntR l (r.drop (k + 1)) p:=by
 rw [drop_cons' h]
 simp only [cntR,List.filter_cons]
 split <;> simp <;> omega
theorem impl_L2 {l : List GDeriv} {n : Nat} (hL : Lt l n) {r : List Int} (hr : Idx l r) (hrl : r.length ≤ 6) {i : Int} {a : List GDecision} {rc : Int→List GDecision→Option (List GDecision)} {p : GProp} : ∀ (m k z : Nat),r.length - k < m→k ≤ r.length→z ≤ k →
  q025 n (l.map PS) r i a rc p m z k = q03s r i a rc p ((z + cntR l (r.drop k) p : Nat) : Int)
 | 0,k,z,hm,_,_=>by omega
 | m + 1,k,z,hm,hk,hz=>by
  unfold q025
  by_cases hlt : k < r.length
  ·obtain ⟨x,hx,hxm⟩:=get_of hlt
   obtain ⟨q,d,h1,h2⟩:=hr x hxm
   subst h2
   have hdm:=List.mem_of_getElem? h1
   have hpl:=PS_len d
   have hnd:=hL.nd hdm
   have w : IntKind.i64.wrap ((z : Int) + 1) = ((z + 1 : Nat) : Int):=wrn (by simp) (by omega)
   have hat : hasAt l p (q : Int) = decide (p ∈ props d):=by simp [hasAt,h1]
   simp only [dlt hlt,cond_true,idxO_nat,hx,map_get h1,bindO_s,has_ok (show (PS d).length ≤ 1000 by omega) (PS_up d) p hL.n1,PS_mem,q03t,w,wr1 hlt (show r.length ≤ 9223372036854775807 by omega),cntR_drop hx,hat]
   by_cases h : p ∈ props d
   ·rw [decide_eq_true h,cond_true,impl_L2 hL hr hrl m (k + 1) (z + 1) (by omega) (by omega) (by omega)]
    congr 2; simp; omega
   ·rw [decide_eq_false h,cond_false,impl_L2 hL hr hrl m (k + 1) z (by omega) (by omega) (by omega)]
    congr 2; simp
  ·simp only [dnlt hlt,cond_false,drop_nil' hlt]; simp [cntR]
theorem impl1_len (l : List GDeriv) (ds : List GDecision) (r : List Int) (p : GProp) : (impl1 l ds r p).length ≤ 1:=by
 unfold impl1; split; · simp
 split <;> simp
theorem natz {k : Nat} : ((k : Int) == 0) = decide (k = 0):=by rw [Bool.eq_iff_iff]; simp
theorem nateq {k q : Nat} : ((k : Int) == (q : Int)) = decide (k = q):=by rw [Bool.eq_iff_iff,beq_iff_eq,decide_eq_true_eq]; omega
theorem natpos {k : Nat} : decide ((k : Int) > 0) = decide (0 < k):=by rw [Bool.eq_iff_iff,decide_eq_true_eq,decide_eq_true_eq]; omega
theorem impl_L1 {l : List GDeriv} {n : Nat} (hL : Lt l n) {ds : List GDecision} (hl : ds.length ≤ 1000) {r : List Int} (hr : Idx l r) (hrl : r.length ≤ 6) {ps : List GProp} (hps : ps.length ≤ 500) : ∀ (m i : Nat) (a : List GDecision),ps.length - i < m→i ≤ ps.length→a.length ≤ i →
  q00p ds n (l.map PS) r ps m i a = some (a ++ (ps.drop i).flatMap (impl1 l ds r))
 | 0,i,a,hm,_,_=>by omega
 | m + 1,i,a,hm,hi,ha=>by
  have h1:=hL.n1
  unfold q00p
  by_cases hlt : i < ps.length
  ·obtain ⟨p,hp,_⟩:=get_of hlt
   simp only [dlt hlt,cond_true,idxO_nat,hp,bindO_s,decd_ok hl p h1,wr1 hlt (show ps.length ≤ 9223372036854775807 by omega),drop_cons' hp,List.flatMap_cons]
   have i1:=impl1_len l ds r p
   cases hd : isDec ds p with
   | true =>
    rw [cond_true,impl_L1 hL hl hr hrl hps m (i + 1) a (by omega) (by omega) (by omega)]
    simp [impl1,hd]
   | false =>
    have h2:=impl_L2 hL hr hrl (i:=(i : Int)) (a:=a) (rc:=q00p ds n (l.map PS) r ps m) (p:=p) n 0 0 (by omega) (by omega) (by omega)
    rw [Int.ofNat_zero] at h2
    rw [cond_false,h2]
    simp only [List.drop_zero,Nat.zero_add,q03s,q03l,natz,nateq,natpos,wr1 hlt (show ps.length ≤ 9223372036854775807 by omega)]
    by_cases hc : cntR l r p = 0 ∨ cntR l r p = r.length
    ·have e : bindO (cond (decide (cntR l r p = 0)) (some true) (some (decide (cntR l r p = r.length)))) (fun b49 : Bool=>cond b49 (needO ((a.length + 1) * 48 ≤ 140737488355328∧a.length + 1 ≤ 140737488355328) (q00p ds n (l.map PS) r ps m ((i + 1 : Nat) : Int) (a ++ [⟨p,decide (0 < cntR l r p)⟩]))) (q00p ds n (l.map PS) r ps m ((i + 1 : Nat) : Int) a)) = q00p ds n (l.map PS) r ps m ((i + 1 : Nat) : Int) (a ++ [⟨p,decide (0 < cntR l r p)⟩]):=by
      rcases hc with hc | hc
      ·simp only [hc,decide_true,cond_true,bindO_s]
       rw [needO_of ⟨by omega,by omega⟩]
      ·by_cases h0 : cntR l r p = 0
       ·simp only [h0,decide_true,cond_true,bindO_s]
        rw [needO_of ⟨by omega,by omega⟩]
       ·rw [decide_eq_false h0,cond_false,decide_eq_true hc,bindO_s,cond_true,needO_of ⟨by omega,by omega⟩]
     rw [e,impl_L1 hL hl hr hrl hps m (i + 1) _ (by omega) (by omega) (by simp; omega)]
     simp [impl1,hd,hc]
    ·have h0 : ¬ cntR l r p = 0:=fun h=>hc (.inl h)
     have h3 : ¬ cntR l r p = r.length:=fun h=>hc (.inr h)
     simp only [h0,h3,decide_false,cond_false,bindO_s]
     rw [impl_L1 hL hl hr hrl hps m (i + 1) a (by omega) (by omega) (by omega)]
     simp [impl1,hd,h0,h3]
  ·simp only [dnlt hlt,cond_false,q04j,drop_nil' hlt]; simp
theorem len0 {α : Type} (l : List α) : ((l.length : Int) == 0) = decide (l.length = 0):=natz
theorem Implied_ok {l : List GDeriv} {n : Nat} (hL : Lt l n) {ds : List GDecision} (hl : ds.length ≤ 1000) : q04f n l ds = some (impl l ds):=by
 have h1:=hL.n1
 have hrl:=rem_len l ds
 have h6:=hL.len
 have hdl:=dsc_len l
 have hs:=hL.sum
 simp only [q04f,all_ok hL,bindO_s,remaining_ok hL hl,len0]
 by_cases h0 : rem l ds = []
 ·simp [h0,impl]
 ·have : ¬ (rem l ds).length = 0:=fun h=>h0 (List.eq_nil_of_length_eq_zero h)
  have h2:=impl_L1 hL hl (rem_idx l ds) (by omega) (ps:=dsc l) (by omega) n 0 [] (by omega) (by omega) (by simp)
  rw [Int.ofNat_zero] at h2
  simp only [this,decide_false,cond_false,differ_ok hL,bindO_s,h2]
  simp [impl,h0]
theorem eqD_iff (x y : GDecision) : eqGDecision x y = true↔x = y:=by
 obtain ⟨p,a⟩:=x
 obtain ⟨q,b⟩:=y
 have:=eqP_iff p q
 simp only [eqGProp] at this
 simp only [eqGDecision,GDecision.mk.injEq]
 rw [Bool.and_eq_true,this]; simp
instance : DecidableEq GDecision:=fun x y=>decidable_of_iff (eqGDecision x y = true) (eqD_iff x y)
theorem flatMap_len (l : List GDeriv) (ds : List GDecision) (r : List Int) : ∀ ps : List GProp,(ps.flatMap (impl1 l ds r)).length ≤ ps.length
 | []=>by simp
 | p :: ps=>by
  have h1:=impl1_len l ds r p
  have h2:=flatMap_len l ds r ps
  rw [List.flatMap_cons,List.length_append,List.length_cons]; omega
theorem impl_len (l : List GDeriv) (ds : List GDecision) : (impl l ds).length ≤ 2 * nodesL l:=by
 have h1:=flatMap_len l ds (rem l ds) (dsc l)
 have h2:=dsc_len l
 unfold impl; split
 ·simp
 ·omega
theorem agree_app (d : GDeriv) (a b : List GDecision) : agree d (a ++ b) = (agree d a && agree d b):=by simp [agree]
theorem remF_sub : ∀ (l : List GDeriv) (a b : List GDecision) (i : Nat),(remF l (a ++ b) i).Sublist (remF l a i)
 | [],a,b,i=>List.Sublist.refl _
 | d :: l,a,b,i=>by
  simp only [remF,agree_app]
  have ih:=remF_sub l a b (i + 1)
  cases agree d a with
  | false=>simpa using ih
  | true =>
   cases agree d b with
   | false=>simp only [Bool.and_false,Bool.false_eq_true,if_false,if_true,List.nil_append,List.singleton_append]; exact ih.cons _
   | true=>simp only [Bool.and_true,if_true,List.singleton_append]; exact ih.cons_cons _
theorem hasAt_of {l : List GDeriv} {p : GProp} {k : Nat} {d : GDeriv} (h : l[k]? = some d) : hasAt l p (k : Int) = decide (p ∈ props d):=by simp [hasAt,h]
theorem dconcat_L2 {Ls : List (List GDecision)} (hl : Ls.length ≤ 1000) (hs : Ls.flatten.length ≤ 1000) : ∀ (m i : Nat) (a : List GDecision),Ls.length - i < m→i ≤ Ls.length→a ++ (Ls.drop i).flatten = Ls.flatten→q016 Ls m i a = some Ls.flatten
 | 0,i,a,hm,_,_=>by omega
 | m + 1,i,a,hm,hi,ha=>by
  unfold q016
  by_cases hlt : i < Ls.length
  ·obtain ⟨x,hx,_⟩:=get_of hlt
   have hlen:=congrArg List.length ha
   rw [drop_cons' hx] at ha hlen
   simp only [List.flatten_cons,List.length_append] at hlen
   simp only [dlt hlt,cond_true,idxO_nat,hx,bindO_s,wr1 hlt (show Ls.length ≤ 9223372036854775807 by omega)]
   rw [needO_of ⟨by omega,by omega⟩]
   exact dconcat_L2 hl hs m (i + 1) (a ++ x) (by omega) (by omega) (by simpa using ha)
  ·simp only [dnlt hlt,cond_false,q021]
   rw [drop_nil' hlt] at ha
   simpa using ha
theorem dgrow_ok {z : Nat} (hz : z ≤ 1000) (n : Nat) : q027 n z = some []:=by
 unfold q027
 have e1 : decide ((z : Int) < 0) = false:=by simp
 have w : IntKind.i64.wrap ((z : Int) - 0) = (z : Int):=wrn (by simp) (by omega)
 rw [e1,cond_false,w]
 by_cases h : z = 0
 ·subst h; simp
 ·have e2 : decide ((z : Int) > 0) = true:=by simp; omega
  rw [e2,cond_true,needO_of ⟨by omega,by simp; omega,by simp; omega⟩,needO_of (by simp),needO_of ⟨by omega,by omega⟩,needO_of (by omega)]
  simp
theorem dconcat_L1 {Ls : List (List GDecision)} (hl : Ls.length ≤ 1000) (hs : Ls.flatten.length ≤ 1000) {n : Nat} (hn : 1001 ≤ n) : ∀ (m i z : Nat),Ls.length - i < m→i ≤ Ls.length→z + (Ls.drop i).flatten.length = Ls.flatten.length→q015 Ls n m z i = some Ls.flatten
 | 0,i,z,hm,_,_=>by omega
 | m + 1,i,z,hm,hi,hz=>by
  unfold q015
  by_cases hlt : i < Ls.length
  ·obtain ⟨x,hx,_⟩:=get_of hlt
   rw [drop_cons' hx] at hz
   simp only [List.flatten_cons,List.length_append] at hz
   have w : IntKind.i64.wrap ((z : Int) + (x.length : Int)) = ((z + x.length : Nat) : Int):=wrn (by simp) (by omega)
   have e : decide (((z + x.length : Nat) : Int) < 0) = false:=by simp; omega
   simp only [dlt hlt,cond_true,idxO_nat,hx,bindO_s,w,e,cond_false,wr1 hlt (show Ls.length ≤ 9223372036854775807 by omega)]
   exact dconcat_L1 hl hs hn m (i + 1) _ (by omega) (by omega) (by omega)
  ·simp only [dnlt hlt,cond_false,q022]
   rw [drop_nil' hlt] at hz
   simp only [List.flatten_nil,List.length_nil,Nat.add_zero] at hz
   rw [dgrow_ok (by omega),bindO_s]
   have:=dconcat_L2 hl hs n 0 [] (by omega) (by omega) (by simp)
   rwa [Int.ofNat_zero] at this
theorem dconcat_ok {Ls : List (List GDecision)} (hl : Ls.length ≤ 1000) (hs : Ls.flatten.length ≤ 1000) {n : Nat} (hn : 1001 ≤ n) : q01e n Ls = some Ls.flatten:=by
 have:=dconcat_L1 hl hs hn n 0 0 (by omega) (by omega) (by simp)
 simpa [q01e] using this
theorem wdec_L {ds : List GDecision} (hl : ds.length ≤ 1000) {p : GProp} {n : Nat} : ∀ (m i : Nat),ds.length - i < m→i ≤ ds.length→∃ z,q001 ds p (q011 n) m i = some z∧decide (z ≥ 0) = isDec (ds.drop i) p
 | 0,i,hm,_=>by omega
 | m + 1,i,hm,hi=>by
  unfold q001
  by_cases hlt : i < ds.length
  ·obtain ⟨x,hx,_⟩:=get_of hlt
   simp only [dlt hlt,cond_true,idxO_nat,hx,bindO_s,q011,eqP_dec,wr1 hlt (show ds.length ≤ 9223372036854775807 by omega),drop_cons' hx,isDec,List.any_cons]
   by_cases h : x.Propx = p
   ·simp only [h,decide_true,cond_true]; exact ⟨i,rfl,by simp⟩
   ·simp only [h,decide_false,cond_false,Bool.false_or]
    exact wdec_L hl m (i + 1) (by omega) (by omega)
  ·simp only [dnlt hlt,cond_false,q00g,drop_nil' hlt]
   exact ⟨-1,rfl,by simp [isDec]⟩
theorem wdecd_ok {ds : List GDecision} (hl : ds.length ≤ 1000) (p : GProp) {n : Nat} (hn : 1001 ≤ n) : q007 (q011 n) n ds p = some (isDec ds p):=by
 obtain ⟨z,h1,h2⟩:=wdec_L (n:=n) hl (p:=p) n 0 (by omega) (by omega)
 rw [Int.ofNat_zero] at h1
 simp only [q007,q009,h1,bindO_s,h2,List.drop_zero]
theorem sdec_L {ds : List GDecision} (hl : ds.length ≤ 1000) {p : GProp} {n : Nat} : ∀ (m i : Nat),ds.length - i < m→i ≤ ds.length→∃ z,q006 ds p (q01r n) m i = some z∧decide (z ≥ 0) = isDec (ds.drop i) p
 | 0,i,hm,_=>by omega
 | m + 1,i,hm,hi=>by
  unfold q006
  by_cases hlt : i < ds.length
  ·obtain ⟨x,hx,_⟩:=get_of hlt
   simp only [dlt hlt,cond_true,idxO_nat,hx,bindO_s,q01r,eqP_dec,wr1 hlt (show ds.length ≤ 9223372036854775807 by omega),drop_cons' hx,isDec,List.any_cons]
   by_cases h : x.Propx = p
   ·simp only [h,decide_true,cond_true]; exact ⟨i,rfl,by simp⟩
   ·simp only [h,decide_false,cond_false,Bool.false_or]
    exact sdec_L hl m (i + 1) (by omega) (by omega)
  ·simp only [dnlt hlt,cond_false,q00r,drop_nil' hlt]
   exact ⟨-1,rfl,by simp [isDec]⟩
theorem sdecd_ok {ds : List GDecision} (hl : ds.length ≤ 1000) (p : GProp) {n : Nat} (hn : 1001 ≤ n) : q00c (q01r n) n ds p = some (isDec ds p):=by
 obtain ⟨z,h1,h2⟩:=sdec_L (n:=n) hl (p:=p) n 0 (by omega) (by omega)
 rw [Int.ofNat_zero] at h1
 simp only [q00c,q00j,h1,bindO_s,h2,List.drop_zero]
end Go.Proofs
end
section
namespace Go.Proofs
open Go Go.Rx Go.Vx Go.Sort
set_option linter.unusedVariables false
set_option linter.unusedSimpArgs false
theorem ddec_ok {s : GSession} (hl : s.Decisions.length ≤ 1000) (p : GProp) {n : Nat} (hn : 1001 ≤ n) : q01c n (Gwork.mk s) p = some (isDec s.Decisions p):=by
 simp only [q01c,wdecd_ok hl p hn,bindO_s]
theorem drem_ok {s : GSession} {n : Nat} (hL : Lt s.Readings n) {x : List GDecision} (hl : s.Decisions.length + x.length ≤ 1000) : q00h n (Gwork.mk s) x = some (rem s.Readings (s.Decisions ++ x)):=by
 have h1:=hL.n1
 have h2:=dconcat_ok (Ls:=[s.Decisions,x]) (by simp) (by simp; omega) h1
 simp only [q00h,h2,bindO_s,List.flatten_cons,List.flatten_nil,List.append_nil,Remaining_ok hL (ds:=s.Decisions ++ x) (by simp; omega)]
theorem idxP_L {ps : List GProp} (hl : ps.length ≤ 1000) {p : GProp} : ∀ (m i : Nat),ps.length - i < m→i ≤ ps.length→∃ z,q01q ps p m i = some z∧decide (z ≥ 0) = decide (p ∈ ps.drop i)
 | 0,i,hm,_=>by omega
 | m + 1,i,hm,hi=>by
  unfold q01q
  by_cases hlt : i < ps.length
  ·obtain ⟨x,hx,_⟩:=get_of hlt
   simp only [dlt hlt,cond_true,idxO_nat,hx,bindO_s,eqP_dec,wr1 hlt (show ps.length ≤ 9223372036854775807 by omega),drop_cons' hx]
   by_cases h : p = x
   ·simp only [h,decide_true,cond_true]; exact ⟨i,rfl,by simp⟩
   ·obtain ⟨z,g1,g2⟩:=idxP_L hl (p:=p) m (i + 1) (by omega) (by omega)
    simp only [h,decide_false,cond_false]
    exact ⟨z,g1,by rw [g2]; simp [h]⟩
  ·simp only [dnlt hlt,cond_false,q02p,drop_nil' hlt]
   exact ⟨-1,rfl,by simp⟩
theorem contP_ok {ps : List GProp} (hl : ps.length ≤ 1000) (p : GProp) {n : Nat} (hn : 1001 ≤ n) : q01p n ps p = some (decide (p ∈ ps)):=by
 obtain ⟨z,h1,h2⟩:=idxP_L hl (p:=p) n 0 (by omega) (by omega)
 rw [Int.ofNat_zero] at h1
 simp only [q01p,q02w,h1,bindO_s,h2,List.drop_zero]
theorem cloneX_ok {ds : List GDecision} (hl : ds.length ≤ 1000) (n : Nat) : q01b n ds = some ds:=by
 unfold q01b
 cases ds with
 | nil=>simp [bothL,needO]
 | cons a l=>simp only [bothL,cond_false]; rw [needO_of ⟨by omega,by omega⟩]
theorem clipX_ok {ds : List GDecision} (hl : ds.length ≤ 1000) (n : Nat) : q01t n ds = some ds:=by
 unfold q01t
 have : cutF ds (ds.length : Int) = some ds:=by unfold cutF; rw [if_pos ⟨by omega,by omega,by omega⟩]; simp
 rw [this,bindO_s]
def decideP (s : GSession) (p : GProp) (y : Bool) : GSession × Int :=
 if s.State ≠ 0 then (s,15) else if p ∉ dsc s.Readings then (s,16) else if isDec s.Decisions p = true then (s,4)
 else if rem s.Readings (s.Decisions ++ [⟨p,y⟩]) = [] then (s,17) else (⟨s.Readings,s.Decisions ++ [⟨p,y⟩],s.State⟩,0)
theorem Decide_ok {s : GSession} {n : Nat} (hL : Lt s.Readings n) (hl : s.Decisions.length ≤ 900) (p : GProp) (y : Bool) : q01j n s p y = some (decideP s p y):=by
 have h1:=hL.n1
 have hs:=hL.sum
 have hdl:=dsc_len s.Readings
 unfold q01j decideP
 by_cases h0 : s.State = 0
 ·have e0 : (s.State != 0) = false:=by simp [h0]
  rw [e0,cond_false,if_neg (by simp [h0]),Discr_ok hL,bindO_s,contP_ok (by omega) p h1,bindO_s]
  by_cases h2 : p ∈ dsc s.Readings
  ·rw [if_neg (by simp [h2])]
   simp only [h2,decide_true,Bool.not_true,cond_false,ddec_ok (s:=s) (by omega) p h1,bindO_s]
   cases hd : isDec s.Decisions p with
   | true=>simp
   | false =>
    rw [cond_false,drem_ok hL (by simp; omega),bindO_s,len0,if_neg (by simp)]
    by_cases h3 : rem s.Readings (s.Decisions ++ [⟨p,y⟩]) = []
    ·simp [h3]
    ·have : ¬ (rem s.Readings (s.Decisions ++ [⟨p,y⟩])).length = 0:=fun h=>h3 (List.length_eq_zero_iff.1 h)
     simp only [this,decide_false,cond_false,if_neg h3,cloneX_ok (show s.Decisions.length ≤ 1000 by omega),clipX_ok (show s.Decisions.length ≤ 1000 by omega),bindO_s]
     rw [needO_of ⟨by simp; omega,by simp; omega⟩]
  ·rw [if_pos h2]; simp [h2]
 ·have e0 : (s.State != 0) = true:=by simpa using h0
  rw [e0,cond_true,if_pos h0]
def acceptP (s : GSession) : GSession × Int :=
 if s.State ≠ 0 then (s,15) else if (rem s.Readings s.Decisions).length ≠ 1 then (s,17) else (⟨s.Readings,s.Decisions,1⟩,0)
theorem Accept_ok {s : GSession} {n : Nat} (hL : Lt s.Readings n) (hl : s.Decisions.length ≤ 900) : q02d n s = some (acceptP s):=by
 unfold q02d acceptP
 by_cases h0 : s.State = 0
 ·have e0 : (s.State != 0) = false:=by simp [h0]
  rw [e0,cond_false,if_neg (by simp [h0]),drem_ok hL (by simp; omega),bindO_s,List.append_nil]
  by_cases h : (rem s.Readings s.Decisions).length = 1
  ·have e : (((rem s.Readings s.Decisions).length : Int) != 1) = false:=by simp [h]
   rw [e,cond_false,if_neg (by simp [h])]
  ·have e : (((rem s.Readings s.Decisions).length : Int) != 1) = true:=by simp; omega
   rw [e,cond_true,if_pos h]
 ·have e0 : (s.State != 0) = true:=by simpa using h0
  rw [e0,cond_true,if_pos h0]
def rejectP (s : GSession) : GSession × Int:=if s.State ≠ 0 then (s,15) else (⟨s.Readings,s.Decisions,2⟩,0)
theorem Reject_ok (s : GSession) (n : Nat) : q02y n s = some (rejectP s):=by
 unfold q02y rejectP
 by_cases h0 : s.State = 0
 ·have e0 : (s.State != 0) = false:=by simp [h0]
  rw [e0,cond_false,if_neg (by simp [h0])]
 ·have e0 : (s.State != 0) = true:=by simpa using h0
  rw [e0,cond_true,if_pos h0]
def undoP (s : GSession) : GSession × Int :=
 if s.State ≠ 0 then (⟨s.Readings,s.Decisions,0⟩,0) else if s.Decisions = [] then (s,16) else (⟨s.Readings,s.Decisions.dropLast,s.State⟩,0)
theorem cutLast {α : Type} {l : List α} (h : l ≠ []) (hl : l.length ≤ 1000) : cutO l 0 (IntKind.i64.wrap ((l.length : Int) - 1)) = some l.dropLast:=by
 have hp : 0 < l.length:=List.length_pos_iff.2 h
 rw [wrn (k:=l.length - 1) (by omega) (by omega)]
 unfold cutO
 rw [if_pos ⟨by omega,by omega,by omega⟩]
 simp [List.dropLast_eq_take]
theorem Undo_ok {s : GSession} (hl : s.Decisions.length ≤ 900) (n : Nat) : q03y n s = some (undoP s):=by
 unfold q03y undoP
 by_cases h0 : s.State = 0
 ·have e0 : (s.State != 0) = false:=by simp [h0]
  rw [e0,cond_false,if_neg (by simp [h0]),len0]
  by_cases h : s.Decisions = []
  ·simp [h]
  ·have : ¬ s.Decisions.length = 0:=fun e=>h (List.length_eq_zero_iff.1 e)
   simp only [this,decide_false,cond_false,if_neg h,cutLast h (show s.Decisions.length ≤ 1000 by omega),bindO_s,cloneX_ok (show s.Decisions.dropLast.length ≤ 1000 by simp; omega)]
 ·have e0 : (s.State != 0) = true:=by simpa using h0
  rw [e0,cond_true,if_pos h0]
theorem remF_filter (p : GProp) (b : Bool) (ds : List GDecision) : ∀ (l pre : List GDeriv),remF l (ds ++ [⟨p,b⟩]) pre.length = (remF l ds pre.length).filter (fun z=>hasAt (pre ++ l) p z == b)
 | [],pre=>by simp [remF]
 | d :: l,pre=>by
  have ih:=remF_filter p b ds l (pre ++ [d])
  rw [List.append_assoc,List.length_append,List.length_singleton,List.singleton_append] at ih
  have hd : hasAt (pre ++ d :: l) p (pre.length : Int) = decide (p ∈ props d):=hasAt_of (by simp)
  have hf : agree d (ds ++ [⟨p,b⟩]) = (agree d ds && (decide (p ∈ props d) == b)):=by rw [agree_app]; simp [agree,fits1]
  simp only [remF,ih,hf,List.filter_append]
  cases agree d ds with
  | false=>simp
  | true=>cases h : (decide (p ∈ props d) == b) <;> simp [hd,h]
theorem rem_filter (l : List GDeriv) (ds : List GDecision) (p : GProp) (b : Bool) : rem l (ds ++ [⟨p,b⟩]) = (rem l ds).filter (fun z=>hasAt l p z == b):=remF_filter p b ds l []
theorem rem_cnt (l : List GDeriv) (ds : List GDecision) (p : GProp) : (rem l (ds ++ [⟨p,true⟩])).length = cntR l (rem l ds) p:=by
 rw [rem_filter]
 have : (fun z=>hasAt l p z == true) = hasAt l p:=by funext z; simp
 rw [this]; rfl
def absI (z : Int) : Int:=if -z > z then -z else z
def sugS (l : List GDeriv) (ds : List GDecision) (st : Bool × Int × GProp) (p : GProp) : Bool × Int × GProp :=
 if isDec ds p = true ∨ isDec (impl l ds) p = true then st
 else if st.1 = false ∨ absI (2 * (cntR l (rem l ds) p : Int) - (rem l ds).length) < st.2.1 then (true,absI (2 * (cntR l (rem l ds) p : Int) - (rem l ds).length),p) else st
def sugP (s : GSession) : GProp × Bool :=
 let r:=(dsc s.Readings).foldl (sugS s.Readings s.Decisions) (false,0,⟨0,[],0,0⟩)
 (r.2.2,r.1)
theorem cntR_le (l : List GDeriv) (r : List Int) (p : GProp) : cntR l r p ≤ r.length:=List.length_filter_le _ _
theorem sug_L {s : GSession} {n : Nat} (hL : Lt s.Readings n) (hl : s.Decisions.length ≤ 900) {ps : List GProp} (hps : ps.length ≤ 500) : ∀ (m i : Nat) (f : Bool) (a : Int) (q : GProp),ps.length - i < m→i ≤ ps.length →
  q012 s n (impl s.Readings s.Decisions) (rem s.Readings s.Decisions) ps m a f i q.Kind q.Name q.From q.To = (let r:=(ps.drop i).foldl (sugS s.Readings s.Decisions) (f,a,q); some (r.2.2,r.1))
 | 0,i,f,a,q,hm,_=>by omega
 | m + 1,i,f,a,q,hm,hi=>by
  have h1:=hL.n1
  have hs:=hL.sum
  have h6:=hL.len
  have hil:=impl_len s.Readings s.Decisions
  have hrl:=rem_len s.Readings s.Decisions
  unfold q012
  by_cases hlt : i < ps.length
  ·obtain ⟨p,hp,_⟩:=get_of hlt
   have ih:=fun f a q=>sug_L hL hl hps m (i + 1) f a q (by omega) (by omega)
   simp only [dlt hlt,cond_true,idxO_nat,hp,bindO_s,ddec_ok (s:=s) (by omega) p h1,wr1 hlt (show ps.length ≤ 9223372036854775807 by omega),drop_cons' hp,List.foldl_cons]
   cases hd : isDec s.Decisions p with
   | true=>simp only [cond_true,bindO_s,ih]; simp [sugS,hd]
   | false =>
    simp only [cond_false,sdecd_ok (ds:=impl s.Readings s.Decisions) (by omega) p h1,bindO_s]
    cases he : isDec (impl s.Readings s.Decisions) p with
    | true=>simp only [cond_true,ih]; simp [sugS,he]
    | false =>
     have hc:=cntR_le s.Readings (rem s.Readings s.Decisions) p
     have w1 : IntKind.i64.wrap (2 * (cntR s.Readings (rem s.Readings s.Decisions) p : Int)) = 2 * (cntR s.Readings (rem s.Readings s.Decisions) p : Int):=wr (by omega) (by omega)
     have w2 : IntKind.i64.wrap (2 * (cntR s.Readings (rem s.Readings s.Decisions) p : Int) - ((rem s.Readings s.Decisions).length : Int)) = 2 * (cntR s.Readings (rem s.Readings s.Decisions) p : Int) - ((rem s.Readings s.Decisions).length : Int):=wr (by omega) (by omega)
     have w3 : IntKind.i64.wrap (((rem s.Readings s.Decisions).length : Int) - 2 * (cntR s.Readings (rem s.Readings s.Decisions) p : Int)) = -(2 * (cntR s.Readings (rem s.Readings s.Decisions) p : Int) - ((rem s.Readings s.Decisions).length : Int)):=by rw [wr (by omega) (by omega)]; omega
     simp only [cond_false,drem_ok (s:=s) hL (x:=[⟨p,true⟩]) (by simp; omega),bindO_s,rem_cnt,w1,w2,w3,q02a,wr1 hlt (show ps.length ≤ 9223372036854775807 by omega),ih]
     have hA : (if -(2 * (cntR s.Readings (rem s.Readings s.Decisions) p : Int) - ((rem s.Readings s.Decisions).length : Int)) > 2 * (cntR s.Readings (rem s.Readings s.Decisions) p : Int) - ((rem s.Readings s.Decisions).length : Int) then -(2 * (cntR s.Readings (rem s.Readings s.Decisions) p : Int) - ((rem s.Readings s.Decisions).length : Int)) else 2 * (cntR s.Readings (rem s.Readings s.Decisions) p : Int) - ((rem s.Readings s.Decisions).length : Int)) = absI (2 * (cntR s.Readings (rem s.Readings s.Decisions) p : Int) - ((rem s.Readings s.Decisions).length : Int)):=rfl
     rw [hA]
     generalize hz : absI (2 * (cntR s.Readings (rem s.Readings s.Decisions) p : Int) - ((rem s.Readings s.Decisions).length : Int)) = z
     have hS : sugS s.Readings s.Decisions (f,a,q) p = if f = false ∨ z < a then (true,z,p) else (f,a,q):=by simp only [sugS,hd,he,hz]; simp
     rw [hS]
     cases f with
     | false=>simp
     | true =>
      simp only [Bool.not_true,cond_false,bindO_s]
      by_cases hlt2 : z < a
      ·simp [hlt2]
      ·simp [hlt2]
  ·simp only [dnlt hlt,cond_false,q031,drop_nil' hlt,List.foldl_nil]
theorem Suggest_ok {s : GSession} {n : Nat} (hL : Lt s.Readings n) (hl : s.Decisions.length ≤ 900) : q01z n s = some (sugP s):=by
 have h1:=hL.n1
 have hs:=hL.sum
 have hdl:=dsc_len s.Readings
 have h:=sug_L hL hl (ps:=dsc s.Readings) (by omega) n 0 false 0 ⟨0,[],0,0⟩ (by omega) (by omega)
 rw [Int.ofNat_zero] at h
 simp only [q01z,Implied_ok hL (show s.Decisions.length ≤ 1000 by omega),drem_ok (s:=s) hL (x:=[]) (by simp; omega),bindO_s,Discr_ok hL,List.append_nil,h]
 rfl
def performP (s : GSession) (x : GStep) : GSession × Int :=
 if x.Op.tmod 6 = 0 then decideP s x.Propx x.Yes else if x.Op.tmod 6 = 1 then undoP s else if x.Op.tmod 6 = 2 then acceptP s else if x.Op.tmod 6 = 3 then rejectP s else decideP s (sugP s).1 x.Yes
theorem perform_ok {s : GSession} {n : Nat} (hL : Lt s.Readings n) (hl : s.Decisions.length ≤ 900) (x : GStep) : q03z n s x = some (performP s x):=by
 unfold q03z performP
 simp only [Decide_ok hL hl,Undo_ok hl,Accept_ok hL hl,Reject_ok,Suggest_ok hL hl,bindO_s]
 by_cases h0 : x.Op.tmod 6 = 0
 ·simp [h0]
 ·have e0 : (x.Op.tmod 6 == 0) = false:=by simpa using h0
  rw [e0,cond_false,if_neg h0]
  by_cases h1 : x.Op.tmod 6 = 1
  ·simp [h1]
  ·have e1 : (x.Op.tmod 6 == 1) = false:=by simpa using h1
   rw [e1,cond_false,if_neg h1]
   by_cases h2 : x.Op.tmod 6 = 2
   ·simp [h2]
   ·have e2 : (x.Op.tmod 6 == 2) = false:=by simpa using h2
    rw [e2,cond_false,if_neg h2]
    by_cases h3 : x.Op.tmod 6 = 3
    ·simp [h3]
    ·have e3 : (x.Op.tmod 6 == 3) = false:=by simpa using h3
     rw [e3,cond_false,if_neg h3]
structure Inv (R : List GDeriv) (k : Nat) (s : GSession) : Prop where
 rd : s.Readings = R
 len : s.Decisions.length ≤ k
 some : rem R s.Decisions ≠ []
 one : s.State = 1→(rem R s.Decisions).length = 1
theorem rem_dropLast {l : List GDeriv} {ds : List GDecision} (h : rem l ds ≠ []) : rem l ds.dropLast ≠ []:=by
 by_cases h0 : ds = []
 ·subst h0; exact h
 ·have e:=List.dropLast_concat_getLast h0
  have hs : (rem l ds).Sublist (rem l ds.dropLast):=by
   have h1:=remF_sub l ds.dropLast [ds.getLast h0] 0
   rw [e] at h1
   exact h1
  intro h2
  rw [h2] at hs
  exact h (List.sublist_nil.1 hs)
theorem decideP_inv {R : List GDeriv} {k : Nat} {s : GSession} (h : Inv R k s) (p : GProp) (y : Bool) : Inv R (k + 1) (decideP s p y).1:=by
 have h' : Inv R (k + 1) s:=⟨h.rd,by have:=h.len; omega,h.some,h.one⟩
 unfold decideP
 split
 ·exact h'
 split
 ·exact h'
 split
 ·exact h'
 split
 ·exact h'
 ·rename_i h1 _ _ h4
  exact ⟨h.rd,by have:=h.len; simp; omega,by rw [← h.rd]; exact h4,fun e=>absurd e (by simp at h1; simp [h1])⟩
theorem performP_inv {R : List GDeriv} {k : Nat} {s : GSession} (h : Inv R k s) (x : GStep) : Inv R (k + 1) (performP s x).1:=by
 have h' : Inv R (k + 1) s:=⟨h.rd,by have:=h.len; omega,h.some,h.one⟩
 unfold performP
 split
 ·exact decideP_inv h _ _
 split
 ·unfold undoP
  split
  ·exact ⟨h.rd,h'.len,h.some,fun e=>by cases e⟩
  split
  ·exact h'
  ·rename_i h1 h2
   exact ⟨h.rd,by have:=h.len; simp; omega,rem_dropLast h.some,fun e=>by simp at h1; rw [h1] at e; cases e⟩
 split
 ·unfold acceptP
  split
  ·exact h'
  split
  ·exact h'
  ·rename_i h1 h2
   exact ⟨h.rd,h'.len,h.some,fun _=>by rw [h.rd] at h2; simpa using h2⟩
 split
 ·unfold rejectP
  split
  ·exact h'
  ·exact ⟨h.rd,h'.len,h.some,fun e=>by cases e⟩
 ·exact decideP_inv h _ _
def runP (s : GSession) (l : List GStep) : GSession:=l.foldl (fun s x=>(performP s x).1) s
theorem runP_inv {R : List GDeriv} : ∀ (l : List GStep) {k : Nat} {s : GSession},Inv R k s→Inv R (k + l.length) (runP s l)
 | [],k,s,h=>h
 | x :: l,k,s,h=>by
  have:=runP_inv l (performP_inv h x)
  rw [show k + (x :: l).length = k + 1 + l.length by simp; omega]
  exact this
theorem run_L {R : List GDeriv} {n : Nat} (hL : Lt R n) {ps : List GStep} (hps : ps.length ≤ 100) {e : GSession × Int} (he : e.2 = 0) : ∀ (m i k : Nat) (s : GSession),ps.length - i < m→i ≤ ps.length→Inv R k s→k ≤ i →
  q03x ps n e m i s.Readings s.Decisions s.State = some (runP s (ps.drop i),true)
 | 0,i,k,s,hm,_,_,_=>by omega
 | m + 1,i,k,s,hm,hi,hI,hk=>by
  have hil:=hI.len
  have e1 : (e.2 != 0) = false:=by simp [he]
  have e2 : (e.2 == 0) = true:=by simp [he]
  unfold q03x
  by_cases hlt : i < ps.length
  ·obtain ⟨x,hx,_⟩:=get_of hlt
   have hp:=perform_ok (s:=s) (n:=n) (by rw [hI.rd]; exact hL) (by omega) x
   have ih:=run_L hL hps he m (i + 1) (k + 1) (performP s x).1 (by omega) (by omega) (performP_inv hI x) (by omega)
   simp only [dlt hlt,cond_true,idxO_nat,hx,bindO_s,e1,cond_false,hp,wr1 hlt (show ps.length ≤ 9223372036854775807 by omega),ih,drop_cons' hx]
   rfl
  ·simp only [dnlt hlt,cond_false,q03v,drop_nil' hlt,e2]; rfl
end Go.Proofs
end
section
namespace Go.Proofs
open Go Go.Rx Go.Vx Go.Sort
set_option linter.unusedVariables false
set_option linter.unusedSimpArgs false
instance : DecidableEq GDeriv:=fun x y=>decidable_of_iff (ccD x y = 0) ccD_zero
theorem Light_L {l : List GDeriv} (hl : l.length ≤ 9223372036854775807) {n : Nat} (hn : ∀ d ∈ l,okG d∧SizeOf.sizeOf d ≤ n) : ∀ (m i : Nat) (z : Int),l.length - i < m→i ≤ l.length→0 ≤ z→z ≤ 200→∃ b,q03e l 50 n m z i = some b∧(b = true→z + nodesL (l.drop i) ≤ 50)
 | 0,i,z,hm,_,_,_=>by omega
 | m + 1,i,z,hm,hi,h0,h1=>by
  unfold q03e
  by_cases hlt : i < l.length
  ·obtain ⟨x,hx,hxm⟩:=get_of hlt
   rw [dlt hlt,cond_true,bindO_s]
   by_cases hz : z ≤ 50
   ·obtain ⟨hok,hs⟩:=hn x hxm
    obtain ⟨c,k1,k2,k3,k4⟩:=Nodes_ok _ x (Nat.lt_succ_self _) hok n hs 51 (by omega) (by omega)
    have w : IntKind.i64.wrap ((50 : Int) + 1) = 51:=by rw [wr (by omega) (by omega)]; rfl
    simp only [hz,decide_true,cond_true,idxO_nat,hx,bindO_s,w,k1,wr (show -9223372036854775808 ≤ z + c by omega) (by omega),wr1 hlt hl]
    obtain ⟨b,q1,q2⟩:=Light_L hl hn m (i + 1) (z + c) (by omega) (by omega) (by omega) (by omega)
    refine ⟨b,q1,fun hb=>?_⟩
    have:=q2 hb
    rw [nodesL_drop hx]
    have hc : c < 51:=by omega
    have:=k4 hc
    omega
   ·simp only [hz,decide_false,cond_false,q049]
    exact ⟨false,rfl,fun h=>by cases h⟩
  ·simp only [dnlt hlt,cond_false,bindO_s,q049,drop_nil' hlt,nodesL]
   exact ⟨_,rfl,fun h=>by simp at h; simp; exact h⟩
theorem light_ok {l : List GDeriv} (hl : l.length ≤ 9223372036854775807) {n : Nat} (hn : ∀ d ∈ l,okG d∧SizeOf.sizeOf d + 1001 ≤ n) (hn1 : 1001 ≤ n) (hll : l.length < n) : ∃ b,law46_light n l = some b∧(b = true→Lt l n∧l.length ≤ 5):=by
 unfold law46_light
 by_cases h6 : (l.length : Int) ≤ 5
 ·obtain ⟨b,h1,h2⟩:=Light_L hl (n:=n) (fun d hd=>⟨(hn d hd).1,by have:=(hn d hd).2; omega⟩) n 0 0 (by omega) (by omega) (by omega) (by omega)
  rw [Int.ofNat_zero] at h1
  simp only [h6,decide_true,cond_true,ref37_Light,h1,bindO_s]
  refine ⟨b,rfl,fun h=>?_⟩
  have:=h2 h
  simp at this
  exact ⟨⟨by omega,by omega,fun d hd=>(hn d hd).1,fun d hd=>(hn d hd).2,hn1⟩,by omega⟩
 ·simp only [h6,decide_false,cond_false,bindO_s]
  exact ⟨false,rfl,fun h=>by cases h⟩
def nxtD (c : GDeriv) : List GDeriv→List GDeriv
 | []=>[]
 | y :: l=>if y = c then nxtD y l else y :: nxtD y l
theorem ccD_eq0 (x y : GDeriv) (h : ccD x y = 0) : x = y:=ccD_zero.1 h
theorem dedup_nxtD : ∀ (l : List GDeriv) (x : GDeriv),dedup ccD (x :: l) = x :: nxtD x l
 | [],x=>by simp [dedup,nxtD]
 | y :: l,x=>by
  simp only [dedup,nxtD,dedup_nxtD l y]
  by_cases h : y = x
  ·subst h
   simp [cmpD_ok.self y]
  ·have : ¬ ccD x y = 0:=fun e=>h (ccD_zero.1 e).symm
   simp [h,this]
theorem compactD_L2 {p : List GDeriv} (hp : p.length ≤ 1000) {f : GDeriv→GDeriv→Option Bool} (hf : ∀ a ∈ p,∀ b ∈ p,f a b = some (decide (a = b))) {k0 : Nat} (hk0 : k0 ≤ p.length) : ∀ (m k j : Nat) (L : List GDeriv) (c : GDeriv),p.length - (k0 + j) < m→1 ≤ j→k0 + j ≤ p.length→k + 1 ≤ k0 + j→L.length = p.length→L.drop (k0 + j - 1) = p.drop (k0 + j - 1)→p[k0 + j - 1]? = some c →
  q002 p f k0 m k j L = some (L.take k ++ nxtD c (p.drop (k0 + j)))
 | 0,k,j,L,c,hm,_,_,_,_,_,_=>by omega
 | m + 1,k,j,L,c,hm,hj,hjl,hk,hL,hd,hc=>by
  have hcm:=List.mem_of_getElem? hc
  have get : ∀ q,k0 + j - 1 ≤ q→L[q]? = p[q]?:=fun q hq=>by
   have:=congrArg (fun l : List GDeriv=>l[q - (k0 + j - 1)]?) hd
   simpa [List.getElem?_drop,show k0 + j - 1 + (q - (k0 + j - 1)) = q by omega] using this
  unfold q002
  by_cases hlt : k0 + j < p.length
  ·obtain ⟨x,hx,hxm⟩:=get_of hlt
   have e1 : decide ((j : Int) < (((p.length - (k0 : Int).toNat) : Nat) : Int)) = true:=by simp; omega
   have i1 : idxV L (0 + (k0 : Int).toNat) (p.length - (k0 : Int).toNat) (j : Int) = some x:=by
    unfold idxV
    rw [if_pos ⟨by omega,by simp; omega⟩]
    simp only [Int.toNat_natCast,Nat.zero_add]
    rw [get (k0 + j) (by omega),hx]
   have i2 : idxV L (0 + (k0 : Int).toNat) (p.length - (k0 : Int).toNat) (IntKind.i64.wrap ((j : Int) - 1)) = some c:=by
    rw [wr (by omega) (by omega)]
    unfold idxV
    rw [if_pos ⟨by omega,by simp; omega⟩]
    simp only [Int.toNat_natCast,Nat.zero_add]
    rw [show k0 + ((j : Int) - 1).toNat = k0 + j - 1 by omega,get _ (by omega),hc]
   obtain ⟨w,hw,_⟩:=get_of (show k < L.length by omega)
   have wj : IntKind.i64.wrap ((j : Int) + 1) = ((j + 1 : Nat) : Int):=wrn (by simp) (by omega)
   have wk : IntKind.i64.wrap ((k : Int) + 1) = ((k + 1 : Nat) : Int):=wrn (by simp) (by omega)
   simp only [e1,cond_true,i1,i2,bindO_s,idxO_nat,hw,hf x hxm c hcm,q00q,wj,wk,drop_cons' hx,nxtD]
   by_cases hxc : x = c
   ·simp only [hxc,decide_true,Bool.not_true,cond_false,if_true]
    have:=compactD_L2 hp hf hk0 m k (j + 1) L x (by omega) (by omega) (by omega) (by omega) hL (by
     have:=congrArg (List.drop 1) hd
     simpa [List.drop_drop,show k0 + j - 1 + 1 = k0 + j by omega,show k0 + (j + 1) - 1 = k0 + j by omega] using this) (by simpa using hx)
    rw [this,hxc]; rfl
   ·simp only [hxc,decide_false,Bool.not_false,cond_true,if_false]
    have:=compactD_L2 hp hf hk0 m (k + 1) (j + 1) (L.set (0 + (k : Int).toNat) x) x (by omega) (by omega) (by omega) (by omega) (by simpa using hL) (by
     have h1:=congrArg (List.drop 1) hd
     simp only [List.drop_drop,show k0 + j - 1 + 1 = k0 + j by omega] at h1
     rw [show k0 + (j + 1) - 1 = k0 + j by omega,← h1]
     rw [List.drop_set]
     simp; omega) (by simpa using hx)
    rw [this]
    have ht : (L.set (0 + (k : Int).toNat) x).take (k + 1) = L.take k ++ [x]:=by
     rw [Nat.zero_add,Int.toNat_natCast,List.take_add_one,List.take_set_of_le (Nat.le_refl _)]
     congr 1
     rw [List.getElem?_set]
     simp; omega
    rw [ht,List.append_assoc]; rfl
  ·have hpos : k0 + j = p.length:=by omega
   have e1 : decide ((j : Int) < (((p.length - (k0 : Int).toNat) : Nat) : Int)) = false:=by simp; omega
   have hlen : (clrV L (0 + (k : Int).toNat) (L.length - (k : Int).toNat) (GDeriv.mk 0 [] 0 0 [])).length = L.length:=clrV_len (by simp; omega)
   simp only [e1,cond_false,q017,hlen]
   rw [needO_of ⟨by omega,by omega⟩,needO_of (by simp; omega),needO_of ⟨by omega,by omega⟩,needO_of (by simp; omega),drop_nil' (by omega),nxtD,List.append_nil]
   congr 1
   simp only [Int.toNat_natCast,Nat.zero_add,clrV]
   rw [List.take_append_of_le_length (by simp; omega),List.take_take,Nat.min_self]
theorem compactD_L1 {p : List GDeriv} (hp : p.length ≤ 1000) {f : GDeriv→GDeriv→Option Bool} (hf : ∀ a ∈ p,∀ b ∈ p,f a b = some (decide (a = b))) {n : Nat} (hn : p.length < n) : ∀ (m k : Nat) (c : GDeriv),p.length - k < m→1 ≤ k→k ≤ p.length→p[k - 1]? = some c →
  q00d p f n m k = some (p.take k ++ nxtD c (p.drop k))
 | 0,k,c,hm,_,_,_=>by omega
 | m + 1,k,c,hm,hk1,hk,hc=>by
  have hcm:=List.mem_of_getElem? hc
  unfold q00d
  by_cases hlt : k < p.length
  ·obtain ⟨x,hx,hxm⟩:=get_of hlt
   have i2 : idxO p (IntKind.i64.wrap ((k : Int) - 1)) = some c:=by
    rw [wrn (k:=k - 1) (by omega) (by omega),idxO_nat,hc]
   simp only [dlt hlt,cond_true,idxO_nat,hx,bindO_s,i2,hf x hxm c hcm,wr1 hlt (show p.length ≤ 9223372036854775807 by omega)]
   by_cases hxc : x = c
   ·simp only [hxc,decide_true,cond_true]
    rw [needO_of ⟨by omega,by omega⟩]
    have:=compactD_L2 hp hf (k0:=k) (by omega) n k 1 p x (by omega) (by omega) (by omega) (by omega) rfl rfl (by simpa using hx)
    rw [show ((1 : Nat) : Int) = 1 from rfl] at this
    rw [this,drop_cons' hx,nxtD,if_pos hxc]
   ·simp only [hxc,decide_false,cond_false]
    rw [compactD_L1 hp hf hn m (k + 1) x (by omega) (by omega) (by omega) (by simpa using hx),drop_cons' hx,nxtD,if_neg hxc,take_snoc hx,List.append_assoc]
    rfl
  ·simp only [dnlt hlt,cond_false,q018,drop_nil' hlt,nxtD,List.append_nil]
   rw [List.take_of_length_le (by omega)]
theorem compactD_ok {p : List GDeriv} (hp : p.length ≤ 1000) {f : GDeriv→GDeriv→Option Bool} (hf : ∀ a ∈ p,∀ b ∈ p,f a b = some (decide (a = b))) {n : Nat} (hn : p.length < n) : q00l f n p = some (dedup ccD p):=by
 unfold q00l
 match p,hp,hn,hf with
 | [],_,_,_=>simp [dedup]
 | [x],_,_,_=>simp [dedup]
 | x :: y :: l,hp,hn,hf =>
  have e : decide (((x :: y :: l).length : Int) < 2) = false:=by simp; omega
  rw [e,cond_false]
  have:=compactD_L1 hp hf hn n 1 x (by omega) (by omega) (by simp) (by simp)
  rw [show ((1 : Nat) : Int) = 1 from rfl] at this
  rw [this,dedup_nxtD]; simp
theorem new1_ok {n : Nat} {a : GDeriv} (ha : okG a) (hn : SizeOf.sizeOf a + 10 ≤ n) (b : GDeriv) : q03a n a b = some (decide (a = b)):=by
 simp only [q03a,derivCmp_ok n a b hn ha,bindO_s]
 congr 1
 rw [Bool.eq_iff_iff,beq_iff_eq,decide_eq_true_eq,ccD_zero]
def rds (l : List GDeriv) : List GDeriv:=dedup ccD (srtD l)
def newP (l : List GDeriv) : GSession × Int:=if l = [] then (⟨[],[],0⟩,1) else (⟨rds l,[],0⟩,0)
theorem srtD_mem {l : List GDeriv} {x : GDeriv} : x ∈ srtD l↔x ∈ l:=(srt_perm (ltOf ccD) l).mem_iff
theorem rds_mem {l : List GDeriv} {x : GDeriv} : x ∈ rds l↔x ∈ l:=by unfold rds; rw [dedup_mem ccD_eq0,srtD_mem]
theorem dedup_sub {α : Type} {c : α→α→Int} : ∀ l : List α,(dedup c l).Sublist l
 | []=>by simp [dedup]
 | [x]=>by simp [dedup]
 | x :: y :: l=>by
  simp only [dedup]
  split
  ·exact (dedup_sub (y :: l)).cons _
  ·exact (dedup_sub (y :: l)).cons_cons _
theorem nodesL_perm {a b : List GDeriv} (h : a.Perm b) : nodesL a = nodesL b:=by
 induction h with
 | nil=>rfl
 | cons x _ ih=>simp only [nodesL,ih]
 | swap x y l=>simp only [nodesL]; omega
 | trans _ _ h1 h2=>rw [h1,h2]
theorem nodesL_sub {a b : List GDeriv} (h : a.Sublist b) : nodesL a ≤ nodesL b:=by
 induction h with
 | slnil=>exact Nat.le_refl _
 | cons x _ ih=>simp only [nodesL]; omega
 | cons_cons x _ ih=>simp only [nodesL]; omega
theorem rds_len (l : List GDeriv) : (rds l).length ≤ l.length:=by
 have h1:=(dedup_sub (c:=ccD) (srtD l)).length_le
 rw [srtD_len] at h1
 exact h1
theorem rds_sum (l : List GDeriv) : nodesL (rds l) ≤ nodesL l:=by
 have h1:=nodesL_sub (dedup_sub (c:=ccD) (srtD l))
 rw [show nodesL (srtD l) = nodesL l from nodesL_perm (srt_perm (ltOf ccD) l)] at h1
 exact h1
theorem Lt.rds {l : List GDeriv} {n : Nat} (h : Lt l n) : Lt (rds l) n:=⟨by have:=rds_len l; have:=h.len; omega,by have:=rds_sum l; have:=h.sum; omega,fun d hd=>h.ok d (rds_mem.1 hd),fun d hd=>h.fuel d (rds_mem.1 hd),h.n1⟩
theorem okGs_of : ∀ {l : List GDeriv},(∀ d ∈ l,okG d)→okGs l
 | [],_=>by simp [okGs]
 | d :: l,h=>by simp only [okGs]; exact ⟨h d (by simp),okGs_of fun e he=>h e (by simp [he])⟩
theorem cloneD_ok {l : List GDeriv} (hl : l.length ≤ 1000) (n : Nat) : q02h n l = some l:=by
 unfold q02h
 cases l with
 | nil=>simp [bothL,needO]
 | cons a l=>simp only [bothL,cond_false]; rw [needO_of ⟨by omega,by omega⟩]
theorem New_ok {l : List GDeriv} {n : Nat} (hL : Lt l n) : q02r n l = some (newP l):=by
 have h1:=hL.n1
 have h6:=hL.len
 unfold q02r newP
 rw [len0]
 by_cases h : l = []
 ·simp [h]
 ·have : ¬ l.length = 0:=fun e=>h (List.length_eq_zero_iff.1 e)
  rw [decide_eq_false this,cond_false,if_neg h,cloneD_ok (by omega),bindO_s,needO_of ⟨by omega,(okBs_iff l).2 (okGs_of hL.ok)⟩,compactD_ok (by rw [srtD_len]; omega) (fun a ha b _=>new1_ok (hL.ok a (srtD_mem.1 ha)) (by have:=hL.fuel a (srtD_mem.1 ha); omega) b) (by rw [srtD_len]; omega),bindO_s]
  rfl
end Go.Proofs
end
section
namespace Go.Proofs
open Go Go.Rx Go.Vx Go.Sort
set_option linter.unusedVariables false
set_option linter.unusedSimpArgs false
theorem ex_ok (m : Nat) : q01h (m + 60) = some true:=by kernel_rfl
theorem ex_n {n : Nat} (h : 60 ≤ n) : q01h n = some true:=by
 obtain ⟨m,rfl⟩ : ∃ m,n = m + 60:=⟨n - 60,by omega⟩
 exact ex_ok m
theorem sz_of {l : List GDeriv} (hok : okGs l) {n : Nat} (hn : SizeOf.sizeOf l + 1001 ≤ n) : ∀ d ∈ l,okG d∧SizeOf.sizeOf d + 1001 ≤ n:=fun d hd=>⟨okGs_mem hok d hd,by have:=List.sizeOf_lt_of_mem hd; omega⟩
theorem remF_nil : ∀ (l : List GDeriv) (i : Nat),(remF l [] i).length = l.length
 | [],i=>rfl
 | d :: l,i=>by simp only [remF,List.length_append,remF_nil l (i + 1)]; simp [agree]; omega
theorem rds_ne {l : List GDeriv} (h : l ≠ []) : rds l ≠ []:=fun e=>by
 cases l with
 | nil=>exact h rfl
 | cons d l=>have : d ∈ rds (d :: l):=rds_mem.2 (by simp); rw [e] at this; cases this
theorem Inv.first {l : List GDeriv} (h : l ≠ []) : Inv (rds l) 0 ⟨rds l,[],0⟩ :=
 ⟨rfl,by simp,fun e=>rds_ne h (List.length_eq_zero_iff.1 (by rw [← remF_nil (rds l) 0]; exact List.length_eq_zero_iff.2 e)),fun e=>by cases e⟩
theorem run_ok {l : List GDeriv} {n : Nat} (hL : Lt l n) {ps : List GStep} (hps : ps.length ≤ 10) : ∃ s b,law46_run n l ps = some (s,b)∧(b = true→Inv (rds l) 10 s):=by
 have h1:=hL.n1
 simp only [law46_run,New_ok hL,bindO_s]
 by_cases h : l = []
 ·subst h
  have e : newP [] = (⟨[],[],0⟩,1):=rfl
  rw [e]
  obtain ⟨n,rfl⟩ : ∃ m,n = m + 1:=⟨n - 1,by omega⟩
  refine ⟨⟨[],[],0⟩,false,?_,fun h=>by cases h⟩
  unfold q03x
  by_cases hlt : 0 < ps.length
  ·obtain ⟨x,hx,_⟩:=get_of hlt
   have:=idxO_nat (l:=ps) 0
   rw [Int.ofNat_zero] at this
   have d:=dlt hlt
   rw [Int.ofNat_zero] at d
   simp only [d,cond_true,this,hx,bindO_s,q03v]
   rfl
  ·have d:=dnlt hlt
   rw [Int.ofNat_zero] at d
   simp only [d,cond_false,q03v]
   rfl
 ·have e : newP l = (⟨rds l,[],0⟩,0):=by unfold newP; rw [if_neg h]
  have h2:=run_L hL.rds (ps:=ps) (by omega) (e:=newP l) (by rw [e]) n 0 0 ⟨rds l,[],0⟩ (by omega) (by omega) (Inv.first h) (by omega)
  rw [Int.ofNat_zero,List.drop_zero] at h2
  refine ⟨runP ⟨rds l,[],0⟩ ps,true,?_,fun _=>?_⟩
  ·rw [← h2,e]
  ·have:=runP_inv ps (Inv.first h)
   exact ⟨this.rd,by have:=this.len; omega,this.some,this.one⟩
theorem Inv.lt {l : List GDeriv} {n k : Nat} {s : GSession} (h : Inv (rds l) k s) (hL : Lt l n) : Lt s.Readings n:=by rw [h.rd]; exact hL.rds
theorem keeps_L2 {s : GSession} {n : Nat} (hL : Lt s.Readings n) (hl : s.Decisions.length ≤ 900) {b : Bool} {z : Int} {rc : Int→Option Bool} {k : Nat} {d : GDeriv} (hk : s.Readings[k]? = some d) (ha : agree d s.Decisions = true) : ∀ (m i : Nat),s.Decisions.length - i < m→i ≤ s.Decisions.length →
  q01f n (s,b) z rc (k : Int) m i = rc (IntKind.i64.wrap (z + 1))
 | 0,i,hm,_=>by omega
 | m + 1,i,hm,hi=>by
  have hdm:=List.mem_of_getElem? hk
  have h1:=hL.n1
  unfold q01f
  by_cases hlt : i < s.Decisions.length
  ·obtain ⟨x,hx,hxm⟩:=get_of hlt
   have hf : fits1 d x = true:=List.all_eq_true.1 ha x hxm
   simp only [fits1] at hf
   have hh:=Holds_ok (hL.ok d hdm) (n:=n) (by have:=hL.fuel d hdm; omega) h1 (by have:=hL.nd hdm; omega) x.Propx
   simp only [dlt hlt,cond_true,idxO_nat,hx,hk,bindO_s,hh,hf,Bool.not_true,cond_false,wr1 hlt (show s.Decisions.length ≤ 9223372036854775807 by omega)]
   exact keeps_L2 hL hl hk ha m (i + 1) (by omega) (by omega)
  ·simp only [dnlt hlt,cond_false,q02c]
theorem keeps_L1 {s : GSession} {n : Nat} (hL : Lt s.Readings n) (hl : s.Decisions.length ≤ 900) {b : Bool} : ∀ (m i : Nat),(rem s.Readings s.Decisions).length - i < m→i ≤ (rem s.Readings s.Decisions).length→q00n n (s,b) (rem s.Readings s.Decisions) m i = some true
 | 0,i,hm,_=>by omega
 | m + 1,i,hm,hi=>by
  have h1:=hL.n1
  have h6:=hL.len
  have hr:=rem_len s.Readings s.Decisions
  unfold q00n
  by_cases hlt : i < (rem s.Readings s.Decisions).length
  ·obtain ⟨z,hz,hzm⟩:=get_of hlt
   obtain ⟨k,d,e1,e2,e3⟩:=rem_mem.1 hzm
   subst e2
   have h2:=keeps_L2 hL hl (b:=b) (z:=(i : Int)) (rc:=q00n n (s,b) (rem s.Readings s.Decisions) m) e1 e3 n 0 (by omega) (by omega)
   rw [Int.ofNat_zero] at h2
   simp only [dlt hlt,cond_true,idxO_nat,hz,bindO_s,h2,wr1 hlt (show (rem s.Readings s.Decisions).length ≤ 9223372036854775807 by omega)]
   exact keeps_L1 hL hl m (i + 1) (by omega) (by omega)
  ·simp only [dnlt hlt,cond_false,q02b,ex_n (show 60 ≤ n by omega),bindO_s]
theorem keeps_law {l : List GDeriv} (hl : l.length ≤ 9223372036854775807) (hok : okGs l) (ps : List GStep) {n : Nat} (hn : SizeOf.sizeOf l + 1001 ≤ n) : q033 n l ps = some true:=by
 have hll:=len_lt_sizeOf l
 obtain ⟨b,h1,h2⟩:=light_ok hl (sz_of hok hn) (by omega) (by omega)
 simp only [q033,h1,bindO_s,ex_n (show 60 ≤ n by omega)]
 cases b with
 | false=>simp
 | true =>
  obtain ⟨hL,h5⟩:=h2 rfl
  simp only [Bool.not_true,cond_false,bindO_s]
  by_cases hps : ps.length ≤ 10
  ·have e : decide ((ps.length : Int) > 10) = false:=by simp; omega
   obtain ⟨s,b,g1,g2⟩:=run_ok hL hps
   simp only [e,cond_false,g1,bindO_s]
   cases b with
   | false=>simp
   | true =>
    have hI:=g2 rfl
    have hlt:=hI.lt hL
    have hlen:=hI.len
    have h6:=hlt.len
    have hr:=rem_len s.Readings s.Decisions
    have hso:=hI.some
    have hon:=hI.one
    rw [← hI.rd] at hso hon
    have h0 : ¬ (rem s.Readings s.Decisions).length = 0:=fun h=>hso (List.length_eq_zero_iff.1 h)
    have h7:=keeps_L1 hlt (show s.Decisions.length ≤ 900 by omega) (b:=true) n 0 (by omega) (by omega)
    rw [Int.ofNat_zero] at h7
    simp only [Bool.not_true,cond_false,Remaining_ok hlt (show s.Decisions.length ≤ 1000 by omega),bindO_s,len0,h0,decide_false]
    by_cases hst : s.State = 1
    ·have h1':=hon hst
     simp only [hst,beq_self_eq_true,cond_true,h1',h7]
     simp
    ·have e1 : (s.State == 1) = false:=by simpa using hst
     simp only [e1,cond_false,bindO_s,h7]
  ·have e : decide ((ps.length : Int) > 10) = true:=by simp; omega
   simp only [e,cond_true]
end Go.Proofs
end
