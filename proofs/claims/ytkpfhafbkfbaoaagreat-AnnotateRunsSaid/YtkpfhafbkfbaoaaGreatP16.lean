/-
  Texts of the walk: A6z R6z A7z A8z A9z.
-/
import Derived.Test.YtkpfhafbkfbaoaaGreatP15
section
namespace Go.Proofs
open Go Go.Rx Go.Vx Go.Sort
set_option linter.unusedVariables false
set_option linter.unusedSimpArgs false
theorem qak {l:List GDeriv} {i:Nat} {x:GDeriv} (h:l[i]? = some x):nodesL (l.drop i)=nodes x+nodesL (l.drop (i+1)):=by rw [drop_cons' h]; simp [nodesL]
theorem Nodes_L {d:GDeriv} (hl:d.Kids.length≤9223372036854775807) {most:Int} (h1:1≤most) (h2:most≤61) {self:GDeriv→Int→Option Int}
  (hself:∀ x∈d.Kids,∀ q:Int,1≤q→q≤61→∃ c,self x q=some c∧1≤c∧c≤q∧(c<q→c=nodes x)):∀ (m i:Nat) (z:Int),d.Kids.length - i<m→i≤d.Kids.length→1≤z→z≤most →
  ∃ c,q6e d most self m z i=some c∧1≤c∧c≤most∧(c<most→c=z+nodesL (d.Kids.drop i))
 | 0,i,z,hm,_,_,_=>by omega
 | m+1,i,z,hm,hi,hz1,hz2=>by
  unfold q6e
  by_cases hlt:i<d.Kids.length
  ·obtain ⟨x,hx,hxm⟩:=q25 hlt
   rw [dlt hlt,cond_true,q08]
   by_cases hz:z<most
   ·obtain ⟨c,k1,k2,k3,k4⟩:=hself x hxm (most - z) (by omega) (by omega)
    simp only [hz,decide_true,cond_true,q0u,hx,q08,wr (show -9223372036854775808≤most - z by omega) (by omega),k1,wr (show -9223372036854775808≤z+c by omega) (by omega),wr1 hlt hl]
    obtain ⟨c',q1,q2,q3,q4⟩:=Nodes_L hl h1 h2 hself m (i+1) (z+c) (by omega) (by omega) (by omega) (by omega)
    refine ⟨c',q1,q2,q3,fun h=>?_⟩
    have:=q4 h
    rw [qak hx]
    by_cases hc:c<most - z
    ·have:=k4 hc; omega
    ·have:z+c=most:=by omega
     omega
   ·simp only [hz,decide_false,cond_false,q7u]
    exact ⟨z,rfl,hz1,hz2,fun h=>by omega⟩
  ·simp only [dnlt hlt,cond_false,q08,q7u,drop_nil' hlt]
   exact ⟨z,rfl,hz1,hz2,fun _=>by simp [nodesL]⟩
theorem Nodes_ok:∀ (s:Nat) (d:GDeriv),SizeOf.sizeOf d<s→okG d→∀ n,SizeOf.sizeOf d≤n→∀ most:Int,1≤most→most≤61→∃ c,q5e n d most=some c∧1≤c∧c≤most∧(c<most→c=nodes d)
 | 0,d,hs,_,_,_,_,_,_=>by omega
 | s+1,d,hs,hok,n,hn,most,h1,h2=>by
  have hk:=qhk d
  cases n with
  | zero=>omega
  | succ n =>
   obtain ⟨c,q1,q2,q3,q4⟩:=Nodes_L (d:=d) (qhq hok) h1 h2 (self:=q5e n) (fun x hx q h1 h2=>by
    have:=kid_lt d hx
    exact Nodes_ok s x (by omega) (qhp hok hx) n (by omega) q h1 h2) n 0 1 (by omega) (by omega) (by omega) h1
   rw [Int.ofNat_zero] at q1
   refine ⟨c,by simp only [q5e,qbs,q1],q2,q3,fun h=>?_⟩
   have:=q4 h
   rw [qee]; simp at this; omega
def own (d:GDeriv):List GProp:=if d.Kind=0 then [⟨0,d.Name,d.From,d.To⟩] else if d.Kind=1 then [⟨1,d.Name,d.From,d.To⟩] else if d.Kind=2 then [⟨2,d.Name,d.From,d.To⟩,⟨3,[],d.From,d.To⟩] else []
mutual
def props:GDeriv→List GProp
 | .mk a b c e ks=>own (.mk a b c e ks)++propsL ks
def propsL:List GDeriv→List GProp
 | []=>[]
 | d::l=>props d++propsL l
end
theorem props_eq (d:GDeriv):props d=own d++propsL d.Kids:=by cases d; simp only [props]; rfl
theorem own_len (d : GDeriv) : (own d).length ≤ 2 := by unfold own; split; · simp
                                                        split; · simp
                                                        split <;> simp
mutual
theorem qba:∀ d:GDeriv,(props d).length≤2*nodes d
 | .mk a b c e ks=>by
  have:=qcq ks
  have:=own_len (.mk a b c e ks)
  simp only [props,nodes,List.length_append]; omega
theorem qcq:∀ l:List GDeriv,(propsL l).length≤2*nodesL l
 | []=>by simp [propsL,nodesL]
 | d::l=>by
  have:=qba d
  have:=qcq l
  simp only [propsL,nodesL,List.length_append]; omega
end
theorem qdj {l:List GDeriv} {i:Nat} {x:GDeriv} (h:l[i]? = some x):propsL (l.drop i)=props x++propsL (l.drop (i+1)):=by rw [drop_cons' h]; simp [propsL]
theorem kz {a b:Int} (h:a=b):(a == b)=true:=by simpa using h
theorem knz {a b:Int} (h:¬ a=b):(a == b)=false:=by simpa using h
theorem collect_L {d:GDeriv} (hl:d.Kids.length≤9223372036854775807) {self:List GProp→GDeriv→Option (List GProp)} (hself:∀ x∈d.Kids,∀ l,l.length+2*nodes x≤1000→self l x=some (l++props x)) :
  ∀ (m i:Nat) (l:List GProp),d.Kids.length - i<m→i≤d.Kids.length→l.length+2*nodesL (d.Kids.drop i)≤1000→q4n d self m i l=some (l++propsL (d.Kids.drop i))
 | 0,i,l,hm,_,_=>by omega
 | m+1,i,l,hm,hi,hb=>by
  unfold q4n
  by_cases hlt:i<d.Kids.length
  ·obtain ⟨x,hx,hxm⟩:=q25 hlt
   rw [qak hx] at hb
   simp only [dlt hlt,cond_true,q0u,hx,q08,hself x hxm l (by omega),wr1 hlt hl]
   have:=qba x
   rw [collect_L hl hself m (i+1) (l++props x) (by omega) (by omega) (by simp; omega),qdj hx,List.append_assoc]
  ·simp only [dnlt hlt,cond_false,q8r,drop_nil' hlt,propsL,List.append_nil]
theorem collect_ok:∀ (s:Nat) (d:GDeriv),SizeOf.sizeOf d<s→okG d→∀ n,SizeOf.sizeOf d≤n→∀ l,l.length+2*nodes d≤1000→q30 n l d=some (l++props d)
 | 0,d,hs,_,_,_,_,_=>by omega
 | s+1,d,hs,hok,n,hn,l,hb=>by
  have hk:=qhk d
  have hnd:=qee d
  cases n with
  | zero=>omega
  | succ n =>
   have hL:∀ l:List GProp,l.length+2*nodesL d.Kids≤1000→q4n d (q30 n) n 0 l=some (l++propsL d.Kids):=fun l hb=>by
    have:=collect_L (d:=d) (qhq hok) (self:=q30 n) (fun x hx l hb=>by
     have:=kid_lt d hx
     exact collect_ok s x (by omega) (qhp hok hx) n (by omega) l hb) n 0 l (by omega) (by omega) (by simpa using hb)
    simpa using this
   simp only [q30,qb2,q6v,q6u,q6t]
   rw [props_eq,own]
   by_cases h0:d.Kind=0
   ·rw [kz h0,cond_true,q0r ⟨by omega,by omega⟩,hL _ (by simp; omega),if_pos h0,List.append_assoc]
   ·rw [knz h0,cond_false,if_neg h0]
    by_cases h1:d.Kind=1
    ·rw [kz h1,cond_true,q0r ⟨by omega,by omega⟩,hL _ (by simp; omega),if_pos h1,List.append_assoc]
    ·rw [knz h1,cond_false,if_neg h1]
     by_cases h2:d.Kind=2
     ·rw [kz h2,cond_true,q0r ⟨by omega,by omega⟩,hL _ (by simp; omega),if_pos h2,List.append_assoc]
     ·rw [knz h2,cond_false,if_neg h2,hL _ (by omega)]; rfl
theorem eqP_iff (x y:GProp):eqGProp x y=true↔x=y:=by
 cases x; cases y
 simp only [eqGProp,Bool.and_eq_true,beq_iff_eq,q93,GProp.mk.injEq]
theorem eqP_self (x:GProp):eqGProp x x=true:=(eqP_iff x x).2 rfl
instance:DecidableEq GProp:=fun x y=>decidable_of_iff (eqGProp x y=true) (eqP_iff x y)
theorem qbm (x y:GProp):eqGProp x y=decide (x=y):=by rw [Bool.eq_iff_iff,eqP_iff]; simp
def nxt (c:GProp):List GProp→List GProp
 | []=>[]
 | y::l=>if y=c then nxt y l else y::nxt y l
theorem dedup_nxt:∀ (l:List GProp) (x:GProp),dedup ccP (x::l)=x::nxt x l
 | [],x=>by simp [dedup,nxt]
 | y::l,x=>by
  simp only [dedup,nxt,dedup_nxt l y]
  by_cases h:y=x
  ·subst h
   simp [q44.self y]
  ·have:¬ ccP x y=0:=fun e=>h (qdy.1 e).symm
   simp [h,this]
theorem qf6 {p:List GProp} (hp:p.length≤1000) {k0:Nat} (hk0:k0≤p.length):∀ (m k j:Nat) (L:List GProp) (c:GProp),p.length - (k0+j)<m→1≤j→k0+j≤p.length→k+1≤k0+j→L.length=p.length→L.drop (k0+j - 1)=p.drop (k0+j - 1)→p[k0+j - 1]? = some c →
  q28 p k0 m k j L=some (L.take k++nxt c (p.drop (k0+j)))
 | 0,k,j,L,c,hm,_,_,_,_,_,_=>by omega
 | m+1,k,j,L,c,hm,hj,hjl,hk,hL,hd,hc=>by
  have get:∀ q,k0+j - 1≤q→L[q]? = p[q]?:=fun q hq=>by
   have:=congrArg (fun l:List GProp=>l[q - (k0+j - 1)]?) hd
   simpa [List.getElem?_drop,show k0+j - 1+(q - (k0+j - 1))=q by omega] using this
  unfold q28
  by_cases hlt:k0+j<p.length
  ·obtain ⟨x,hx,_⟩:=q25 hlt
   have e1:decide ((j:Int)<(((p.length - (k0:Int).toNat):Nat):Int))=true:=by simp; omega
   have i1:idxV L (0+(k0:Int).toNat) (p.length - (k0:Int).toNat) (j:Int)=some x:=by
    unfold idxV
    rw [if_pos ⟨by omega,by simp; omega⟩]
    simp only [Int.toNat_natCast,Nat.zero_add]
    rw [get (k0+j) (by omega),hx]
   have i2:idxV L (0+(k0:Int).toNat) (p.length - (k0:Int).toNat) (IntKind.i64.wrap ((j:Int) - 1))=some c:=by
    rw [wr (by omega) (by omega)]
    unfold idxV
    rw [if_pos ⟨by omega,by simp; omega⟩]
    simp only [Int.toNat_natCast,Nat.zero_add]
    rw [show k0+((j:Int) - 1).toNat=k0+j - 1 by omega,get _ (by omega),hc]
   obtain ⟨w,hw,_⟩:=q25 (show k<L.length by omega)
   have wj:IntKind.i64.wrap ((j:Int)+1)=((j+1:Nat):Int):=wrn (by simp) (by omega)
   have wk:IntKind.i64.wrap ((k:Int)+1)=((k+1:Nat):Int):=wrn (by simp) (by omega)
   simp only [e1,cond_true,i1,i2,q08,q0u,hw,q42,wj,wk,qbm,drop_cons' hx,nxt]
   by_cases hxc:x=c
   ·simp only [hxc,decide_true,Bool.not_true,cond_false,if_true]
    have:=qf6 hp hk0 m k (j+1) L x (by omega) (by omega) (by omega) (by omega) hL (by
     have:=congrArg (List.drop 1) hd
     simpa [List.drop_drop,show k0+j - 1+1=k0+j by omega,show k0+(j+1) - 1=k0+j by omega] using this) (by simpa using hx)
    rw [this,hxc]; rfl
   ·simp only [hxc,decide_false,Bool.not_false,cond_true,if_false]
    have:=qf6 hp hk0 m (k+1) (j+1) (L.set (0+(k:Int).toNat) x) x (by omega) (by omega) (by omega) (by omega) (by simpa using hL) (by
     have h1:=congrArg (List.drop 1) hd
     simp only [List.drop_drop,show k0+j - 1+1=k0+j by omega] at h1
     rw [show k0+(j+1) - 1=k0+j by omega,← h1]
     rw [List.drop_set]
     simp; omega) (by simpa using hx)
    rw [this]
    have ht:(L.set (0+(k:Int).toNat) x).take (k+1)=L.take k++[x]:=by
     rw [Nat.zero_add,Int.toNat_natCast,List.take_add_one,List.take_set_of_le (Nat.le_refl _)]
     congr 1
     rw [List.getElem?_set]
     simp; omega
    rw [ht,List.append_assoc]; rfl
  ·have hpos:k0+j=p.length:=by omega
   have e1:decide ((j:Int)<(((p.length - (k0:Int).toNat):Nat):Int))=false:=by simp; omega
   have hlen:(clrV L (0+(k:Int).toNat) (L.length - (k:Int).toNat) (GProp.mk 0 [] 0 0)).length=L.length:=qgb (by simp; omega)
   simp only [e1,cond_false,q4v,hlen]
   rw [q0r ⟨by omega,by omega⟩,q0r (by simp; omega),q0r ⟨by omega,by omega⟩,q0r (by simp; omega),drop_nil' (by omega),nxt,List.append_nil]
   congr 1
   simp only [Int.toNat_natCast,Nat.zero_add,clrV]
   rw [List.take_append_of_le_length (by simp; omega),List.take_take,Nat.min_self]
theorem compact_L1 {p:List GProp} (hp:p.length≤1000) {n:Nat} (hn:p.length<n):∀ (m k:Nat) (c:GProp),p.length - k<m→1≤k→k≤p.length→p[k - 1]? = some c →
  q35 p n m k=some (p.take k++nxt c (p.drop k))
 | 0,k,c,hm,_,_,_=>by omega
 | m+1,k,c,hm,hk1,hk,hc=>by
  unfold q35
  by_cases hlt:k<p.length
  ·obtain ⟨x,hx,_⟩:=q25 hlt
   have i2:idxO p (IntKind.i64.wrap ((k:Int) - 1))=some c:=by
    rw [wrn (k:=k - 1) (by omega) (by omega),q0u,hc]
   simp only [dlt hlt,cond_true,q0u,hx,q08,i2,qbm,wr1 hlt (show p.length≤9223372036854775807 by omega)]
   by_cases hxc:x=c
   ·simp only [hxc,decide_true,cond_true]
    rw [q0r ⟨by omega,by omega⟩]
    have:=qf6 hp (k0:=k) (by omega) n k 1 p x (by omega) (by omega) (by omega) (by omega) rfl rfl (by simpa using hx)
    rw [show ((1:Nat):Int)=1 from rfl] at this
    rw [this,drop_cons' hx,nxt,if_pos hxc]
   ·simp only [hxc,decide_false,cond_false]
    rw [compact_L1 hp hn m (k+1) x (by omega) (by omega) (by omega) (by simpa using hx),drop_cons' hx,nxt,if_neg hxc,qia hx,List.append_assoc]
    rfl
  ·simp only [dnlt hlt,cond_false,q4u,drop_nil' hlt,nxt,List.append_nil]
   rw [List.take_of_length_le (by omega)]
theorem compact_ok {p:List GProp} (hp:p.length≤1000) {n:Nat} (hn:p.length<n):q46 n p=some (dedup ccP p):=by
 unfold q46
 match p,hp,hn with
 | [],_,_=>simp [dedup]
 | [x],_,_=>simp [dedup]
 | x::y::l,hp,hn =>
  have e:decide (((x::y::l).length:Int)<2)=false:=by simp; omega
  rw [e,cond_false]
  have:=compact_L1 hp hn n 1 x (by omega) (by omega) (by simp) (by simp)
  rw [show ((1:Nat):Int)=1 from rfl] at this
  rw [this,dedup_nxt]; simp
def PS (d:GDeriv):List GProp:=dedup ccP (srtP (props d))
theorem q85 (x y:GProp) (h:ccP x y=0):x=y:=qdy.1 h
theorem qgo {l:List GProp} {x:GProp}:x∈srtP l↔x∈l:=(qaa (ltOf ccP) l).mem_iff
theorem qfj {d:GDeriv} {x:GProp}:x∈PS d↔x∈props d:=by unfold PS; rw [q6p q85,qgo]
theorem PS_up (d:GDeriv):Up ccP (PS d):=q9y q44 q85 (srt_le q44 _)
theorem PS_len (d:GDeriv):(PS d).length≤2*nodes d:=by
 have h1:=qh7 (c:=ccP) (srtP (props d))
 have h2:=qba d
 rw [qa9] at h1
 unfold PS; omega
theorem Props_ok {d:GDeriv} (hok:okG d) {n:Nat} (hn:SizeOf.sizeOf d≤n) (hn2:1001≤n) (hb:nodes d≤500):q94 n d=some (PS d):=by
 have hl:=qba d
 have h1:=collect_ok _ d (Nat.lt_succ_self _) hok n hn [] (by simp; omega)
 simp only [q94,h1,q08,List.nil_append]
 rw [q0r (by omega),compact_ok (by rw [qa9]; omega) (by rw [qa9]; omega),q08]
 rfl
theorem half {i j:Nat} (hi:i≤1000) (hj:j≤1000):IntKind.i64.wrap ((IntKind.u64.wrap (IntKind.i64.wrap ((i:Int)+(j:Int)))).fdiv (2 ^ (min (1:Int).toNat IntKind.u64.bits)))=(((i+j) / 2:Nat):Int):=by
 have e1:IntKind.i64.wrap ((i:Int)+(j:Int))=((i+j:Nat):Int):=wrn (by simp) (by omega)
 have e2:IntKind.u64.wrap ((i+j:Nat):Int)=((i+j:Nat):Int):=IntWalk.u64_in _ ⟨by omega,by omega⟩
 have e3:((2:Int) ^ (min (1:Int).toNat IntKind.u64.bits))=2:=by decide
 rw [e1,e2,e3,Int.fdiv_eq_ediv_of_nonneg _ (by omega)]
 exact wrn (by omega) (by omega)
theorem up_get {l:List GProp} (h:Up ccP l) {i j:Nat} {x y:GProp} (hij:i<j) (hx:l[i]? = some x) (hy:l[j]? = some y):ccP x y<0:=by
 obtain ⟨h1,rfl⟩:=List.getElem?_eq_some_iff.1 hx
 obtain ⟨h2,rfl⟩:=List.getElem?_eq_some_iff.1 hy
 exact List.pairwise_iff_getElem.1 h i j h1 h2 hij
theorem bs_L {l:List GProp} (hl:l.length≤1000) (hu:Up ccP l) {p:GProp} {n:Nat} (hn:5≤n):∀ (m i j:Nat),j - i<m→i≤j→j≤l.length→(∀ q x,q<i→l[q]? = some x→ccP x p<0)→(∀ q x,j≤q→l[q]? = some x→0≤ccP x p) →
  ∃ z,q0p l p (q88 n) m i j=some (z,decide (p∈l))
 | 0,i,j,hm,_,_,_,_=>by omega
 | m+1,i,j,hm,hij,hj,lo,hi=>by
  unfold q0p
  by_cases hlt:i<j
  ·have e1:decide ((i:Int)<(j:Int))=true:=by simp; omega
   have hh:(i+j) / 2<j:=by omega
   have hh':i≤(i+j) / 2:=by omega
   obtain ⟨x,hx,_⟩:=q25 (show (i+j) / 2<l.length by omega)
   have w1:IntKind.i64.wrap ((((i+j) / 2:Nat):Int)+1)=(((i+j) / 2+1:Nat):Int):=wrn (by simp) (by omega)
   simp only [e1,cond_true,half (show i≤1000 by omega) (show j≤1000 by omega),q0u,hx,q08,order_n hn,q1g,w1]
   by_cases hc:ccP x p<0
   ·rw [decide_eq_true hc,cond_true]
    refine bs_L hl hu hn m ((i+j) / 2+1) j (by omega) (by omega) hj (fun q y hq hy=>?_) hi
    by_cases he:q=(i+j) / 2
    ·subst he; rw [hx] at hy; cases hy; exact hc
    ·exact q44.lt_of (up_get hu (show q<(i+j) / 2 by omega) hy hx) (by omega)
   ·rw [decide_eq_false hc,cond_false]
    refine bs_L hl hu hn m i ((i+j) / 2) (by omega) (by omega) (by omega) lo (fun q y hq hy=>?_)
    by_cases he:q=(i+j) / 2
    ·subst he; rw [hx] at hy; cases hy; omega
    ·have h1:=up_get hu (show (i+j) / 2<q by omega) hx hy
     rcases Int.lt_or_le (ccP y p) 0 with h2 | h2
     ·have:=q44.lt_of h1 (by omega:ccP y p≤0); omega
     ·exact h2
  ·have hij':i=j:=by omega
   subst hij'
   have e1:decide ((i:Int)<(i:Int))=false:=by simp
   simp only [e1,cond_false,q29]
   have none_lo:∀ q,q<i→l[q]? ≠ some p:=fun q hq h=>by
    have:=lo q p hq h
    rw [q44.self] at this; omega
   by_cases hil:i<l.length
   ·obtain ⟨x,hx,hxm⟩:=q25 hil
    simp only [dlt hil,cond_true,q0u,hx,q08,order_n hn]
    refine ⟨i,?_⟩
    have:(ccP x p == 0)=decide (p∈l):=by
     rw [Bool.eq_iff_iff]
     simp only [beq_iff_eq,decide_eq_true_eq]
     constructor
     ·intro h; have:=qdy.1 h; subst this; exact hxm
     ·intro h
      obtain ⟨q,hq⟩:=List.getElem?_of_mem h
      rcases Nat.lt_trichotomy q i with h1 | h1 | h1
      ·exact absurd hq (none_lo q h1)
      ·subst h1; rw [hx] at hq; cases hq; exact q44.self _
      ·have h2:=up_get hu h1 hx hq
       have h3:=hi i x (Nat.le_refl _) hx
       omega
    rw [this]
   ·simp only [dnlt hil,cond_false,q08]
    refine ⟨i,?_⟩
    have:p ∉ l:=fun h=>by
     obtain ⟨q,hq⟩:=List.getElem?_of_mem h
     have:=(List.getElem?_eq_some_iff.1 hq).1
     exact none_lo q (by omega) hq
    simp [this]
theorem has_ok {l:List GProp} (hl:l.length≤1000) (hu:Up ccP l) (p:GProp) {n:Nat} (hn:1001≤n):qbl n l p=some (decide (p∈l)):=by
 obtain ⟨z,hz⟩:=bs_L hl hu (p:=p) (n:=n) (by omega) n 0 l.length (by omega) (by omega) (by omega) (fun q x hq=>by omega) (fun q x hq hx=>by
  have:=(List.getElem?_eq_some_iff.1 hx).1; omega)
 rw [Int.ofNat_zero] at hz
 simp only [qbl,q1r,hz,q08]
structure Lt (l:List GDeriv) (n:Nat):Prop where
 len:l.length≤6
 sum:nodesL l≤60
 ok:∀ d∈l,okG d
 fuel:∀ d∈l,SizeOf.sizeOf d+1001≤n
 n1:1001≤n
theorem Lt.nd {l:List GDeriv} {n:Nat} (h:Lt l n) {d:GDeriv} (hd:d∈l):nodes d≤60:=by have:=qfd hd; have:=h.sum; omega
theorem Lt.pr {l:List GDeriv} {n:Nat} (h:Lt l n) {d:GDeriv} (hd:d∈l):q94 n d=some (PS d):=Props_ok (h.ok d hd) (by have:=h.fuel d hd; omega) h.n1 (by have:=h.nd hd; omega)
theorem set_take {α:Type} {L:List α} {i:Nat} {x:α} (h:i<L.length):(L.set i x).take (i+1)=L.take i++[x]:=by
 rw [List.take_add_one,List.take_set_of_le (Nat.le_refl _),List.getElem?_set]
 simp [h]
theorem all_L {l:List GDeriv} {n:Nat} (hL:Lt l n):∀ (m i:Nat) (a:List (List GProp)),l.length - i<m→i≤l.length→a.length=l.length→a.take i=(l.take i).map PS→q95 l n m i a=some (l.map PS)
 | 0,i,a,hm,_,_,_=>by omega
 | m+1,i,a,hm,hi,ha,ht=>by
  have h6:=hL.len
  unfold q95
  by_cases hlt:i<l.length
  ·obtain ⟨x,hx,hxm⟩:=q25 hlt
   obtain ⟨y,hy,_⟩:=q25 (show i<a.length by omega)
   have iv:idxV a 0 (l.length:Int).toNat (i:Int)=some y:=by
    unfold idxV
    rw [if_pos ⟨by omega,by simp; omega⟩]
    simpa using hy
   simp only [dlt hlt,cond_true,q0u,hx,q08,hL.pr hxm,iv,wr1 hlt (show l.length≤9223372036854775807 by omega)]
   refine all_L hL m (i+1) _ (by omega) (by omega) (by simpa using ha) ?_
   rw [Int.toNat_natCast,set_take (by omega),ht,qia hx]; simp
  ·simp only [dnlt hlt,cond_false,qbk]
   rw [q0r (by simp; omega)]
   rw [List.take_of_length_le (by omega),List.take_of_length_le (by omega)] at ht
   rw [ht]
theorem all_ok {l:List GDeriv} {n:Nat} (hL:Lt l n):qat n l=some (l.map PS):=by
 have h6:=hL.len
 have h1:=hL.n1
 unfold qat
 rw [q0r ⟨by omega,by simp; omega,by omega⟩]
 have:=all_L hL n 0 (List.replicate (l.length:Int).toNat []) (by omega) (by omega) (by simp) (by simp)
 rwa [Int.ofNat_zero] at this
theorem flat_small {l:List GDeriv}:((l.map PS).flatten).length≤2*nodesL l:=by
 induction l with
 | nil=>simp [nodesL]
 | cons d l ih=>have:=PS_len d; simp only [List.map_cons,List.flatten_cons,List.length_append,nodesL]; omega
theorem concat_L2 {Ls:List (List GProp)} (hl:Ls.length≤1000) (hs:Ls.flatten.length≤1000):∀ (m i:Nat) (a:List GProp),Ls.length - i<m→i≤Ls.length→a++(Ls.drop i).flatten=Ls.flatten→q3e Ls m i a=some Ls.flatten
 | 0,i,a,hm,_,_=>by omega
 | m+1,i,a,hm,hi,ha=>by
  unfold q3e
  by_cases hlt:i<Ls.length
  ·obtain ⟨x,hx,_⟩:=q25 hlt
   have hlen:=congrArg List.length ha
   rw [drop_cons' hx] at ha hlen
   simp only [List.flatten_cons,List.length_append] at hlen
   simp only [dlt hlt,cond_true,q0u,hx,q08,wr1 hlt (show Ls.length≤9223372036854775807 by omega)]
   rw [q0r ⟨by omega,by omega⟩]
   exact concat_L2 hl hs m (i+1) (a++x) (by omega) (by omega) (by simpa using ha)
  ·simp only [dnlt hlt,cond_false,q5b]
   rw [drop_nil' hlt] at ha
   simpa using ha
theorem grow_ok {z:Nat} (hz:z≤1000) (n:Nat):q64 n z=some []:=by
 unfold q64
 have e1:decide ((z:Int)<0)=false:=by simp
 have w:IntKind.i64.wrap ((z:Int) - 0)=(z:Int):=wrn (by simp) (by omega)
 rw [e1,cond_false,w]
 by_cases h:z=0
 ·subst h; simp
 ·have e2:decide ((z:Int) > 0)=true:=by simp; omega
  rw [e2,cond_true,q0r ⟨by omega,by simp; omega,by simp; omega⟩,q0r (by simp),q0r ⟨by omega,by omega⟩,q0r (by omega)]
  simp
theorem concat_L1 {Ls:List (List GProp)} (hl:Ls.length≤1000) (hs:Ls.flatten.length≤1000) {n:Nat} (hn:1001≤n):∀ (m i z:Nat),Ls.length - i<m→i≤Ls.length→z+(Ls.drop i).flatten.length=Ls.flatten.length→q3d Ls n m z i=some Ls.flatten
 | 0,i,z,hm,_,_=>by omega
 | m+1,i,z,hm,hi,hz=>by
  unfold q3d
  by_cases hlt:i<Ls.length
  ·obtain ⟨x,hx,_⟩:=q25 hlt
   rw [drop_cons' hx] at hz
   simp only [List.flatten_cons,List.length_append] at hz
   have w:IntKind.i64.wrap ((z:Int)+(x.length:Int))=((z+x.length:Nat):Int):=wrn (by simp) (by omega)
   have e:decide (((z+x.length:Nat):Int)<0)=false:=by simp; omega
   simp only [dlt hlt,cond_true,q0u,hx,q08,w,e,cond_false,wr1 hlt (show Ls.length≤9223372036854775807 by omega)]
   exact concat_L1 hl hs hn m (i+1) _ (by omega) (by omega) (by omega)
  ·simp only [dnlt hlt,cond_false,q5a]
   rw [drop_nil' hlt] at hz
   simp only [List.flatten_nil,List.length_nil,Nat.add_zero] at hz
   rw [grow_ok (by omega),q08]
   have:=concat_L2 hl hs n 0 [] (by omega) (by omega) (by simp)
   rwa [Int.ofNat_zero] at this
theorem concat_ok {Ls:List (List GProp)} (hl:Ls.length≤1000) (hs:Ls.flatten.length≤1000) {n:Nat} (hn:1001≤n):q59 n Ls=some Ls.flatten:=by
 have:=concat_L1 hl hs hn n 0 0 (by omega) (by omega) (by simp)
 simpa [q59] using this
def grp (k:Nat):List GProp→Nat→List GProp
 | [],_=>[]
 | _::_,0=>[]
 | x::l,f+1=>(if ((x::l).takeWhile fun y=>decide (y=x)).length<k then [x] else [])++grp k ((x::l).dropWhile fun y=>decide (y=x)) f
theorem qfn {α:Type} (p:α→Bool):∀ l:List α,l.dropWhile p=l.drop (l.takeWhile p).length
 | []=>by simp
 | x::l=>by
  rw [List.dropWhile_cons,List.takeWhile_cons]
  cases h:p x<;>simp [qfn p l]
theorem qes {α:Type} (p:α→Bool):∀ (l:List α) (i:Nat),i<(l.takeWhile p).length→∃ x,l[i]? = some x∧p x=true
 | [],i,h=>by simp at h
 | x::l,i,h=>by
  rw [List.takeWhile_cons] at h
  cases hp:p x with
  | false=>rw [hp] at h; simp at h
  | true =>
   rw [hp] at h
   cases i with
   | zero=>exact ⟨x,rfl,hp⟩
   | succ i=>simpa using qes p l i (by simpa using h)
theorem qd6 {α:Type} (p:α→Bool):∀ (l:List α) (x:α),l[(l.takeWhile p).length]? = some x→p x=false
 | [],x,h=>by simp at h
 | y::l,x,h=>by
  rw [List.takeWhile_cons] at h
  cases hp:p y with
  | false=>rw [hp] at h; simp at h; subst h; exact hp
  | true=>rw [hp] at h; simp at h; exact qd6 p l x h
theorem mem_tw {α:Type} (p:α→Bool) {y:α}:∀ {l:List α},y∈l.takeWhile p→p y=true
 | [],h=>by simp at h
 | x::l,h=>by
  rw [List.takeWhile_cons] at h
  cases hp:p x with
  | false=>rw [hp] at h; simp at h
  | true =>
   rw [hp] at h
   simp only [if_true] at h
   rcases List.mem_cons.1 h with rfl | h
   ·exact hp
   ·exact mem_tw p h
theorem qci {α:Type} (p:α→Bool):∀ l:List α,(l.takeWhile p).length≤l.length
 | []=>by simp
 | x::l=>by
  rw [List.takeWhile_cons]
  split
  ·have:=qci p l; simp; omega
  ·simp
theorem differ_L2 {Ls:List (List GProp)} {r:List GProp} (hr:r.length≤1000) {i:Nat} {a:List GProp} {rc:Int→List GProp→Option (List GProp)} {x:GProp} (hx:(srtP r)[i]? = some x):∀ (m k:Nat),(srtP r).length - (i+k)<m→1≤k→k≤(((srtP r).drop i).takeWhile fun y=>decide (y=x)).length →
  q6c Ls r i a rc m ((i+k:Nat):Int)=q7r Ls r i a rc ((i+(((srtP r).drop i).takeWhile fun y=>decide (y=x)).length:Nat):Int)
 | 0,k,hm,_,_=>by omega
 | m+1,k,hm,hk,hg=>by
  have hle:=qci (fun y=>decide (y=x)) ((srtP r).drop i)
  rw [List.length_drop] at hle
  have hl:=qa9 r
  unfold q6c
  by_cases hlt:i+k<(srtP r).length
  ·obtain ⟨y,hy,_⟩:=q25 hlt
   have hy':((srtP r).drop i)[k]? = some y:=by rw [List.getElem?_drop]; exact hy
   have e1:=dlt hlt
   simp only [e1,cond_true,q0u,hx,hy,q08,qbm,wr1 hlt (show (srtP r).length≤9223372036854775807 by omega)]
   by_cases hlast:k=(((srtP r).drop i).takeWhile fun y=>decide (y=x)).length
   ·have hne:=qd6 (fun y=>decide (y=x)) ((srtP r).drop i) y (by rw [← hlast]; exact hy')
    simp only [hne,cond_false]
    rw [← hlast]
   ·obtain ⟨y',h1,h2⟩:=qes (fun y=>decide (y=x)) ((srtP r).drop i) k (by omega)
    rw [hy'] at h1; cases h1
    simp only [h2,cond_true]
    exact differ_L2 hr hx m (k+1) (by omega) (by omega) (by omega)
  ·simp only [dnlt hlt,cond_false,q08]
   have:i+k=i+(((srtP r).drop i).takeWhile fun y=>decide (y=x)).length:=by omega
   rw [this]
theorem qh8 {Ls:List (List GProp)} (hLs:Ls.length≤1000) {r:List GProp} (hr:r.length≤1000) {n:Nat} (hn:1001≤n):∀ (m i:Nat) (a:List GProp) (f:Nat),(srtP r).length - i<m→i≤(srtP r).length→(srtP r).length - i≤f→a.length+((srtP r).length - i)≤1000→q47 Ls n r m i a=some (a++grp Ls.length ((srtP r).drop i) f)
 | 0,i,a,f,hm,_,_,_=>by omega
 | m+1,i,a,f,hm,hi,hf,ha=>by
  have hl:=qa9 r
  unfold q47
  by_cases hlt:i<(srtP r).length
  ·obtain ⟨x,hx,_⟩:=q25 hlt
   obtain ⟨f,rfl⟩:∃ q,f=q+1:=⟨f - 1,by omega⟩
   have hdc:=drop_cons' hx
   have hg1:1≤(((srtP r).drop i).takeWhile fun y=>decide (y=x)).length:=by rw [hdc,List.takeWhile_cons]; simp
   have hle:=qci (fun y=>decide (y=x)) ((srtP r).drop i)
   rw [List.length_drop] at hle
   rw [dlt hlt,cond_true,wr1 hlt (by omega),differ_L2 hr hx n 1 (by omega) (Nat.le_refl _) hg1]
   generalize hG:(((srtP r).drop i).takeWhile fun y=>decide (y=x)).length=G at *
   have w:IntKind.i64.wrap (((i+G:Nat):Int) - (i:Int))=(G:Int):=wrn (by omega) (by omega)
   simp only [q7r,w,q0u,hx,q08,q7q]
   have hgr:grp Ls.length ((srtP r).drop i) (f+1)=(if G<Ls.length then [x] else [])++grp Ls.length ((srtP r).drop (i+G)) f:=by
    have:grp Ls.length ((srtP r).drop i) (f+1)=(if (((srtP r).drop i).takeWhile fun y=>decide (y=x)).length<Ls.length then [x] else [])++grp Ls.length (((srtP r).drop i).dropWhile fun y=>decide (y=x)) f:=by
     conv=>lhs; rw [hdc]
     rw [grp,← hdc]
    rw [this,qfn,hG,List.drop_drop]
   by_cases hc:G<Ls.length
   ·have e:decide ((G:Int)<(Ls.length:Int))=true:=dlt hc
    rw [e,cond_true,q0r ⟨by omega,by omega⟩,qh8 hLs hr hn m (i+G) _ f (by omega) (by omega) (by omega) (by simp; omega),hgr,if_pos hc,List.append_assoc]
   ·have e:decide ((G:Int)<(Ls.length:Int))=false:=dnlt hc
    rw [e,cond_false,qh8 hLs hr hn m (i+G) _ f (by omega) (by omega) (by omega) (by omega),hgr,if_neg hc]
    rfl
  ·simp only [dnlt hlt,cond_false,q9g,drop_nil' hlt,grp,List.append_nil]
theorem grp_eq (k:Nat):∀ (f:Nat) (l:List GProp),l.length≤f→l.Pairwise (fun x y=>ccP x y≤0)→grp k l f=(dedup ccP l).filter (fun p=>decide (l.count p<k))
 | f,[],_,_=>by simp [grp,dedup]
 | 0,x::l,h,_=>by simp at h
 | f+1,x::l,h,hs=>by
  have htw:∀ y∈(x::l).dropWhile (fun y=>decide (y=x)),ccP x y<0:=by
   intro y hy
   have hdx:((x::l).dropWhile fun y=>decide (y=x))=l.dropWhile fun y=>decide (y=x):=by simp [List.dropWhile_cons]
   rw [hdx] at hy
   have hp:=List.pairwise_cons.1 hs
   cases hd:l.dropWhile (fun y=>decide (y=x)) with
   | nil=>rw [hd] at hy; cases hy
   | cons z q =>
    have hz:¬ z=x:=by
     have:=List.head?_dropWhile_not (fun y=>decide (y=x)) l
     rw [hd] at this
     simpa using this
    have hsub:(z::q).Sublist l:=by rw [← hd]; exact List.dropWhile_sublist _
    have hxz:ccP x z<0:=by
     have h1:=hp.1 z (hsub.subset (by simp))
     rcases Int.lt_or_eq_of_le h1 with h2 | h2
     ·exact h2
     ·exact absurd (qdy.1 h2).symm hz
    rw [hd] at hy
    rcases List.mem_cons.1 hy with rfl | hy
    ·exact hxz
    ·exact q44.lt_of hxz ((List.pairwise_cons.1 (hp.2.sublist hsub)).1 y hy)
  have hrest:((x::l).dropWhile fun y=>decide (y=x)).Pairwise (fun x y=>ccP x y≤0):=hs.sublist (List.dropWhile_sublist _)
  have hlen:((x::l).dropWhile fun y=>decide (y=x)).length≤f:=by
   have:((x::l).dropWhile fun y=>decide (y=x))=l.dropWhile fun y=>decide (y=x):=by simp [List.dropWhile_cons]
   rw [this]
   have:=(List.dropWhile_sublist (fun y=>decide (y=x)) (l:=l)).length_le
   simp at h; omega
  have hsplit:x::l=((x::l).takeWhile fun y=>decide (y=x))++((x::l).dropWhile fun y=>decide (y=x)):=(List.takeWhile_append_dropWhile).symm
  have hall:∀ y∈(x::l).takeWhile (fun y=>decide (y=x)),y=x:=fun y hy=>by simpa using mem_tw (fun y=>decide (y=x)) hy
  have hnx:x ∉ (x::l).dropWhile (fun y=>decide (y=x)):=fun hm=>by have:=htw x hm; rw [q44.self] at this; omega
  have hcx:(x::l).count x=((x::l).takeWhile fun y=>decide (y=x)).length:=by
   conv=>lhs; rw [hsplit]
   rw [List.count_append,List.count_eq_zero.2 hnx,Nat.add_zero,List.count_eq_length.2 (fun y hy=>(hall y hy).symm)]
  have hcy:∀ y,y∈(x::l).dropWhile (fun y=>decide (y=x))→(x::l).count y=((x::l).dropWhile fun y=>decide (y=x)).count y:=fun y hy=>by
   conv=>lhs; rw [hsplit]
   rw [List.count_append,List.count_eq_zero.2,Nat.zero_add]
   intro hm
   have:=hall y hm
   subst this
   exact hnx hy
  have hdd:dedup ccP (x::l)=x::dedup ccP ((x::l).dropWhile fun y=>decide (y=x)):=by
   refine Up.ext q44 q85 (q9y q44 q85 hs) ?_ fun y=>?_
   ·refine List.pairwise_cons.2 ⟨fun y hy=>htw y ((q6p q85 _ y).1 hy),q9y q44 q85 hrest⟩
   ·rw [q6p q85,List.mem_cons (l:=dedup ccP _),q6p q85]
    constructor
    ·intro hy
     rw [hsplit] at hy
     rcases List.mem_append.1 hy with hy | hy
     ·exact .inl (hall y hy)
     ·exact .inr hy
    ·rintro (rfl | hy)
     ·simp
     ·rw [hsplit]; exact List.mem_append.2 (.inr hy)
  rw [grp,grp_eq k f _ hlen hrest,hdd,List.filter_cons,← hcx]
  have hfil:(dedup ccP ((x::l).dropWhile fun y=>decide (y=x))).filter (fun p=>decide (((x::l).dropWhile fun y=>decide (y=x)).count p<k))=(dedup ccP ((x::l).dropWhile fun y=>decide (y=x))).filter (fun p=>decide ((x::l).count p<k)):=by
   refine List.filter_congr fun y hy=>?_
   rw [hcy y ((q6p q85 _ y).1 hy)]
  rw [hfil]
  by_cases hc:(x::l).count x<k
  ·rw [if_pos hc,decide_eq_true hc,if_pos rfl]; rfl
  ·rw [if_neg hc,decide_eq_false hc]; rfl
def cntH (l:List GDeriv) (p:GProp):Nat:=(l.filter fun d=>decide (p∈props d)).length
def dsc (l:List GDeriv):List GProp:=(dedup ccP (srtP (propsL l))).filter (fun p=>decide (cntH l p<l.length))
theorem up_nodup {l:List GProp} (h:Up ccP l):l.Nodup:=List.Pairwise.imp (fun {x y} hxy=>by
 rintro rfl; rw [q44.self] at hxy; omega) h
theorem count_PS (d:GDeriv) (p:GProp):(PS d).count p=if p∈props d then 1 else 0:=by
 by_cases h:p∈props d
 ·rw [if_pos h,List.Nodup.count (up_nodup (PS_up d)),if_pos (qfj.2 h)]
 ·rw [if_neg h]; exact List.count_eq_zero.2 (fun hm=>h (qfj.1 hm))
theorem count_flat:∀ (l:List GDeriv) (p:GProp),((l.map PS).flatten).count p=cntH l p
 | [],p=>by simp [cntH]
 | d::l,p=>by
  rw [List.map_cons,List.flatten_cons,List.count_append,count_PS,count_flat l p]
  simp only [cntH,List.filter_cons]
  by_cases h:p∈props d
  ·simp [h]; omega
  ·simp [h]
theorem mem_propsL {p:GProp}:∀ {l:List GDeriv},p∈propsL l↔∃ d∈l,p∈props d
 | []=>by simp [propsL]
 | d::l=>by simp [propsL,mem_propsL (l:=l)]
theorem mem_flat {l:List GDeriv} {p:GProp}:p∈(l.map PS).flatten↔p∈propsL l:=by
 rw [mem_propsL]
 simp only [List.mem_flatten,List.mem_map]
 constructor
 ·rintro ⟨_,⟨d,hd,rfl⟩,hp⟩; exact ⟨d,hd,qfj.1 hp⟩
 ·rintro ⟨d,hd,hp⟩; exact ⟨_,⟨d,hd,rfl⟩,qfj.2 hp⟩
theorem ded_flat (l:List GDeriv):dedup ccP (srtP (l.map PS).flatten)=dedup ccP (srtP (propsL l)) :=
 Up.ext q44 q85 (q9y q44 q85 (srt_le q44 _)) (q9y q44 q85 (srt_le q44 _)) fun x=>by
  rw [q6p q85,q6p q85,qgo,qgo,mem_flat]
theorem differ_ok {l:List GDeriv} {n:Nat} (hL:Lt l n):q82 n (l.map PS)=some (dsc l):=by
 have h6:=hL.len
 have hs:=hL.sum
 have h1:=hL.n1
 have hfl:=flat_small (l:=l)
 have hsl:=qa9 (l.map PS).flatten
 unfold q82
 rw [concat_ok (by simp; omega) (by omega) h1,q08,q0r (by omega)]
 have:=qh8 (Ls:=l.map PS) (by simp; omega) (r:=(l.map PS).flatten) (by omega) h1 n 0 [] (srtP (l.map PS).flatten).length (by omega) (by omega) (by omega) (by simp; omega)
 rw [Int.ofNat_zero] at this
 rw [this,List.nil_append,List.drop_zero,grp_eq _ _ (srtP (l.map PS).flatten) (Nat.le_refl _) (srt_le q44 _),ded_flat,dsc]
 congr 1
 refine List.filter_congr fun p _=>?_
 rw [show (srtP (l.map PS).flatten).count p=((l.map PS).flatten).count p from (qaa (ltOf ccP) (l.map PS).flatten).count_eq p,count_flat,List.length_map]
theorem Discr_ok {l:List GDeriv} {n:Nat} (hL:Lt l n):q3j n l=some (dsc l):=by
 simp only [q3j,all_ok hL,q08,differ_ok hL]
theorem qdc (l:List GDeriv):(dsc l).length≤2*nodesL l:=by
 have h1:=List.length_filter_le (fun p=>decide (cntH l p<l.length)) (dedup ccP (srtP (propsL l)))
 have h2:=qh7 (c:=ccP) (srtP (propsL l))
 have h3:=qa9 (propsL l)
 have h4:=qcq l
 unfold dsc; omega
def fits1 (d:GDeriv) (x:GDecision):Bool:=decide (x.Propx∈props d) == x.Yes
def agree (d:GDeriv) (ds:List GDecision):Bool:=ds.all (fits1 d)
def remF:List GDeriv→List GDecision→Nat→List Int
 | [],_,_=>[]
 | d::l,ds,i=>(if agree d ds then [(i:Int)] else [])++remF l ds (i+1)
def rem (l:List GDeriv) (ds:List GDecision):List Int:=remF l ds 0
theorem remF_len:∀ (l:List GDeriv) (ds:List GDecision) (i:Nat),(remF l ds i).length≤l.length
 | [],ds,i=>by simp [remF]
 | d::l,ds,i=>by
  have:=remF_len l ds (i+1)
  simp only [remF,List.length_append,List.length_cons]
  split<;>simp<;>omega
theorem remF_mem:∀ (l:List GDeriv) (ds:List GDecision) (i:Nat) (z:Int),z∈remF l ds i↔∃ k d,l[k]? = some d∧z=((i+k:Nat):Int)∧agree d ds=true
 | [],ds,i,z=>by simp [remF]
 | d::l,ds,i,z=>by
  simp only [remF,List.mem_append,remF_mem l ds (i+1) z]
  constructor
  ·rintro (h | ⟨k,e,h1,h2,h3⟩)
   ·split at h
    ·rename_i ha; simp at h; exact ⟨0,d,rfl,by simpa using h,ha⟩
    ·cases h
   ·exact ⟨k+1,e,by simpa using h1,by rw [h2]; congr 1; omega,h3⟩
  ·rintro ⟨k,e,h1,h2,h3⟩
   cases k with
   | zero=>simp at h1; subst h1; left; simp [h3,h2]
   | succ k=>right; exact ⟨k,e,by simpa using h1,by rw [h2]; congr 1; omega,h3⟩
theorem rem_mem {l:List GDeriv} {ds:List GDecision} {z:Int}:z∈rem l ds↔∃ (k:Nat) (d:GDeriv),l[k]? = some d∧z=(k:Int)∧agree d ds=true:=by
 rw [rem,remF_mem]; simp
theorem wrong_ok {d:GDeriv} (hd:nodes d≤60) {n:Nat} (hn:1001≤n) (x:GDecision):q3r n x (PS d)=some (!fits1 d x):=by
 have:=PS_len d
 simp only [q3r,has_ok (show (PS d).length≤1000 by omega) (PS_up d) x.Propx hn,q08,qfj,fits1]
theorem idx_L {d:GDeriv} (hd:nodes d≤60) {n:Nat} (hn:1001≤n) {ds:List GDecision} (hl:ds.length≤1000):∀ (m i:Nat),ds.length - i<m→i≤ds.length→∃ z,q0t ds (PS d) (q3r n) m i=some z∧decide (z ≥ 0) = !agree d (ds.drop i)
 | 0,i,hm,_=>by omega
 | m+1,i,hm,hi=>by
  unfold q0t
  by_cases hlt:i<ds.length
  ·obtain ⟨x,hx,_⟩:=q25 hlt
   simp only [dlt hlt,cond_true,q0u,hx,q08,wrong_ok hd hn,wr1 hlt (show ds.length≤9223372036854775807 by omega),drop_cons' hx,agree,List.all_cons]
   cases hf:fits1 d x with
   | false=>exact ⟨i,rfl,by simp⟩
   | true =>
    obtain ⟨z,h1,h2⟩:=idx_L hd hn hl m (i+1) (by omega) (by omega)
    refine ⟨z,by simpa using h1,?_⟩
    rw [h2]; simp [agree]
  ·simp only [dnlt hlt,cond_false,q1s,drop_nil' hlt]
   exact ⟨-1,rfl,by simp [agree]⟩
theorem cont_ok {d:GDeriv} (hd:nodes d≤60) {n:Nat} (hn:1001≤n) {ds:List GDecision} (hl:ds.length≤1000):q1a (q3r n) n ds (PS d)=some (!agree d ds):=by
 obtain ⟨z,h1,h2⟩:=idx_L hd hn hl n 0 (by omega) (by omega)
 rw [Int.ofNat_zero] at h1
 simp only [q1a,q1h,h1,q08,h2,List.drop_zero]
theorem map_get {l:List GDeriv} {i:Nat} {d:GDeriv} (h:l[i]? = some d):(l.map PS)[i]? = some (PS d):=by simp [h]
theorem rem_L {l:List GDeriv} {n:Nat} (hL:Lt l n) {ds:List GDecision} (hl:ds.length≤1000):∀ (m i:Nat) (a:List Int),l.length - i<m→i≤l.length→a.length≤i→q3b (l.map PS) ds n m i a=some (a++remF (l.drop i) ds i)
 | 0,i,a,hm,_,_=>by omega
 | m+1,i,a,hm,hi,ha=>by
  have h6:=hL.len
  have hml:(l.map PS).length=l.length:=by simp
  unfold q3b
  by_cases hlt:i<l.length
  ·obtain ⟨d,hd,hdm⟩:=q25 hlt
   have hw:IntKind.i64.wrap ((i:Int)+1)=((i+1:Nat):Int):=wrn (by simp) (by omega)
   simp only [dlt (show i<(l.map PS).length by omega),cond_true,q0u,map_get hd,q08,cont_ok (hL.nd hdm) hL.n1 hl,q5j,hw,drop_cons' hd,remF,Bool.not_not]
   cases hg:agree d ds with
   | true =>
    rw [cond_true,q0r ⟨by omega,by omega⟩,rem_L hL hl m (i+1) _ (by omega) (by omega) (by simp; omega)]
    simp
   | false =>
    rw [cond_false,rem_L hL hl m (i+1) _ (by omega) (by omega) (by omega)]
    simp
  ·simp only [dnlt (show ¬ i<(l.map PS).length by omega),cond_false,q76,drop_nil' hlt,remF,List.append_nil]
theorem qfw {l:List GDeriv} {n:Nat} (hL:Lt l n) {ds:List GDecision} (hl:ds.length≤1000):q5d n (l.map PS) ds=some (rem l ds):=by
 have h6:=hL.len
 have h1:=hL.n1
 have:=rem_L hL hl n 0 [] (by omega) (by omega) (by simp)
 simpa [q5d,rem] using this
theorem Remaining_ok {l:List GDeriv} {n:Nat} (hL:Lt l n) {ds:List GDecision} (hl:ds.length≤1000):q6b n l ds=some (rem l ds):=by
 simp only [q6b,all_ok hL,q08,qfw hL hl]
def hasAt (l:List GDeriv) (p:GProp) (z:Int):Bool:=match l[z.toNat]? with
 | some d=>decide (p∈props d)
 | none=>false
def cntR (l:List GDeriv) (r:List Int) (p:GProp):Nat:=(r.filter (hasAt l p)).length
def isDec (ds:List GDecision) (p:GProp):Bool:=ds.any fun x=>decide (x.Propx=p)
def impl1 (l:List GDeriv) (ds:List GDecision) (r:List Int) (p:GProp):List GDecision :=
 if isDec ds p then [] else if cntR l r p=0∨cntR l r p=r.length then [⟨p,decide (0<cntR l r p)⟩] else []
def impl (l:List GDeriv) (ds:List GDecision):List GDecision:=if rem l ds=[] then [] else (dsc l).flatMap (impl1 l ds (rem l ds))
theorem dec_L {ds:List GDecision} (hl:ds.length≤1000) {p:GProp} {n:Nat}:∀ (m i:Nat),ds.length - i<m→i≤ds.length→∃ z,q0w ds p (q5c n) m i=some z∧decide (z ≥ 0)=isDec (ds.drop i) p
 | 0,i,hm,_=>by omega
 | m+1,i,hm,hi=>by
  unfold q0w
  by_cases hlt:i<ds.length
  ·obtain ⟨x,hx,_⟩:=q25 hlt
   simp only [dlt hlt,cond_true,q0u,hx,q08,q5c,qbm,wr1 hlt (show ds.length≤9223372036854775807 by omega),drop_cons' hx,isDec,List.any_cons]
   by_cases h:x.Propx=p
   ·simp only [h,decide_true,cond_true]; exact ⟨i,rfl,by simp⟩
   ·simp only [h,decide_false,cond_false,Bool.false_or]
    exact dec_L hl m (i+1) (by omega) (by omega)
  ·simp only [dnlt hlt,cond_false,q1v,drop_nil' hlt]
   exact ⟨-1,rfl,by simp [isDec]⟩
theorem decd_ok {ds:List GDecision} (hl:ds.length≤1000) (p:GProp) {n:Nat} (hn:1001≤n):q1d (q5c n) n ds p=some (isDec ds p):=by
 obtain ⟨z,h1,h2⟩:=dec_L (n:=n) hl (p:=p) n 0 (by omega) (by omega)
 rw [Int.ofNat_zero] at h1
 simp only [q1d,q1m,h1,q08,h2,List.drop_zero]
def Idx (l:List GDeriv) (r:List Int):Prop:=∀ z∈r,∃ (k:Nat) (d:GDeriv),l[k]? = some d∧z=(k:Int)
theorem rem_idx (l:List GDeriv) (ds:List GDecision):Idx l (rem l ds):=fun z hz=>by
 obtain ⟨k,d,h1,h2,_⟩:=rem_mem.1 hz
 exact ⟨k,d,h1,h2⟩
theorem rem_len (l:List GDeriv) (ds:List GDecision):(rem l ds).length≤l.length:=remF_len l ds 0
theorem cntR_drop {l:List GDeriv} {r:List Int} {p:GProp} {k:Nat} {z:Int} (h:r[k]? = some z):cntR l (r.drop k) p=(if hasAt l p z then 1 else 0)+cntR l (r.drop (k+1)) p:=by
 rw [drop_cons' h]
 simp only [cntR,List.filter_cons]
 split<;>simp<;>omega
theorem impl_L2 {l:List GDeriv} {n:Nat} (hL:Lt l n) {r:List Int} (hr:Idx l r) (hrl:r.length≤6) {i:Int} {a:List GDecision} {rc:Int→List GDecision→Option (List GDecision)} {p:GProp}:∀ (m k z:Nat),r.length - k<m→k≤r.length→z≤k →
  q4a n (l.map PS) r i a rc p m z k=q6s r i a rc p ((z+cntR l (r.drop k) p:Nat):Int)
 | 0,k,z,hm,_,_=>by omega
 | m+1,k,z,hm,hk,hz=>by
  unfold q4a
  by_cases hlt:k<r.length
  ·obtain ⟨x,hx,hxm⟩:=q25 hlt
   obtain ⟨q,d,h1,h2⟩:=hr x hxm
   subst h2
   have hdm:=List.mem_of_getElem? h1
   have hpl:=PS_len d
   have hnd:=hL.nd hdm
   have w:IntKind.i64.wrap ((z:Int)+1)=((z+1:Nat):Int):=wrn (by simp) (by omega)
   have hat:hasAt l p (q:Int)=decide (p∈props d):=by simp [hasAt,h1]
   simp only [dlt hlt,cond_true,q0u,hx,map_get h1,q08,has_ok (show (PS d).length≤1000 by omega) (PS_up d) p hL.n1,qfj,q6r,w,wr1 hlt (show r.length≤9223372036854775807 by omega),cntR_drop hx,hat]
   by_cases h:p∈props d
   ·rw [decide_eq_true h,cond_true,impl_L2 hL hr hrl m (k+1) (z+1) (by omega) (by omega) (by omega)]
    congr 2; simp; omega
   ·rw [decide_eq_false h,cond_false,impl_L2 hL hr hrl m (k+1) z (by omega) (by omega) (by omega)]
    congr 2; simp
  ·simp only [dnlt hlt,cond_false,drop_nil' hlt]; simp [cntR]
theorem impl1_len (l:List GDeriv) (ds:List GDecision) (r:List Int) (p:GProp):(impl1 l ds r p).length≤1:=by
 unfold impl1; split; · simp
 split<;>simp
theorem natz {k:Nat}:((k:Int) == 0)=decide (k=0):=by rw [Bool.eq_iff_iff]; simp
theorem nateq {k q:Nat}:((k:Int) == (q:Int))=decide (k=q):=by rw [Bool.eq_iff_iff,beq_iff_eq,decide_eq_true_eq]; omega
theorem natpos {k:Nat}:decide ((k:Int) > 0)=decide (0<k):=by rw [Bool.eq_iff_iff,decide_eq_true_eq,decide_eq_true_eq]; omega
theorem impl_L1 {l:List GDeriv} {n:Nat} (hL:Lt l n) {ds:List GDecision} (hl:ds.length≤1000) {r:List Int} (hr:Idx l r) (hrl:r.length≤6) {ps:List GProp} (hps:ps.length≤500):∀ (m i:Nat) (a:List GDecision),ps.length - i<m→i≤ps.length→a.length≤i →
  q1k ds n (l.map PS) r ps m i a=some (a++(ps.drop i).flatMap (impl1 l ds r))
 | 0,i,a,hm,_,_=>by omega
 | m+1,i,a,hm,hi,ha=>by
  have h1:=hL.n1
  unfold q1k
  by_cases hlt:i<ps.length
  ·obtain ⟨p,hp,_⟩:=q25 hlt
   simp only [dlt hlt,cond_true,q0u,hp,q08,decd_ok hl p h1,wr1 hlt (show ps.length≤9223372036854775807 by omega),drop_cons' hp,List.flatMap_cons]
   have i1:=impl1_len l ds r p
   cases hd:isDec ds p with
   | true =>
    rw [cond_true,impl_L1 hL hl hr hrl hps m (i+1) a (by omega) (by omega) (by omega)]
    simp [impl1,hd]
   | false =>
    have h2:=impl_L2 hL hr hrl (i:=(i:Int)) (a:=a) (rc:=q1k ds n (l.map PS) r ps m) (p:=p) n 0 0 (by omega) (by omega) (by omega)
    rw [Int.ofNat_zero] at h2
    rw [cond_false,h2]
    simp only [List.drop_zero,Nat.zero_add,q6s,q6q,natz,nateq,natpos,wr1 hlt (show ps.length≤9223372036854775807 by omega)]
    by_cases hc:cntR l r p=0∨cntR l r p=r.length
    ·have e:bindO (cond (decide (cntR l r p=0)) (some true) (some (decide (cntR l r p=r.length)))) (fun b49:Bool=>cond b49 (needO ((a.length+1)*48≤140737488355328∧a.length+1≤140737488355328) (q1k ds n (l.map PS) r ps m ((i+1:Nat):Int) (a++[⟨p,decide (0<cntR l r p)⟩]))) (q1k ds n (l.map PS) r ps m ((i+1:Nat):Int) a))=q1k ds n (l.map PS) r ps m ((i+1:Nat):Int) (a++[⟨p,decide (0<cntR l r p)⟩]):=by
      rcases hc with hc | hc
      ·simp only [hc,decide_true,cond_true,q08]
       rw [q0r ⟨by omega,by omega⟩]
      ·by_cases h0:cntR l r p=0
       ·simp only [h0,decide_true,cond_true,q08]
        rw [q0r ⟨by omega,by omega⟩]
       ·rw [decide_eq_false h0,cond_false,decide_eq_true hc,q08,cond_true,q0r ⟨by omega,by omega⟩]
     rw [e,impl_L1 hL hl hr hrl hps m (i+1) _ (by omega) (by omega) (by simp; omega)]
     simp [impl1,hd,hc]
    ·have h0:¬ cntR l r p=0:=fun h=>hc (.inl h)
     have h3:¬ cntR l r p=r.length:=fun h=>hc (.inr h)
     simp only [h0,h3,decide_false,cond_false,q08]
     rw [impl_L1 hL hl hr hrl hps m (i+1) a (by omega) (by omega) (by omega)]
     simp [impl1,hd,h0,h3]
  ·simp only [dnlt hlt,cond_false,q8q,drop_nil' hlt]; simp
theorem len0 {α:Type} (l:List α):((l.length:Int) == 0)=decide (l.length=0):=natz
theorem Implied_ok {l:List GDeriv} {n:Nat} (hL:Lt l n) {ds:List GDecision} (hl:ds.length≤1000):q87 n l ds=some (impl l ds):=by
 have h1:=hL.n1
 have hrl:=rem_len l ds
 have h6:=hL.len
 have hdl:=qdc l
 have hs:=hL.sum
 simp only [q87,all_ok hL,q08,qfw hL hl,len0]
 by_cases h0:rem l ds=[]
 ·simp [h0,impl]
 ·have:¬ (rem l ds).length=0:=fun h=>h0 (List.eq_nil_of_length_eq_zero h)
  have h2:=impl_L1 hL hl (rem_idx l ds) (by omega) (ps:=dsc l) (by omega) n 0 [] (by omega) (by omega) (by simp)
  rw [Int.ofNat_zero] at h2
  simp only [this,decide_false,cond_false,differ_ok hL,q08,h2]
  simp [impl,h0]
theorem eqD_iff (x y:GDecision):eqGDecision x y=true↔x=y:=by
 obtain ⟨p,a⟩:=x
 obtain ⟨q,b⟩:=y
 have:=eqP_iff p q
 simp only [eqGProp] at this
 simp only [eqGDecision,GDecision.mk.injEq]
 rw [Bool.and_eq_true,this]; simp
instance:DecidableEq GDecision:=fun x y=>decidable_of_iff (eqGDecision x y=true) (eqD_iff x y)
theorem eqD_dec (x y:GDecision):eqGDecision x y=decide (x=y):=by rw [Bool.eq_iff_iff,eqD_iff]; simp
theorem qc4 {a b:List GDecision} (hl:a.length≤9223372036854775807) (he:a.length=b.length):∀ (m i:Nat),a.length - i<m→i≤a.length→q34 a b m i=some (decide (a.drop i=b.drop i))
 | 0,i,hm,_=>by omega
 | m+1,i,hm,hi=>by
  unfold q34
  by_cases hlt:i<a.length
  ·obtain ⟨x,hx,_⟩:=q25 hlt
   obtain ⟨y,hy,_⟩:=q25 (show i<b.length by omega)
   simp only [dlt hlt,cond_true,q0u,hx,hy,q08,eqD_dec,wr1 hlt hl,drop_cons' hx,drop_cons' hy,List.cons.injEq]
   by_cases h:x=y
   ·simp only [h,decide_true,Bool.not_true,cond_false,true_and]
    exact qc4 hl he m (i+1) (by omega) (by omega)
   ·simp [h]
  ·have h2:¬ i<b.length:=by omega
   simp only [dnlt hlt,cond_false,q4t,drop_nil' hlt,drop_nil' h2]; simp
theorem qfz {a b:List GDecision} (hl:a.length≤9223372036854775807) {n:Nat} (hn:a.length<n):q45 n a b=some (decide (a=b)):=by
 unfold q45
 by_cases h:a.length=b.length
 ·have e:((a.length:Int) != (b.length:Int))=false:=by simp [h]
  have:=qc4 hl h n 0 (by omega) (by omega)
  rw [e,cond_false]
  simpa using this
 ·have e:((a.length:Int) != (b.length:Int))=true:=by simp; omega
  have:¬ a=b:=fun e=>h (by rw [e])
  simp [e,this]
theorem qhe (l:List GDeriv) (ds:List GDecision) (r:List Int):∀ ps:List GProp,(ps.flatMap (impl1 l ds r)).length≤ps.length
 | []=>by simp
 | p::ps=>by
  have h1:=impl1_len l ds r p
  have h2:=qhe l ds r ps
  rw [List.flatMap_cons,List.length_append,List.length_cons]; omega
theorem impl_len (l:List GDeriv) (ds:List GDecision):(impl l ds).length≤2*nodesL l:=by
 have h1:=qhe l ds (rem l ds) (dsc l)
 have h2:=qdc l
 unfold impl; split
 ·simp
 ·omega
theorem agree_app (d:GDeriv) (a b:List GDecision):agree d (a++b)=(agree d a&&agree d b):=by simp [agree]
theorem remF_sub:∀ (l:List GDeriv) (a b:List GDecision) (i:Nat),(remF l (a++b) i).Sublist (remF l a i)
 | [],a,b,i=>List.Sublist.refl _
 | d::l,a,b,i=>by
  simp only [remF,agree_app]
  have ih:=remF_sub l a b (i+1)
  cases agree d a with
  | false=>simpa using ih
  | true =>
   cases agree d b with
   | false=>simp only [Bool.and_false,Bool.false_eq_true,if_false,if_true,List.nil_append,List.singleton_append]; exact ih.cons _
   | true=>simp only [Bool.and_true,if_true,List.singleton_append]; exact ih.cons_cons _
theorem hasAt_of {l:List GDeriv} {p:GProp} {k:Nat} {d:GDeriv} (h:l[k]? = some d):hasAt l p (k:Int)=decide (p∈props d):=by simp [hasAt,h]
theorem dconcat_L2 {Ls:List (List GDecision)} (hl:Ls.length≤1000) (hs:Ls.flatten.length≤1000):∀ (m i:Nat) (a:List GDecision),Ls.length - i<m→i≤Ls.length→a++(Ls.drop i).flatten=Ls.flatten→q2m Ls m i a=some Ls.flatten
 | 0,i,a,hm,_,_=>by omega
 | m+1,i,a,hm,hi,ha=>by
  unfold q2m
  by_cases hlt:i<Ls.length
  ·obtain ⟨x,hx,_⟩:=q25 hlt
   have hlen:=congrArg List.length ha
   rw [drop_cons' hx] at ha hlen
   simp only [List.flatten_cons,List.length_append] at hlen
   simp only [dlt hlt,cond_true,q0u,hx,q08,wr1 hlt (show Ls.length≤9223372036854775807 by omega)]
   rw [q0r ⟨by omega,by omega⟩]
   exact dconcat_L2 hl hs m (i+1) (a++x) (by omega) (by omega) (by simpa using ha)
  ·simp only [dnlt hlt,cond_false,q49]
   rw [drop_nil' hlt] at ha
   simpa using ha
theorem dgrow_ok {z:Nat} (hz:z≤1000) (n:Nat):q4j n z=some []:=by
 unfold q4j
 have e1:decide ((z:Int)<0)=false:=by simp
 have w:IntKind.i64.wrap ((z:Int) - 0)=(z:Int):=wrn (by simp) (by omega)
 rw [e1,cond_false,w]
 by_cases h:z=0
 ·subst h; simp
 ·have e2:decide ((z:Int) > 0)=true:=by simp; omega
  rw [e2,cond_true,q0r ⟨by omega,by simp; omega,by simp; omega⟩,q0r (by simp),q0r ⟨by omega,by omega⟩,q0r (by omega)]
  simp
theorem dconcat_L1 {Ls:List (List GDecision)} (hl:Ls.length≤1000) (hs:Ls.flatten.length≤1000) {n:Nat} (hn:1001≤n):∀ (m i z:Nat),Ls.length - i<m→i≤Ls.length→z+(Ls.drop i).flatten.length=Ls.flatten.length→q2l Ls n m z i=some Ls.flatten
 | 0,i,z,hm,_,_=>by omega
 | m+1,i,z,hm,hi,hz=>by
  unfold q2l
  by_cases hlt:i<Ls.length
  ·obtain ⟨x,hx,_⟩:=q25 hlt
   rw [drop_cons' hx] at hz
   simp only [List.flatten_cons,List.length_append] at hz
   have w:IntKind.i64.wrap ((z:Int)+(x.length:Int))=((z+x.length:Nat):Int):=wrn (by simp) (by omega)
   have e:decide (((z+x.length:Nat):Int)<0)=false:=by simp; omega
   simp only [dlt hlt,cond_true,q0u,hx,q08,w,e,cond_false,wr1 hlt (show Ls.length≤9223372036854775807 by omega)]
   exact dconcat_L1 hl hs hn m (i+1) _ (by omega) (by omega) (by omega)
  ·simp only [dnlt hlt,cond_false,q48]
   rw [drop_nil' hlt] at hz
   simp only [List.flatten_nil,List.length_nil,Nat.add_zero] at hz
   rw [dgrow_ok (by omega),q08]
   have:=dconcat_L2 hl hs n 0 [] (by omega) (by omega) (by simp)
   rwa [Int.ofNat_zero] at this
theorem dconcat_ok {Ls:List (List GDecision)} (hl:Ls.length≤1000) (hs:Ls.flatten.length≤1000) {n:Nat} (hn:1001≤n):q36 n Ls=some Ls.flatten:=by
 have:=dconcat_L1 hl hs hn n 0 0 (by omega) (by omega) (by simp)
 simpa [q36] using this
theorem wdec_L {ds:List GDecision} (hl:ds.length≤1000) {p:GProp} {n:Nat}:∀ (m i:Nat),ds.length - i<m→i≤ds.length→∃ z,q0q ds p (q2g n) m i=some z∧decide (z ≥ 0)=isDec (ds.drop i) p
 | 0,i,hm,_=>by omega
 | m+1,i,hm,hi=>by
  unfold q0q
  by_cases hlt:i<ds.length
  ·obtain ⟨x,hx,_⟩:=q25 hlt
   simp only [dlt hlt,cond_true,q0u,hx,q08,q2g,qbm,wr1 hlt (show ds.length≤9223372036854775807 by omega),drop_cons' hx,isDec,List.any_cons]
   by_cases h:x.Propx=p
   ·simp only [h,decide_true,cond_true]; exact ⟨i,rfl,by simp⟩
   ·simp only [h,decide_false,cond_false,Bool.false_or]
    exact wdec_L hl m (i+1) (by omega) (by omega)
  ·simp only [dnlt hlt,cond_false,q1j,drop_nil' hlt]
   exact ⟨-1,rfl,by simp [isDec]⟩
theorem wdecd_ok {ds:List GDecision} (hl:ds.length≤1000) (p:GProp) {n:Nat} (hn:1001≤n):q0z (q2g n) n ds p=some (isDec ds p):=by
 obtain ⟨z,h1,h2⟩:=wdec_L (n:=n) hl (p:=p) n 0 (by omega) (by omega)
 rw [Int.ofNat_zero] at h1
 simp only [q0z,q1b,h1,q08,h2,List.drop_zero]
theorem sdec_L {ds:List GDecision} (hl:ds.length≤1000) {p:GProp} {n:Nat}:∀ (m i:Nat),ds.length - i<m→i≤ds.length→∃ z,q0x ds p (q3g n) m i=some z∧decide (z ≥ 0)=isDec (ds.drop i) p
 | 0,i,hm,_=>by omega
 | m+1,i,hm,hi=>by
  unfold q0x
  by_cases hlt:i<ds.length
  ·obtain ⟨x,hx,_⟩:=q25 hlt
   simp only [dlt hlt,cond_true,q0u,hx,q08,q3g,qbm,wr1 hlt (show ds.length≤9223372036854775807 by omega),drop_cons' hx,isDec,List.any_cons]
   by_cases h:x.Propx=p
   ·simp only [h,decide_true,cond_true]; exact ⟨i,rfl,by simp⟩
   ·simp only [h,decide_false,cond_false,Bool.false_or]
    exact sdec_L hl m (i+1) (by omega) (by omega)
  ·simp only [dnlt hlt,cond_false,q1w,drop_nil' hlt]
   exact ⟨-1,rfl,by simp [isDec]⟩
theorem sdecd_ok {ds:List GDecision} (hl:ds.length≤1000) (p:GProp) {n:Nat} (hn:1001≤n):q1e (q3g n) n ds p=some (isDec ds p):=by
 obtain ⟨z,h1,h2⟩:=sdec_L (n:=n) hl (p:=p) n 0 (by omega) (by omega)
 rw [Int.ofNat_zero] at h1
 simp only [q1e,q1n,h1,q08,h2,List.drop_zero]
end Go.Proofs
end
section
namespace Go.Proofs
open Go Go.Rx Go.Vx Go.Sort
set_option linter.unusedVariables false
set_option linter.unusedSimpArgs false
theorem compare_eq (n:Nat) (x y:GProp):q7c n x y=some (ccP x y):=by
 simp only [q7c,q8a,ccP,lexC,cmpI,cmpS]
 by_cases h1:x.From=y.From
 ·simp only [h1,bne_self_eq_false,cond_false,Int.lt_irrefl,if_false,ne_eq,not_true]
  by_cases h2:x.To=y.To
  ·simp only [h2,bne_self_eq_false,cond_false,Int.lt_irrefl,if_false,ne_eq,not_true]
   by_cases h3:x.Kind=y.Kind
   ·simp only [h3,bne_self_eq_false,cond_false,Int.lt_irrefl,if_false,ne_eq,not_true]
    cases h4:bytesEq x.Name y.Name with
    | true =>
     have:=(q93 _ _).1 h4
     simp [this,q69]
    | false =>
     cases h5:bytesLt x.Name y.Name with
     | true=>simp [q08]
     | false =>
      cases h6:bytesLt y.Name x.Name with
      | true=>simp [q08]
      | false=>have:=q74 _ _ h5 h6; rw [this,qas] at h4; cases h4
   ·have e:(x.Kind != y.Kind)=true:=by simpa using h3
    by_cases hlt:x.Kind<y.Kind
    ·simp [e,hlt,q08]
    ·have:y.Kind<x.Kind:=by omega
     simp [e,hlt,this,q08]
  ·have e:(x.To != y.To)=true:=by simpa using h2
   by_cases hlt:x.To<y.To
   ·simp [e,hlt,q08]
   ·have:y.To<x.To:=by omega
    simp [e,hlt,this,q08]
 ·have e:(x.From != y.From)=true:=by simpa using h1
  by_cases hlt:x.From<y.From
  ·simp [e,hlt,q08]
  ·have:y.From<x.From:=by omega
   simp [e,hlt,this,q08]
theorem qdf {l:List GProp} {p:GProp} (hl:l.length≤1000) {n:Nat}:∀ (m i:Nat) (a:List GProp),l.length - i<m→i≤l.length→a.length+(l.length - i)≤2000→q2k l p n m true i a=some (a++l.drop i)
 | 0,i,a,hm,_,_=>by omega
 | m+1,i,a,hm,hi,ha=>by
  unfold q2k
  by_cases hlt:i<l.length
  ·obtain ⟨x,hx,_⟩:=q25 hlt
   simp only [dlt hlt,cond_true,q0u,hx,q08,compare_eq,Bool.not_true,cond_false,q5n,wr1 hlt (show l.length≤9223372036854775807 by omega)]
   rw [q0r ⟨by omega,by omega⟩,qdf hl m (i+1) (a++[x]) (by omega) (by omega) (by simp; omega),drop_cons' hx,List.append_assoc]
   rfl
  ·simp only [dnlt hlt,cond_false,q6z,Bool.not_true,q5m,drop_nil' hlt,List.append_nil]
theorem insert_L {l:List GProp} {p:GProp} (hl:l.length≤1000) {n:Nat}:∀ (m i:Nat) (a:List GProp),l.length - i<m→i≤l.length→a.length+(l.length - i)≤1000→q2k l p n m false i a=some (a++insU ccP p (l.drop i))
 | 0,i,a,hm,_,_=>by omega
 | m+1,i,a,hm,hi,ha=>by
  unfold q2k
  by_cases hlt:i<l.length
  ·obtain ⟨x,hx,_⟩:=q25 hlt
   simp only [dlt hlt,cond_true,q0u,hx,q08,compare_eq,Bool.not_false,q5n,q6y,wr1 hlt (show l.length≤9223372036854775807 by omega),drop_cons' hx,insU]
   by_cases h1:ccP p x<0
   ·have h2:ccP p x≤0:=by omega
    simp only [h1,h2,decide_true,cond_true,if_true]
    rw [q0r ⟨by omega,by omega⟩,q0r (by simp; omega),qdf hl m (i+1) _ (by omega) (by omega) (by simp; omega)]
    simp
   ·by_cases h2:ccP p x=0
    ·have h3:ccP p x≤0:=by omega
     simp only [h1,h2,h3,decide_true,decide_false,cond_true,cond_false,if_true,if_false,Int.lt_irrefl,Int.le_refl]
     rw [q0r ⟨by omega,by omega⟩,qdf hl m (i+1) _ (by omega) (by omega) (by simp; omega)]
     simp
    ·have h3:¬ ccP p x≤0:=by omega
     simp only [h1,h2,h3,decide_false,cond_false,if_false]
     rw [q0r ⟨by omega,by omega⟩,insert_L hl m (i+1) _ (by omega) (by omega) (by simp; omega)]
     simp
  ·simp only [dnlt hlt,cond_false,q6z,Bool.not_false,cond_true,q5m,drop_nil' hlt,insU]
   rw [q0r ⟨by omega,by omega⟩]
theorem qea {l:List GProp} (hl:l.length≤900) (p:GProp) {n:Nat} (hn:1001≤n):q57 n l p=some (insU ccP p l):=by
 have:=insert_L (l:=l) (p:=p) (by omega) (n:=n) n 0 [] (by omega) (by omega) (by simp; omega)
 simpa [q57] using this
def addU (l ps:List GProp):List GProp:=ps.foldl (fun a p=>insU ccP p a) l
theorem qdq (l a b:List GProp):addU l (a++b)=addU (addU l a) b:=by simp [addU]
theorem qg9:∀ (ps l:List GProp),(addU l ps).length≤l.length+ps.length
 | [],l=>by simp [addU]
 | p::ps,l=>by
  have h1:=qg9 ps (insU ccP p l)
  have h2:=qbo (c:=ccP) p l
  simp only [addU,List.foldl_cons,List.length_cons] at *
  omega
theorem addU_up:∀ (ps:List GProp) {l:List GProp},Up ccP l→Up ccP (addU l ps)
 | [],l,h=>h
 | p::ps,l,h=>addU_up ps (insU_up q44 q85 p h)
theorem addU_mem:∀ (ps l:List GProp) (x:GProp),x∈addU l ps↔x∈l∨x∈ps
 | [],l,x=>by simp [addU]
 | p::ps,l,x=>by
  have:=addU_mem ps (insU ccP p l) x
  simp only [addU,List.foldl_cons] at *
  rw [this,qgf q85,List.mem_cons]
  constructor
  ·rintro ((h | h) | h)<;>simp [h]
  ·rintro (h | h | h)<;>simp [h]
theorem add_L {d:GDeriv} (hl:d.Kids.length≤9223372036854775807) {self:List GProp→GDeriv→Option (List GProp)} (hself:∀ x∈d.Kids,∀ l,l.length+2*nodes x≤900→self l x=some (addU l (props x))) :
  ∀ (m i:Nat) (l:List GProp),d.Kids.length - i<m→i≤d.Kids.length→l.length+2*nodesL (d.Kids.drop i)≤900→q6x d self m l i=some (addU l (propsL (d.Kids.drop i)))
 | 0,i,l,hm,_,_=>by omega
 | m+1,i,l,hm,hi,hb=>by
  unfold q6x
  by_cases hlt:i<d.Kids.length
  ·obtain ⟨x,hx,hxm⟩:=q25 hlt
   rw [qak hx] at hb
   simp only [dlt hlt,cond_true,q0u,hx,q08,hself x hxm l (by omega),wr1 hlt hl]
   have h1:=qba x
   have h2:=qg9 (props x) l
   rw [add_L hl hself m (i+1) _ (by omega) (by omega) (by omega),qdj hx,qdq]
  ·simp only [dnlt hlt,cond_false,qaw,drop_nil' hlt,propsL,addU,List.foldl_nil]
theorem add_ok:∀ (s:Nat) (d:GDeriv),SizeOf.sizeOf d<s→okG d→∀ n,SizeOf.sizeOf d+1001≤n→∀ l,l.length+2*nodes d≤900→q4o n l d=some (addU l (props d))
 | 0,d,hs,_,_,_,_,_=>by omega
 | s+1,d,hs,hok,n,hn,l,hb=>by
  have hk:=qhk d
  have hnd:=qee d
  cases n with
  | zero=>omega
  | succ n =>
   have hL:∀ l:List GProp,l.length+2*nodesL d.Kids≤900→q6x d (q4o n) n l 0=some (addU l (propsL d.Kids)):=fun l hb=>by
    have:=add_L (d:=d) (qhq hok) (self:=q4o n) (fun x hx l hb=>by
     have:=kid_lt d hx
     exact add_ok s x (by omega) (qhp hok hx) n (by omega) l hb) n 0 l (by omega) (by omega) (by simpa using hb)
    simpa using this
   simp only [q4o,qdk,q9s,q9r,q9q]
   rw [props_eq,own]
   by_cases h0:d.Kind=0
   ·have:=qbo (c:=ccP) ⟨0,d.Name,d.From,d.To⟩ l
    rw [kz h0,cond_true,qea (by omega) _ (by omega),q08,hL _ (by omega),if_pos h0,qdq]; rfl
   ·rw [knz h0,cond_false,if_neg h0]
    by_cases h1:d.Kind=1
    ·have:=qbo (c:=ccP) ⟨1,d.Name,d.From,d.To⟩ l
     rw [kz h1,cond_true,qea (by omega) _ (by omega),q08,hL _ (by omega),if_pos h1,qdq]; rfl
    ·rw [knz h1,cond_false,if_neg h1]
     by_cases h2:d.Kind=2
     ·have a1:=qbo (c:=ccP) ⟨2,d.Name,d.From,d.To⟩ l
      have a2:=qbo (c:=ccP) ⟨3,[],d.From,d.To⟩ (insU ccP ⟨2,d.Name,d.From,d.To⟩ l)
      rw [kz h2,cond_true,qea (by omega) _ (by omega),q08,qea (by omega) _ (by omega),q08,hL _ (by omega),if_pos h2,qdq]; rfl
     ·rw [knz h2,cond_false,if_neg h2,hL _ (by omega)]; rfl
theorem refProps_ok {d:GDeriv} (hok:okG d) {n:Nat} (hn:SizeOf.sizeOf d+1001≤n) (hb:nodes d≤400):q9b n d=some (PS d):=by
 rw [q9b,add_ok _ d (Nat.lt_succ_self _) hok n hn [] (by simp; omega),q08]
 congr 1
 refine Up.ext q44 q85 (addU_up _ (by simp [Up])) (PS_up d) fun x=>?_
 rw [addU_mem,qfj]; simp
theorem Has_L {l:List GProp} {p:GProp} (hl:l.length≤9223372036854775807):∀ (m i:Nat),l.length - i<m→i≤l.length→q89 l p m i=some (decide (p∈l.drop i))
 | 0,i,hm,_=>by omega
 | m+1,i,hm,hi=>by
  unfold q89
  by_cases hlt:i<l.length
  ·obtain ⟨x,hx,_⟩:=q25 hlt
   simp only [dlt hlt,cond_true,q0u,hx,q08,qbm,wr1 hlt hl,drop_cons' hx]
   by_cases h:x=p
   ·simp [h]
   ·have h':¬ p=x:=fun e=>h e.symm
    simp only [h,decide_false,cond_false]
    rw [Has_L hl m (i+1) (by omega) (by omega)]
    simp [h']
  ·simp only [dnlt hlt,cond_false,qav,drop_nil' hlt]; simp
theorem Has_ok {l:List GProp} (hl:l.length≤9223372036854775807) {n:Nat} (hn:l.length<n) (p:GProp):qan n l p=some (decide (p∈l)):=by
 have:=Has_L (p:=p) hl n 0 (by omega) (by omega)
 simpa [qan] using this
theorem refHolds_ok {d:GDeriv} (hok:okG d) {n:Nat} (hn:SizeOf.sizeOf d+1001≤n) (hb:nodes d≤400) (p:GProp):q5v n d p=some (decide (p∈props d)):=by
 have:=PS_len d
 simp only [q5v,refProps_ok hok hn hb,q08,Has_ok (show (PS d).length≤9223372036854775807 by omega) (show (PS d).length<n by omega) p,qfj]
theorem Lt.holds {l:List GDeriv} {n:Nat} (h:Lt l n) {d:GDeriv} (hd:d∈l) (p:GProp):q5v n d p=some (decide (p∈props d)):=refHolds_ok (h.ok d hd) (h.fuel d hd) (by have:=h.nd hd; omega) p
theorem rdis_L3 {l:List GDeriv} {n:Nat} (hL:Lt l n) {all:List GProp} {i:Nat} {a:List GProp} {rc:Int→List GProp→Option (List GProp)} {p:GProp} (hp:all[i]? = some p):∀ (m k z:Nat),l.length - k<m→k≤l.length→z≤k →
  q27 l n all i a rc m z k=q41 l all i a rc ((z+cntH (l.drop k) p:Nat):Int)
 | 0,k,z,hm,_,_=>by omega
 | m+1,k,z,hm,hk,hz=>by
  have h6:=hL.len
  unfold q27
  by_cases hlt:k<l.length
  ·obtain ⟨x,hx,hxm⟩:=q25 hlt
   have w:IntKind.i64.wrap ((z:Int)+1)=((z+1:Nat):Int):=wrn (by simp) (by omega)
   simp only [dlt hlt,cond_true,q0u,hx,hp,q08,hL.holds hxm,q3z,w,wr1 hlt (show l.length≤9223372036854775807 by omega)]
   have hc:cntH (l.drop k) p=(if p∈props x then 1 else 0)+cntH (l.drop (k+1)) p:=by
    rw [drop_cons' hx]
    simp only [cntH,List.filter_cons]
    by_cases h:p∈props x
    ·simp [h]; omega
    ·simp [h]
   by_cases h:p∈props x
   ·rw [decide_eq_true h,cond_true,rdis_L3 hL hp m (k+1) (z+1) (by omega) (by omega) (by omega),hc,if_pos h]
    congr 2; omega
   ·rw [decide_eq_false h,cond_false,rdis_L3 hL hp m (k+1) z (by omega) (by omega) (by omega),hc,if_neg h]
    congr 2; omega
  ·simp only [dnlt hlt,cond_false,drop_nil' hlt]; simp [cntH]
theorem rdis_L2 {l:List GDeriv} {n:Nat} (hL:Lt l n) {all:List GProp} (hall:all.length≤500):∀ (m i:Nat) (a:List GProp),all.length - i<m→i≤all.length→a.length≤i →
  q16 l n all m i a=some (a++(all.drop i).filter (fun p=>decide (cntH l p<l.length)))
 | 0,i,a,hm,_,_=>by omega
 | m+1,i,a,hm,hi,ha=>by
  have h6:=hL.len
  have h1:=hL.n1
  unfold q16
  by_cases hlt:i<all.length
  ·obtain ⟨p,hp,_⟩:=q25 hlt
   have h3:=rdis_L3 hL (a:=a) (rc:=q16 l n all m) hp n 0 0 (by omega) (by omega) (by omega)
   rw [Int.ofNat_zero] at h3
   rw [dlt hlt,cond_true,h3]
   simp only [List.drop_zero,Nat.zero_add,q41,q0u,hp,q08,q3y,wr1 hlt (show all.length≤9223372036854775807 by omega),drop_cons' hp,List.filter_cons]
   by_cases hc:cntH l p<l.length
   ·rw [dlt hc,cond_true,q0r ⟨by omega,by omega⟩,rdis_L2 hL hall m (i+1) _ (by omega) (by omega) (by simp; omega),decide_eq_true hc]
    simp
   ·rw [dnlt hc,cond_false,rdis_L2 hL hall m (i+1) _ (by omega) (by omega) (by omega),decide_eq_false hc]
    simp
  ·simp only [dnlt hlt,cond_false,q4s,drop_nil' hlt,List.filter_nil,List.append_nil]
theorem rdis_L1 {l:List GDeriv} {n:Nat} (hL:Lt l n):∀ (m i:Nat) (a:List GProp),l.length - i<m→i≤l.length→a.length+2*nodesL (l.drop i)≤400 →
  q33 l n m a i=q40 l n (addU a (propsL (l.drop i)))
 | 0,i,a,hm,_,_=>by omega
 | m+1,i,a,hm,hi,ha=>by
  have h6:=hL.len
  unfold q33
  by_cases hlt:i<l.length
  ·obtain ⟨x,hx,hxm⟩:=q25 hlt
   rw [qak hx] at ha
   have hpl:=qba x
   have hal:=qg9 (props x) a
   simp only [dlt hlt,cond_true,q0u,hx,q08,add_ok _ x (Nat.lt_succ_self _) (hL.ok x hxm) n (hL.fuel x hxm) a (by omega),wr1 hlt (show l.length≤9223372036854775807 by omega)]
   rw [rdis_L1 hL m (i+1) _ (by omega) (by omega) (by omega),qdj hx,qdq]
  ·simp only [dnlt hlt,cond_false,drop_nil' hlt,propsL,addU,List.foldl_nil]
theorem qdl {l:List GDeriv} {n:Nat} (hL:Lt l n):q2w n l=some (dsc l):=by
 have h6:=hL.len
 have hs:=hL.sum
 have h1:=hL.n1
 have hpl:=qcq l
 have hal:=qg9 (propsL l) []
 have:=rdis_L1 hL n 0 [] (by omega) (by omega) (by simp; omega)
 rw [Int.ofNat_zero] at this
 simp only [List.length_nil,Nat.zero_add] at hal
 rw [q2w,this,List.drop_zero,q40]
 have h2:=rdis_L2 hL (all:=addU [] (propsL l)) (by omega) n 0 [] (by omega) (by omega) (by simp)
 rw [Int.ofNat_zero] at h2
 rw [h2,List.nil_append,List.drop_zero,dsc]
 congr 2
 refine Up.ext q44 q85 (addU_up _ (by simp [Up])) (q9y q44 q85 (srt_le q44 _)) fun x=>?_
 rw [addU_mem,q6p q85,qgo]; simp
theorem rrem_L2 {l:List GDeriv} {n:Nat} (hL:Lt l n) {ds:List GDecision} (hl:ds.length≤1000) {i:Nat} {d:GDeriv} (hd:l[i]? = some d) {a:List Int} {rc:Int→List Int→Option (List Int)}:∀ (m k:Nat) (b:Bool),ds.length - k<m→k≤ds.length →
  q4h l ds n i a rc m b k=q55 i a rc (b&&agree d (ds.drop k))
 | 0,k,b,hm,_=>by omega
 | m+1,k,b,hm,hk=>by
  have hdm:=List.mem_of_getElem? hd
  unfold q4h
  by_cases hlt:k<ds.length
  ·obtain ⟨x,hx,_⟩:=q25 hlt
   simp only [dlt hlt,cond_true,q0u,hd,hx,q08,hL.holds hdm,wr1 hlt (show ds.length≤9223372036854775807 by omega),drop_cons' hx,agree,List.all_cons]
   cases b with
   | true =>
    simp only [cond_true,q08]
    rw [rrem_L2 hL hl hd m (k+1) _ (by omega) (by omega)]
    rfl
   | false =>
    simp only [cond_false,q08]
    rw [rrem_L2 hL hl hd m (k+1) _ (by omega) (by omega)]
    rfl
  ·simp only [dnlt hlt,cond_false,drop_nil' hlt]; simp [agree]
theorem rrem_L {l:List GDeriv} {n:Nat} (hL:Lt l n) {ds:List GDecision} (hl:ds.length≤1000):∀ (m i:Nat) (a:List Int),l.length - i<m→i≤l.length→a.length≤i→q2b l ds n m i a=some (a++remF (l.drop i) ds i)
 | 0,i,a,hm,_,_=>by omega
 | m+1,i,a,hm,hi,ha=>by
  have h6:=hL.len
  have h1:=hL.n1
  unfold q2b
  by_cases hlt:i<l.length
  ·obtain ⟨d,hd,hdm⟩:=q25 hlt
   have h2:=rrem_L2 hL hl hd (a:=a) (rc:=q2b l ds n m) n 0 true (by omega) (by omega)
   rw [Int.ofNat_zero] at h2
   rw [dlt hlt,cond_true,h2]
   simp only [Bool.true_and,List.drop_zero,q55,q54,wr1 hlt (show l.length≤9223372036854775807 by omega),drop_cons' hd,remF]
   cases hg:agree d ds with
   | true =>
    rw [cond_true,q0r ⟨by omega,by omega⟩,rrem_L hL hl m (i+1) _ (by omega) (by omega) (by simp; omega)]
    simp
   | false =>
    rw [cond_false,rrem_L hL hl m (i+1) _ (by omega) (by omega) (by omega)]
    simp
  ·simp only [dnlt hlt,cond_false,q6j,drop_nil' hlt,remF,List.append_nil]
theorem q8w {l:List GDeriv} {n:Nat} (hL:Lt l n) {ds:List GDecision} (hl:ds.length≤1000):q3n n l ds=some (rem l ds):=by
 have h6:=hL.len
 have h1:=hL.n1
 have:=rrem_L hL hl n 0 [] (by omega) (by omega) (by simp)
 simpa [q3n,rem] using this
theorem rdec_L {ds:List GDecision} (hl:ds.length≤1000) {p:GProp}:∀ (m i:Nat),ds.length - i<m→i≤ds.length→q4y ds p m i=some (isDec (ds.drop i) p)
 | 0,i,hm,_=>by omega
 | m+1,i,hm,hi=>by
  unfold q4y
  by_cases hlt:i<ds.length
  ·obtain ⟨x,hx,_⟩:=q25 hlt
   simp only [dlt hlt,cond_true,q0u,hx,q08,qbm,wr1 hlt (show ds.length≤9223372036854775807 by omega),drop_cons' hx,isDec,List.any_cons]
   by_cases h:x.Propx=p
   ·simp [h]
   ·simp only [h,decide_false,cond_false,Bool.false_or]
    exact rdec_L hl m (i+1) (by omega) (by omega)
  ·simp only [dnlt hlt,cond_false,q7z,drop_nil' hlt]; simp [isDec]
theorem qa7 {ds:List GDecision} (hl:ds.length≤1000) (p:GProp) {n:Nat} (hn:1001≤n):q4k n ds p=some (isDec ds p):=by
 have:=rdec_L hl (p:=p) n 0 (by omega) (by omega)
 simpa [q4k] using this
theorem with_L {l:List GDeriv} {n:Nat} (hL:Lt l n) {r:List Int} (hr:Idx l r) (hrl:r.length≤6) {p:GProp}:∀ (m k z:Nat),r.length - k<m→k≤r.length→z≤k →
  q56 l r p n m z k=some ((z+cntR l (r.drop k) p:Nat):Int)
 | 0,k,z,hm,_,_=>by omega
 | m+1,k,z,hm,hk,hz=>by
  unfold q56
  by_cases hlt:k<r.length
  ·obtain ⟨x,hx,hxm⟩:=q25 hlt
   obtain ⟨q,d,h1,h2⟩:=hr x hxm
   subst h2
   have hdm:=List.mem_of_getElem? h1
   have w:IntKind.i64.wrap ((z:Int)+1)=((z+1:Nat):Int):=wrn (by simp) (by omega)
   have hat:hasAt l p (q:Int)=decide (p∈props d):=by simp [hasAt,h1]
   simp only [dlt hlt,cond_true,q0u,hx,h1,q08,hL.holds hdm,q8t,w,wr1 hlt (show r.length≤9223372036854775807 by omega),cntR_drop hx,hat]
   by_cases h:p∈props d
   ·rw [decide_eq_true h,cond_true,with_L hL hr hrl m (k+1) (z+1) (by omega) (by omega) (by omega)]
    congr 2; simp; omega
   ·rw [decide_eq_false h,cond_false,with_L hL hr hrl m (k+1) z (by omega) (by omega) (by omega)]
    congr 2; simp
  ·simp only [dnlt hlt,cond_false,qa4,drop_nil' hlt]; simp [cntR]
theorem With_ok {l:List GDeriv} {n:Nat} (hL:Lt l n) {r:List Int} (hr:Idx l r) (hrl:r.length≤6) (p:GProp):q9c n l r p=some (cntR l r p:Int):=by
 have h1:=hL.n1
 have:=with_L hL hr hrl (p:=p) n 0 0 (by omega) (by omega) (by omega)
 simpa [q9c] using this
theorem qel {l:List GDeriv} {n:Nat} (hL:Lt l n) {ds:List GDecision} (hl:ds.length≤1000) {r:List Int} (hr:Idx l r) (hrl:r.length≤6) {ps:List GProp} (hps:ps.length≤500):∀ (m i:Nat) (a:List GDecision),ps.length - i<m→i≤ps.length→a.length≤i →
  q3t l ds n r ps m i a=some (a++(ps.drop i).flatMap (impl1 l ds r))
 | 0,i,a,hm,_,_=>by omega
 | m+1,i,a,hm,hi,ha=>by
  have h1:=hL.n1
  unfold q3t
  by_cases hlt:i<ps.length
  ·obtain ⟨p,hp,_⟩:=q25 hlt
   simp only [dlt hlt,cond_true,q0u,hp,q08,With_ok hL hr hrl p,qa7 hl p h1,q61,natz,nateq,natpos,wr1 hlt (show ps.length≤9223372036854775807 by omega),drop_cons' hp,List.flatMap_cons]
   cases hd:isDec ds p with
   | true =>
    simp only [Bool.not_true,cond_false,q08]
    rw [qel hL hl hr hrl hps m (i+1) a (by omega) (by omega) (by omega)]
    simp [impl1,hd]
   | false =>
    simp only [Bool.not_false,cond_true]
    by_cases h0:cntR l r p=0
    ·simp only [h0,decide_true,cond_true,q08]
     rw [q0r ⟨by omega,by omega⟩,qel hL hl hr hrl hps m (i+1) _ (by omega) (by omega) (by simp; omega)]
     simp [impl1,hd,h0]
    ·simp only [h0,decide_false,cond_false,q08]
     by_cases h3:cntR l r p=r.length
     ·simp only [h3,decide_true,cond_true]
      rw [q0r ⟨by omega,by omega⟩,qel hL hl hr hrl hps m (i+1) _ (by omega) (by omega) (by simp; omega)]
      simp [impl1,hd,h3]
     ·simp only [h3,decide_false,cond_false]
      rw [qel hL hl hr hrl hps m (i+1) a (by omega) (by omega) (by omega)]
      simp [impl1,hd,h0,h3]
  ·simp only [dnlt hlt,cond_false,q80,drop_nil' hlt]; simp
theorem refImplied_ok {l:List GDeriv} {n:Nat} (hL:Lt l n) {ds:List GDecision} (hl:ds.length≤1000):q7d n l ds=some (impl l ds):=by
 have h1:=hL.n1
 have hrl:=rem_len l ds
 have h6:=hL.len
 have hdl:=qdc l
 have hs:=hL.sum
 simp only [q7d,q8w hL hl,q08,len0]
 by_cases h0:rem l ds=[]
 ·simp [h0,impl]
 ·have:¬ (rem l ds).length=0:=fun h=>h0 (List.eq_nil_of_length_eq_zero h)
  have h2:=qel hL hl (rem_idx l ds) (by omega) (ps:=dsc l) (by omega) n 0 [] (by omega) (by omega) (by simp)
  rw [Int.ofNat_zero] at h2
  simp only [this,decide_false,cond_false,qdl hL,q08,h2]
  simp [impl,h0]
end Go.Proofs
end
section
namespace Go.Proofs
open Go Go.Rx Go.Vx Go.Sort
set_option linter.unusedVariables false
set_option linter.unusedSimpArgs false
theorem ddec_ok {s:GSession} (hl:s.Decisions.length≤1000) (p:GProp) {n:Nat} (hn:1001≤n):q2u n (Gwork.mk s) p=some (isDec s.Decisions p):=by
 simp only [q2u,wdecd_ok hl p hn,q08]
theorem drem_ok {s:GSession} {n:Nat} (hL:Lt s.Readings n) {x:List GDecision} (hl:s.Decisions.length+x.length≤1000):q1i n (Gwork.mk s) x=some (rem s.Readings (s.Decisions++x)):=by
 have h1:=hL.n1
 have h2:=dconcat_ok (Ls:=[s.Decisions,x]) (by simp) (by simp; omega) h1
 simp only [q1i,h2,q08,List.flatten_cons,List.flatten_nil,List.append_nil,Remaining_ok hL (ds:=s.Decisions++x) (by simp; omega)]
theorem idxP_L {ps:List GProp} (hl:ps.length≤1000) {p:GProp}:∀ (m i:Nat),ps.length - i<m→i≤ps.length→∃ z,q3q ps p m i=some z∧decide (z ≥ 0)=decide (p∈ps.drop i)
 | 0,i,hm,_=>by omega
 | m+1,i,hm,hi=>by
  unfold q3q
  by_cases hlt:i<ps.length
  ·obtain ⟨x,hx,_⟩:=q25 hlt
   simp only [dlt hlt,cond_true,q0u,hx,q08,qbm,wr1 hlt (show ps.length≤9223372036854775807 by omega),drop_cons' hx]
   by_cases h:p=x
   ·simp only [h,decide_true,cond_true]; exact ⟨i,rfl,by simp⟩
   ·obtain ⟨z,g1,g2⟩:=idxP_L hl (p:=p) m (i+1) (by omega) (by omega)
    simp only [h,decide_false,cond_false]
    exact ⟨z,g1,by rw [g2]; simp [h]⟩
  ·simp only [dnlt hlt,cond_false,q5g,drop_nil' hlt]
   exact ⟨-1,rfl,by simp⟩
theorem contP_ok {ps:List GProp} (hl:ps.length≤1000) (p:GProp) {n:Nat} (hn:1001≤n):q3p n ps p=some (decide (p∈ps)):=by
 obtain ⟨z,h1,h2⟩:=idxP_L hl (p:=p) n 0 (by omega) (by omega)
 rw [Int.ofNat_zero] at h1
 simp only [q3p,q5q,h1,q08,h2,List.drop_zero]
theorem cloneX_ok {ds:List GDecision} (hl:ds.length≤1000) (n:Nat):q2y n ds=some ds:=by
 unfold q2y
 cases ds with
 | nil=>simp [bothL,needO]
 | cons a l=>simp only [bothL,cond_false]; rw [q0r ⟨by omega,by omega⟩]
theorem clipX_ok {ds:List GDecision} (hl:ds.length≤1000) (n:Nat):q3o n ds=some ds:=by
 unfold q3o
 have:cutF ds (ds.length:Int)=some ds:=by unfold cutF; rw [if_pos ⟨by omega,by omega,by omega⟩]; simp
 rw [this,q08]
def decideP (s:GSession) (p:GProp) (y:Bool):GSession×Int :=
 if s.State≠0 then (s,15) else if p ∉ dsc s.Readings then (s,16) else if isDec s.Decisions p=true then (s,4)
 else if rem s.Readings (s.Decisions++[⟨p,y⟩])=[] then (s,17) else (⟨s.Readings,s.Decisions++[⟨p,y⟩],s.State⟩,0)
theorem Decide_ok {s:GSession} {n:Nat} (hL:Lt s.Readings n) (hl:s.Decisions.length≤900) (p:GProp) (y:Bool):q37 n s p y=some (decideP s p y):=by
 have h1:=hL.n1
 have hs:=hL.sum
 have hdl:=qdc s.Readings
 unfold q37 decideP
 by_cases h0:s.State=0
 ·have e0:(s.State != 0)=false:=by simp [h0]
  rw [e0,cond_false,if_neg (by simp [h0]),Discr_ok hL,q08,contP_ok (by omega) p h1,q08]
  by_cases h2:p∈dsc s.Readings
  ·rw [if_neg (by simp [h2])]
   simp only [h2,decide_true,Bool.not_true,cond_false,ddec_ok (s:=s) (by omega) p h1,q08]
   cases hd:isDec s.Decisions p with
   | true=>simp
   | false =>
    rw [cond_false,drem_ok hL (by simp; omega),q08,len0,if_neg (by simp)]
    by_cases h3:rem s.Readings (s.Decisions++[⟨p,y⟩])=[]
    ·simp [h3]
    ·have:¬ (rem s.Readings (s.Decisions++[⟨p,y⟩])).length=0:=fun h=>h3 (List.length_eq_zero_iff.1 h)
     simp only [this,decide_false,cond_false,if_neg h3,cloneX_ok (show s.Decisions.length≤1000 by omega),clipX_ok (show s.Decisions.length≤1000 by omega),q08]
     rw [q0r ⟨by simp; omega,by simp; omega⟩]
  ·rw [if_pos h2]; simp [h2]
 ·have e0:(s.State != 0)=true:=by simpa using h0
  rw [e0,cond_true,if_pos h0]
def acceptP (s:GSession):GSession×Int :=
 if s.State≠0 then (s,15) else if (rem s.Readings s.Decisions).length≠1 then (s,17) else (⟨s.Readings,s.Decisions,1⟩,0)
theorem Accept_ok {s:GSession} {n:Nat} (hL:Lt s.Readings n) (hl:s.Decisions.length≤900):q4l n s=some (acceptP s):=by
 unfold q4l acceptP
 by_cases h0:s.State=0
 ·have e0:(s.State != 0)=false:=by simp [h0]
  rw [e0,cond_false,if_neg (by simp [h0]),drem_ok hL (by simp; omega),q08,List.append_nil]
  by_cases h:(rem s.Readings s.Decisions).length=1
  ·have e:(((rem s.Readings s.Decisions).length:Int) != 1)=false:=by simp [h]
   rw [e,cond_false,if_neg (by simp [h])]
  ·have e:(((rem s.Readings s.Decisions).length:Int) != 1)=true:=by simp; omega
   rw [e,cond_true,if_pos h]
 ·have e0:(s.State != 0)=true:=by simpa using h0
  rw [e0,cond_true,if_pos h0]
def rejectP (s:GSession):GSession×Int:=if s.State≠0 then (s,15) else (⟨s.Readings,s.Decisions,2⟩,0)
theorem Reject_ok (s:GSession) (n:Nat):q5h n s=some (rejectP s):=by
 unfold q5h rejectP
 by_cases h0:s.State=0
 ·have e0:(s.State != 0)=false:=by simp [h0]
  rw [e0,cond_false,if_neg (by simp [h0])]
 ·have e0:(s.State != 0)=true:=by simpa using h0
  rw [e0,cond_true,if_pos h0]
def undoP (s:GSession):GSession×Int :=
 if s.State≠0 then (⟨s.Readings,s.Decisions,0⟩,0) else if s.Decisions=[] then (s,16) else (⟨s.Readings,s.Decisions.dropLast,s.State⟩,0)
theorem cutLast {α:Type} {l:List α} (h:l≠[]) (hl:l.length≤1000):cutO l 0 (IntKind.i64.wrap ((l.length:Int) - 1))=some l.dropLast:=by
 have hp:0<l.length:=List.length_pos_iff.2 h
 rw [wrn (k:=l.length - 1) (by omega) (by omega)]
 unfold cutO
 rw [if_pos ⟨by omega,by omega,by omega⟩]
 simp [List.dropLast_eq_take]
theorem Undo_ok {s:GSession} (hl:s.Decisions.length≤900) (n:Nat):q73 n s=some (undoP s):=by
 unfold q73 undoP
 by_cases h0:s.State=0
 ·have e0:(s.State != 0)=false:=by simp [h0]
  rw [e0,cond_false,if_neg (by simp [h0]),len0]
  by_cases h:s.Decisions=[]
  ·simp [h]
  ·have:¬ s.Decisions.length=0:=fun e=>h (List.length_eq_zero_iff.1 e)
   simp only [this,decide_false,cond_false,if_neg h,cutLast h (show s.Decisions.length≤1000 by omega),q08,cloneX_ok (show s.Decisions.dropLast.length≤1000 by simp; omega)]
 ·have e0:(s.State != 0)=true:=by simpa using h0
  rw [e0,cond_true,if_pos h0]
theorem qi4 (p:GProp) (b:Bool) (ds:List GDecision):∀ (l pre:List GDeriv),remF l (ds++[⟨p,b⟩]) pre.length=(remF l ds pre.length).filter (fun z=>hasAt (pre++l) p z == b)
 | [],pre=>by simp [remF]
 | d::l,pre=>by
  have ih:=qi4 p b ds l (pre++[d])
  rw [List.append_assoc,List.length_append,List.length_singleton,List.singleton_append] at ih
  have hd:hasAt (pre++d::l) p (pre.length:Int)=decide (p∈props d):=hasAt_of (by simp)
  have hf:agree d (ds++[⟨p,b⟩])=(agree d ds&&(decide (p∈props d) == b)):=by rw [agree_app]; simp [agree,fits1]
  simp only [remF,ih,hf,List.filter_append]
  cases agree d ds with
  | false=>simp
  | true=>cases h:(decide (p∈props d) == b)<;>simp [hd,h]
theorem rem_filter (l:List GDeriv) (ds:List GDecision) (p:GProp) (b:Bool):rem l (ds++[⟨p,b⟩])=(rem l ds).filter (fun z=>hasAt l p z == b):=qi4 p b ds l []
theorem rem_cnt (l:List GDeriv) (ds:List GDecision) (p:GProp):(rem l (ds++[⟨p,true⟩])).length=cntR l (rem l ds) p:=by
 rw [rem_filter]
 have:(fun z=>hasAt l p z == true)=hasAt l p:=by funext z; simp
 rw [this]; rfl
def absI (z:Int):Int:=if -z > z then -z else z
def sugS (l:List GDeriv) (ds:List GDecision) (st:Bool×Int×GProp) (p:GProp):Bool×Int×GProp :=
 if isDec ds p=true∨isDec (impl l ds) p=true then st
 else if st.1=false∨absI (2*(cntR l (rem l ds) p:Int) - (rem l ds).length)<st.2.1 then (true,absI (2*(cntR l (rem l ds) p:Int) - (rem l ds).length),p) else st
def sugP (s:GSession):GProp×Bool :=
 let r:=(dsc s.Readings).foldl (sugS s.Readings s.Decisions) (false,0,⟨0,[],0,0⟩)
 (r.2.2,r.1)
theorem cntR_le (l:List GDeriv) (r:List Int) (p:GProp):cntR l r p≤r.length:=List.length_filter_le _ _
theorem sug_L {s:GSession} {n:Nat} (hL:Lt s.Readings n) (hl:s.Decisions.length≤900) {ps:List GProp} (hps:ps.length≤500):∀ (m i:Nat) (f:Bool) (a:Int) (q:GProp),ps.length - i<m→i≤ps.length →
  q2f s n (impl s.Readings s.Decisions) (rem s.Readings s.Decisions) ps m a f i q.Kind q.Name q.From q.To=(let r:=(ps.drop i).foldl (sugS s.Readings s.Decisions) (f,a,q); some (r.2.2,r.1))
 | 0,i,f,a,q,hm,_=>by omega
 | m+1,i,f,a,q,hm,hi=>by
  have h1:=hL.n1
  have hs:=hL.sum
  have h6:=hL.len
  have hil:=impl_len s.Readings s.Decisions
  have hrl:=rem_len s.Readings s.Decisions
  unfold q2f
  by_cases hlt:i<ps.length
  ·obtain ⟨p,hp,_⟩:=q25 hlt
   have ih:=fun f a q=>sug_L hL hl hps m (i+1) f a q (by omega) (by omega)
   simp only [dlt hlt,cond_true,q0u,hp,q08,ddec_ok (s:=s) (by omega) p h1,wr1 hlt (show ps.length≤9223372036854775807 by omega),drop_cons' hp,List.foldl_cons]
   cases hd:isDec s.Decisions p with
   | true=>simp only [cond_true,q08,ih]; simp [sugS,hd]
   | false =>
    simp only [cond_false,sdecd_ok (ds:=impl s.Readings s.Decisions) (by omega) p h1,q08]
    cases he:isDec (impl s.Readings s.Decisions) p with
    | true=>simp only [cond_true,ih]; simp [sugS,he]
    | false =>
     have hc:=cntR_le s.Readings (rem s.Readings s.Decisions) p
     have w1:IntKind.i64.wrap (2*(cntR s.Readings (rem s.Readings s.Decisions) p:Int))=2*(cntR s.Readings (rem s.Readings s.Decisions) p:Int):=wr (by omega) (by omega)
     have w2:IntKind.i64.wrap (2*(cntR s.Readings (rem s.Readings s.Decisions) p:Int) - ((rem s.Readings s.Decisions).length:Int))=2*(cntR s.Readings (rem s.Readings s.Decisions) p:Int) - ((rem s.Readings s.Decisions).length:Int):=wr (by omega) (by omega)
     have w3:IntKind.i64.wrap (((rem s.Readings s.Decisions).length:Int) - 2*(cntR s.Readings (rem s.Readings s.Decisions) p:Int)) = -(2*(cntR s.Readings (rem s.Readings s.Decisions) p:Int) - ((rem s.Readings s.Decisions).length:Int)):=by rw [wr (by omega) (by omega)]; omega
     simp only [cond_false,drem_ok (s:=s) hL (x:=[⟨p,true⟩]) (by simp; omega),q08,rem_cnt,w1,w2,w3,q4m,wr1 hlt (show ps.length≤9223372036854775807 by omega),ih]
     have hA:(if -(2*(cntR s.Readings (rem s.Readings s.Decisions) p:Int) - ((rem s.Readings s.Decisions).length:Int)) > 2*(cntR s.Readings (rem s.Readings s.Decisions) p:Int) - ((rem s.Readings s.Decisions).length:Int) then -(2*(cntR s.Readings (rem s.Readings s.Decisions) p:Int) - ((rem s.Readings s.Decisions).length:Int)) else 2*(cntR s.Readings (rem s.Readings s.Decisions) p:Int) - ((rem s.Readings s.Decisions).length:Int))=absI (2*(cntR s.Readings (rem s.Readings s.Decisions) p:Int) - ((rem s.Readings s.Decisions).length:Int)):=rfl
     rw [hA]
     generalize hz:absI (2*(cntR s.Readings (rem s.Readings s.Decisions) p:Int) - ((rem s.Readings s.Decisions).length:Int))=z
     have hS:sugS s.Readings s.Decisions (f,a,q) p=if f=false∨z<a then (true,z,p) else (f,a,q):=by simp only [sugS,hd,he,hz]; simp
     rw [hS]
     cases f with
     | false=>simp
     | true =>
      simp only [Bool.not_true,cond_false,q08]
      by_cases hlt2:z<a
      ·simp [hlt2]
      ·simp [hlt2]
  ·simp only [dnlt hlt,cond_false,q5s,drop_nil' hlt,List.foldl_nil]
theorem Suggest_ok {s:GSession} {n:Nat} (hL:Lt s.Readings n) (hl:s.Decisions.length≤900):q38 n s=some (sugP s):=by
 have h1:=hL.n1
 have hs:=hL.sum
 have hdl:=qdc s.Readings
 have h:=sug_L hL hl (ps:=dsc s.Readings) (by omega) n 0 false 0 ⟨0,[],0,0⟩ (by omega) (by omega)
 rw [Int.ofNat_zero] at h
 simp only [q38,Implied_ok hL (show s.Decisions.length≤1000 by omega),drem_ok (s:=s) hL (x:=[]) (by simp; omega),q08,Discr_ok hL,List.append_nil,h]
 rfl
def performP (s:GSession) (x:GStep):GSession×Int :=
 if x.Op.tmod 6=0 then decideP s x.Propx x.Yes else if x.Op.tmod 6=1 then undoP s else if x.Op.tmod 6=2 then acceptP s else if x.Op.tmod 6=3 then rejectP s else decideP s (sugP s).1 x.Yes
theorem perform_ok {s:GSession} {n:Nat} (hL:Lt s.Readings n) (hl:s.Decisions.length≤900) (x:GStep):q77 n s x=some (performP s x):=by
 unfold q77 performP
 simp only [Decide_ok hL hl,Undo_ok hl,Accept_ok hL hl,Reject_ok,Suggest_ok hL hl,q08]
 by_cases h0:x.Op.tmod 6=0
 ·simp [h0]
 ·have e0:(x.Op.tmod 6 == 0)=false:=by simpa using h0
  rw [e0,cond_false,if_neg h0]
  by_cases h1:x.Op.tmod 6=1
  ·simp [h1]
  ·have e1:(x.Op.tmod 6 == 1)=false:=by simpa using h1
   rw [e1,cond_false,if_neg h1]
   by_cases h2:x.Op.tmod 6=2
   ·simp [h2]
   ·have e2:(x.Op.tmod 6 == 2)=false:=by simpa using h2
    rw [e2,cond_false,if_neg h2]
    by_cases h3:x.Op.tmod 6=3
    ·simp [h3]
    ·have e3:(x.Op.tmod 6 == 3)=false:=by simpa using h3
     rw [e3,cond_false,if_neg h3]
structure Inv (R:List GDeriv) (k:Nat) (s:GSession):Prop where
 rd:s.Readings=R
 len:s.Decisions.length≤k
 some:rem R s.Decisions≠[]
 one:s.State=1→(rem R s.Decisions).length=1
theorem rem_dropLast {l:List GDeriv} {ds:List GDecision} (h:rem l ds≠[]):rem l ds.dropLast≠[]:=by
 by_cases h0:ds=[]
 ·subst h0; exact h
 ·have e:=List.dropLast_concat_getLast h0
  have hs:(rem l ds).Sublist (rem l ds.dropLast):=by
   have h1:=remF_sub l ds.dropLast [ds.getLast h0] 0
   rw [e] at h1
   exact h1
  intro h2
  rw [h2] at hs
  exact h (List.sublist_nil.1 hs)
theorem qh6 {R:List GDeriv} {k:Nat} {s:GSession} (h:Inv R k s) (p:GProp) (y:Bool):Inv R (k+1) (decideP s p y).1:=by
 have h':Inv R (k+1) s:=⟨h.rd,by have:=h.len; omega,h.some,h.one⟩
 unfold decideP
 split
 ·exact h'
 split
 ·exact h'
 split
 ·exact h'
 split
 ·exact h'
 ·rename_i h1 _ _ h4
  exact ⟨h.rd,by have:=h.len; simp; omega,by rw [← h.rd]; exact h4,fun e=>absurd e (by simp at h1; simp [h1])⟩
theorem performP_inv {R:List GDeriv} {k:Nat} {s:GSession} (h:Inv R k s) (x:GStep):Inv R (k+1) (performP s x).1:=by
 have h':Inv R (k+1) s:=⟨h.rd,by have:=h.len; omega,h.some,h.one⟩
 unfold performP
 split
 ·exact qh6 h _ _
 split
 ·unfold undoP
  split
  ·exact ⟨h.rd,h'.len,h.some,fun e=>by cases e⟩
  split
  ·exact h'
  ·rename_i h1 h2
   exact ⟨h.rd,by have:=h.len; simp; omega,rem_dropLast h.some,fun e=>by simp at h1; rw [h1] at e; cases e⟩
 split
 ·unfold acceptP
  split
  ·exact h'
  split
  ·exact h'
  ·rename_i h1 h2
   exact ⟨h.rd,h'.len,h.some,fun _=>by rw [h.rd] at h2; simpa using h2⟩
 split
 ·unfold rejectP
  split
  ·exact h'
  ·exact ⟨h.rd,h'.len,h.some,fun e=>by cases e⟩
 ·exact qh6 h _ _
end Go.Proofs
end
section
namespace Go.Proofs
open Go Go.Rx Go.Vx Go.Sort
set_option linter.unusedVariables false
set_option linter.unusedSimpArgs false
instance:DecidableEq GDeriv:=fun x y=>decidable_of_iff (ccD x y=0) qdx
theorem Light_L {l:List GDeriv} (hl:l.length≤9223372036854775807) {n:Nat} (hn:∀ d∈l,okG d∧SizeOf.sizeOf d≤n):∀ (m i:Nat) (z:Int),l.length - i<m→i≤l.length→0≤z→z≤200→∃ b,q6d l 50 n m z i=some b∧(b=true→z+nodesL (l.drop i)≤50)
 | 0,i,z,hm,_,_,_=>by omega
 | m+1,i,z,hm,hi,h0,h1=>by
  unfold q6d
  by_cases hlt:i<l.length
  ·obtain ⟨x,hx,hxm⟩:=q25 hlt
   rw [dlt hlt,cond_true,q08]
   by_cases hz:z≤50
   ·obtain ⟨hok,hs⟩:=hn x hxm
    obtain ⟨c,k1,k2,k3,k4⟩:=Nodes_ok _ x (Nat.lt_succ_self _) hok n hs 51 (by omega) (by omega)
    have w:IntKind.i64.wrap ((50:Int)+1)=51:=by rw [wr (by omega) (by omega)]; rfl
    simp only [hz,decide_true,cond_true,q0u,hx,q08,w,k1,wr (show -9223372036854775808≤z+c by omega) (by omega),wr1 hlt hl]
    obtain ⟨b,q1,q2⟩:=Light_L hl hn m (i+1) (z+c) (by omega) (by omega) (by omega) (by omega)
    refine ⟨b,q1,fun hb=>?_⟩
    have:=q2 hb
    rw [qak hx]
    have hc:c<51:=by omega
    have:=k4 hc
    omega
   ·simp only [hz,decide_false,cond_false,q7t]
    exact ⟨false,rfl,fun h=>by cases h⟩
  ·simp only [dnlt hlt,cond_false,q08,q7t,drop_nil' hlt,nodesL]
   exact ⟨_,rfl,fun h=>by simp at h; simp; exact h⟩
theorem light_ok {l:List GDeriv} (hl:l.length≤9223372036854775807) {n:Nat} (hn:∀ d∈l,okG d∧SizeOf.sizeOf d+1001≤n) (hn1:1001≤n) (hll:l.length<n):∃ b,q98 n l=some b∧(b=true→Lt l n∧l.length≤5):=by
 unfold q98
 by_cases h6:(l.length:Int)≤5
 ·obtain ⟨b,h1,h2⟩:=Light_L hl (n:=n) (fun d hd=>⟨(hn d hd).1,by have:=(hn d hd).2; omega⟩) n 0 0 (by omega) (by omega) (by omega) (by omega)
  rw [Int.ofNat_zero] at h1
  simp only [h6,decide_true,cond_true,qam,h1,q08]
  refine ⟨b,rfl,fun h=>?_⟩
  have:=h2 h
  simp at this
  exact ⟨⟨by omega,by omega,fun d hd=>(hn d hd).1,fun d hd=>(hn d hd).2,hn1⟩,by omega⟩
 ·simp only [h6,decide_false,cond_false,q08]
  exact ⟨false,rfl,fun h=>by cases h⟩
def nxtD (c:GDeriv):List GDeriv→List GDeriv
 | []=>[]
 | y::l=>if y=c then nxtD y l else y::nxtD y l
theorem qh0 (x y:GDeriv) (h:ccD x y=0):x=y:=qdx.1 h
theorem dedup_nxtD:∀ (l:List GDeriv) (x:GDeriv),dedup ccD (x::l)=x::nxtD x l
 | [],x=>by simp [dedup,nxtD]
 | y::l,x=>by
  simp only [dedup,nxtD,dedup_nxtD l y]
  by_cases h:y=x
  ·subst h
   simp [qbj.self y]
  ·have:¬ ccD x y=0:=fun e=>h (qdx.1 e).symm
   simp [h,this]
theorem qd9 {p:List GDeriv} (hp:p.length≤1000) {f:GDeriv→GDeriv→Option Bool} (hf:∀ a∈p,∀ b∈p,f a b=some (decide (a=b))) {k0:Nat} (hk0:k0≤p.length):∀ (m k j:Nat) (L:List GDeriv) (c:GDeriv),p.length - (k0+j)<m→1≤j→k0+j≤p.length→k+1≤k0+j→L.length=p.length→L.drop (k0+j - 1)=p.drop (k0+j - 1)→p[k0+j - 1]? = some c →
  q0s p f k0 m k j L=some (L.take k++nxtD c (p.drop (k0+j)))
 | 0,k,j,L,c,hm,_,_,_,_,_,_=>by omega
 | m+1,k,j,L,c,hm,hj,hjl,hk,hL,hd,hc=>by
  have hcm:=List.mem_of_getElem? hc
  have get:∀ q,k0+j - 1≤q→L[q]? = p[q]?:=fun q hq=>by
   have:=congrArg (fun l:List GDeriv=>l[q - (k0+j - 1)]?) hd
   simpa [List.getElem?_drop,show k0+j - 1+(q - (k0+j - 1))=q by omega] using this
  unfold q0s
  by_cases hlt:k0+j<p.length
  ·obtain ⟨x,hx,hxm⟩:=q25 hlt
   have e1:decide ((j:Int)<(((p.length - (k0:Int).toNat):Nat):Int))=true:=by simp; omega
   have i1:idxV L (0+(k0:Int).toNat) (p.length - (k0:Int).toNat) (j:Int)=some x:=by
    unfold idxV
    rw [if_pos ⟨by omega,by simp; omega⟩]
    simp only [Int.toNat_natCast,Nat.zero_add]
    rw [get (k0+j) (by omega),hx]
   have i2:idxV L (0+(k0:Int).toNat) (p.length - (k0:Int).toNat) (IntKind.i64.wrap ((j:Int) - 1))=some c:=by
    rw [wr (by omega) (by omega)]
    unfold idxV
    rw [if_pos ⟨by omega,by simp; omega⟩]
    simp only [Int.toNat_natCast,Nat.zero_add]
    rw [show k0+((j:Int) - 1).toNat=k0+j - 1 by omega,get _ (by omega),hc]
   obtain ⟨w,hw,_⟩:=q25 (show k<L.length by omega)
   have wj:IntKind.i64.wrap ((j:Int)+1)=((j+1:Nat):Int):=wrn (by simp) (by omega)
   have wk:IntKind.i64.wrap ((k:Int)+1)=((k+1:Nat):Int):=wrn (by simp) (by omega)
   simp only [e1,cond_true,i1,i2,q08,q0u,hw,hf x hxm c hcm,q1u,wj,wk,drop_cons' hx,nxtD]
   by_cases hxc:x=c
   ·simp only [hxc,decide_true,Bool.not_true,cond_false,if_true]
    have:=qd9 hp hf hk0 m k (j+1) L x (by omega) (by omega) (by omega) (by omega) hL (by
     have:=congrArg (List.drop 1) hd
     simpa [List.drop_drop,show k0+j - 1+1=k0+j by omega,show k0+(j+1) - 1=k0+j by omega] using this) (by simpa using hx)
    rw [this,hxc]; rfl
   ·simp only [hxc,decide_false,Bool.not_false,cond_true,if_false]
    have:=qd9 hp hf hk0 m (k+1) (j+1) (L.set (0+(k:Int).toNat) x) x (by omega) (by omega) (by omega) (by omega) (by simpa using hL) (by
     have h1:=congrArg (List.drop 1) hd
     simp only [List.drop_drop,show k0+j - 1+1=k0+j by omega] at h1
     rw [show k0+(j+1) - 1=k0+j by omega,← h1]
     rw [List.drop_set]
     simp; omega) (by simpa using hx)
    rw [this]
    have ht:(L.set (0+(k:Int).toNat) x).take (k+1)=L.take k++[x]:=by
     rw [Nat.zero_add,Int.toNat_natCast,List.take_add_one,List.take_set_of_le (Nat.le_refl _)]
     congr 1
     rw [List.getElem?_set]
     simp; omega
    rw [ht,List.append_assoc]; rfl
  ·have hpos:k0+j=p.length:=by omega
   have e1:decide ((j:Int)<(((p.length - (k0:Int).toNat):Nat):Int))=false:=by simp; omega
   have hlen:(clrV L (0+(k:Int).toNat) (L.length - (k:Int).toNat) (GDeriv.mk 0 [] 0 0 [])).length=L.length:=qgb (by simp; omega)
   simp only [e1,cond_false,q2q,hlen]
   rw [q0r ⟨by omega,by omega⟩,q0r (by simp; omega),q0r ⟨by omega,by omega⟩,q0r (by simp; omega),drop_nil' (by omega),nxtD,List.append_nil]
   congr 1
   simp only [Int.toNat_natCast,Nat.zero_add,clrV]
   rw [List.take_append_of_le_length (by simp; omega),List.take_take,Nat.min_self]
theorem qh5 {p:List GDeriv} (hp:p.length≤1000) {f:GDeriv→GDeriv→Option Bool} (hf:∀ a∈p,∀ b∈p,f a b=some (decide (a=b))) {n:Nat} (hn:p.length<n):∀ (m k:Nat) (c:GDeriv),p.length - k<m→1≤k→k≤p.length→p[k - 1]? = some c →
  q1c p f n m k=some (p.take k++nxtD c (p.drop k))
 | 0,k,c,hm,_,_,_=>by omega
 | m+1,k,c,hm,hk1,hk,hc=>by
  have hcm:=List.mem_of_getElem? hc
  unfold q1c
  by_cases hlt:k<p.length
  ·obtain ⟨x,hx,hxm⟩:=q25 hlt
   have i2:idxO p (IntKind.i64.wrap ((k:Int) - 1))=some c:=by
    rw [wrn (k:=k - 1) (by omega) (by omega),q0u,hc]
   simp only [dlt hlt,cond_true,q0u,hx,q08,i2,hf x hxm c hcm,wr1 hlt (show p.length≤9223372036854775807 by omega)]
   by_cases hxc:x=c
   ·simp only [hxc,decide_true,cond_true]
    rw [q0r ⟨by omega,by omega⟩]
    have:=qd9 hp hf (k0:=k) (by omega) n k 1 p x (by omega) (by omega) (by omega) (by omega) rfl rfl (by simpa using hx)
    rw [show ((1:Nat):Int)=1 from rfl] at this
    rw [this,drop_cons' hx,nxtD,if_pos hxc]
   ·simp only [hxc,decide_false,cond_false]
    rw [qh5 hp hf hn m (k+1) x (by omega) (by omega) (by omega) (by simpa using hx),drop_cons' hx,nxtD,if_neg hxc,qia hx,List.append_assoc]
    rfl
  ·simp only [dnlt hlt,cond_false,q2p,drop_nil' hlt,nxtD,List.append_nil]
   rw [List.take_of_length_le (by omega)]
theorem compactD_ok {p:List GDeriv} (hp:p.length≤1000) {f:GDeriv→GDeriv→Option Bool} (hf:∀ a∈p,∀ b∈p,f a b=some (decide (a=b))) {n:Nat} (hn:p.length<n):q1p f n p=some (dedup ccD p):=by
 unfold q1p
 match p,hp,hn,hf with
 | [],_,_,_=>simp [dedup]
 | [x],_,_,_=>simp [dedup]
 | x::y::l,hp,hn,hf =>
  have e:decide (((x::y::l).length:Int)<2)=false:=by simp; omega
  rw [e,cond_false]
  have:=qh5 hp hf hn n 1 x (by omega) (by omega) (by simp) (by simp)
  rw [show ((1:Nat):Int)=1 from rfl] at this
  rw [this,dedup_nxtD]; simp
theorem new1_ok {n:Nat} {a:GDeriv} (ha:okG a) (hn:SizeOf.sizeOf a+10≤n) (b:GDeriv):q67 n a b=some (decide (a=b)):=by
 simp only [q67,qda n a b hn ha,q08]
 congr 1
 rw [Bool.eq_iff_iff,beq_iff_eq,decide_eq_true_eq,qdx]
def rds (l:List GDeriv):List GDeriv:=dedup ccD (srtD l)
def newP (l:List GDeriv):GSession×Int:=if l=[] then (⟨[],[],0⟩,1) else (⟨rds l,[],0⟩,0)
theorem srtD_mem {l:List GDeriv} {x:GDeriv}:x∈srtD l↔x∈l:=(qaa (ltOf ccD) l).mem_iff
theorem rds_mem {l:List GDeriv} {x:GDeriv}:x∈rds l↔x∈l:=by unfold rds; rw [q6p qh0,srtD_mem]
theorem rds_up (l:List GDeriv):Up ccD (rds l):=q9y qbj qh0 (srt_le qbj _)
theorem qe2 {α:Type} {c:α→α→Int}:∀ l:List α,(dedup c l).Sublist l
 | []=>by simp [dedup]
 | [x]=>by simp [dedup]
 | x::y::l=>by
  simp only [dedup]
  split
  ·exact (qe2 (y::l)).cons _
  ·exact (qe2 (y::l)).cons_cons _
theorem nodesL_perm {a b:List GDeriv} (h:a.Perm b):nodesL a=nodesL b:=by
 induction h with
 | nil=>rfl
 | cons x _ ih=>simp only [nodesL,ih]
 | swap x y l=>simp only [nodesL]; omega
 | trans _ _ h1 h2=>rw [h1,h2]
theorem nodesL_sub {a b:List GDeriv} (h:a.Sublist b):nodesL a≤nodesL b:=by
 induction h with
 | slnil=>exact Nat.le_refl _
 | cons x _ ih=>simp only [nodesL]; omega
 | cons_cons x _ ih=>simp only [nodesL]; omega
theorem rds_len (l:List GDeriv):(rds l).length≤l.length:=by
 have h1:=(qe2 (c:=ccD) (srtD l)).length_le
 rw [qgn] at h1
 exact h1
theorem rds_sum (l:List GDeriv):nodesL (rds l)≤nodesL l:=by
 have h1:=nodesL_sub (qe2 (c:=ccD) (srtD l))
 rw [show nodesL (srtD l)=nodesL l from nodesL_perm (qaa (ltOf ccD) l)] at h1
 exact h1
theorem Lt.rds {l:List GDeriv} {n:Nat} (h:Lt l n):Lt (rds l) n:=⟨by have:=rds_len l; have:=h.len; omega,by have:=rds_sum l; have:=h.sum; omega,fun d hd=>h.ok d (rds_mem.1 hd),fun d hd=>h.fuel d (rds_mem.1 hd),h.n1⟩
theorem okGs_of:∀ {l:List GDeriv},(∀ d∈l,okG d)→okGs l
 | [],_=>by simp [okGs]
 | d::l,h=>by simp only [okGs]; exact ⟨h d (by simp),okGs_of fun e he=>h e (by simp [he])⟩
theorem cloneD_ok {l:List GDeriv} (hl:l.length≤1000) (n:Nat):q58 n l=some l:=by
 unfold q58
 cases l with
 | nil=>simp [bothL,needO]
 | cons a l=>simp only [bothL,cond_false]; rw [q0r ⟨by omega,by omega⟩]
theorem New_ok {l:List GDeriv} {n:Nat} (hL:Lt l n):q50 n l=some (newP l):=by
 have h1:=hL.n1
 have h6:=hL.len
 unfold q50 newP
 rw [len0]
 by_cases h:l=[]
 ·simp [h]
 ·have:¬ l.length=0:=fun e=>h (List.length_eq_zero_iff.1 e)
  rw [decide_eq_false this,cond_false,if_neg h,cloneD_ok (by omega),q08,q0r ⟨by omega,(qgi l).2 (okGs_of hL.ok)⟩,compactD_ok (by rw [qgn]; omega) (fun a ha b _=>new1_ok (hL.ok a (srtD_mem.1 ha)) (by have:=hL.fuel a (srtD_mem.1 ha); omega) b) (by rw [qgn]; omega),q08]
  rfl
theorem ints_ok (n:Nat) (a b:Int):q7b n a b=some (cmpI a b):=by
 unfold q7b cmpI
 by_cases h1:a<b
 ·simp [h1]
 ·by_cases h2:b<a
  ·simp [h1,h2]
  ·have:¬ a > b:=h2
   simp [h1,h2,this]
theorem cmpI_ne {a b:Int} (h:¬ a=b):cmpI a b≠0:=fun e=>h (qb7.1 e)
theorem lexL_nil {xs ys:List GDeriv}:∀ i,i≤xs.length→i≤ys.length→¬ (i<xs.length∧i<ys.length)→cmpI (xs.length:Int) (ys.length:Int)=lexL ccD (xs.drop i) (ys.drop i):=fun i h1 h2 h=>by
 by_cases hx:i<xs.length
 ·have hy:¬ i<ys.length:=fun hy=>h ⟨hx,hy⟩
  obtain ⟨x,e,_⟩:=q25 hx
  rw [drop_cons' e,drop_nil' hy,lexL,cmpI,if_neg (by omega),if_pos (by omega)]
 ·by_cases hy:i<ys.length
  ·obtain ⟨y,e,_⟩:=q25 hy
   rw [drop_nil' hx,drop_cons' e,lexL,cmpI,if_pos (by omega)]
  ·rw [drop_nil' hx,drop_nil' hy,lexL,cmpI,if_neg (by omega),if_neg (by omega)]
theorem rcmp_L {x y:GDeriv} {n:Nat} (hl:x.Kids.length≤9223372036854775807) {self:GDeriv→GDeriv→Option Int} (hs:∀ a∈x.Kids,∀ b,self a b=some (ccD a b)):∀ (m i:Nat),x.Kids.length - i<m→i≤x.Kids.length→i≤y.Kids.length →
  q4x x y n self m i=some (lexL ccD (x.Kids.drop i) (y.Kids.drop i))
 | 0,i,hm,_,_=>by omega
 | m+1,i,hm,hi,hj=>by
  unfold q4x
  by_cases hlt:i<x.Kids.length
  ·by_cases hlt2:i<y.Kids.length
   ·obtain ⟨a,ha,ham⟩:=q25 hlt
    obtain ⟨b,hb,_⟩:=q25 hlt2
    simp only [dlt hlt,dlt hlt2,cond_true,q08,q0u,ha,hb,hs a ham b,wr1 hlt hl,drop_cons' ha,drop_cons' hb,lexL]
    by_cases e:ccD a b=0
    ·simp only [e,bne_self_eq_false,cond_false,ne_eq,not_true,if_false]
     exact rcmp_L hl hs m (i+1) (by omega) (by omega) (by omega)
    ·have:(ccD a b != 0)=true:=by simpa using e
     simp only [this,cond_true,ne_eq,e,not_false_eq_true,if_true]
   ·simp only [dlt hlt,dnlt hlt2,cond_true,cond_false,q08,q60,ints_ok,lexL_nil i hi hj (fun h=>hlt2 h.2)]
  ·simp only [dnlt hlt,cond_false,q08,q60,ints_ok,lexL_nil i hi hj (fun h=>hlt h.1)]
theorem qek:∀ (n:Nat) (x y:GDeriv),SizeOf.sizeOf x+10≤n→okG x→q3m n x y=some (ccD x y)
 | 0,x,y,h,_=>by omega
 | n+1,x,y,h,hok=>by
  have hkl:=qhk x
  have hk:=rcmp_L (x:=x) (y:=y) (n:=n) (qhq hok) (self:=q3m n) (fun a ha b=>qek n a b (by have:=kid_lt x ha; omega) (qhp hok ha)) n 0 (by omega) (by omega) (by omega)
  rw [Int.ofNat_zero,List.drop_zero,List.drop_zero] at hk
  simp only [q3m,qal,ints_ok,q08,hk]
  rw [ccD_eq]
  simp only [hdD,lexC]
  by_cases e1:x.From=y.From
  ·have b1:(x.From != y.From)=false:=by simp [e1]
   have c1:cmpI x.From y.From=0:=qb7.2 e1
   rw [b1,cond_false]
   simp only [c1,ne_eq,not_true,if_false]
   by_cases e2:x.To=y.To
   ·have b2:(x.To != y.To)=false:=by simp [e2]
    have c2:cmpI x.To y.To=0:=qb7.2 e2
    rw [b2,cond_false]
    simp only [c2,ne_eq,not_true,if_false]
    by_cases e3:x.Kind=y.Kind
    ·have b3:(x.Kind != y.Kind)=false:=by simp [e3]
     have c3:cmpI x.Kind y.Kind=0:=qb7.2 e3
     rw [b3,cond_false]
     simp only [c3,ne_eq,not_true,if_false]
     by_cases e4:x.Name=y.Name
     ·have b4:(!bytesEq x.Name y.Name)=false:=by rw [(q93 _ _).2 e4]; rfl
      have c4:cmpS x.Name y.Name=0:=qe0.2 e4
      rw [b4,cond_false]
      simp only [c4,not_true,if_false]
     ·have b4:(!bytesEq x.Name y.Name)=true:=by
       cases hb:bytesEq x.Name y.Name with
       | false=>rfl
       | true=>exact absurd ((q93 _ _).1 hb) e4
      have c4:cmpS x.Name y.Name≠0:=fun e=>e4 (qe0.1 e)
      rw [b4,cond_true,if_pos c4]
      unfold cmpS
      cases hb:bytesLt x.Name y.Name with
      | true=>simp
      | false =>
       cases hb2:bytesLt y.Name x.Name with
       | true=>simp
       | false=>exact absurd (q74 _ _ hb hb2) e4
    ·have b3:(x.Kind != y.Kind)=true:=by simpa using e3
     rw [b3,cond_true]
     simp [cmpI_ne e3]
   ·have b2:(x.To != y.To)=true:=by simpa using e2
    rw [b2,cond_true]
    simp [cmpI_ne e2]
  ·have b1:(x.From != y.From)=true:=by simpa using e1
   rw [b1,cond_true]
   simp [cmpI_ne e1]
theorem qi6 {p:List GDeriv} {n i:Nat} {x:GDeriv} (hx:p[i]? = some x) (hok:okG x) (hf:SizeOf.sizeOf x+10≤n) {l:List GDeriv} (hl:l.length≤1000) {rc:Int→List GDeriv→Option (GSession×Int)}:∀ (m k:Nat) (a:List GDeriv),l.length - k<m→k≤l.length→a.length+(l.length - k)≤2000 →
  q3v p n i l rc m true k a=rc (IntKind.i64.wrap ((i:Int)+1)) (a++l.drop k)
 | 0,k,a,hm,_,_=>by omega
 | m+1,k,a,hm,hk,ha=>by
  unfold q3v
  by_cases hlt:k<l.length
  ·obtain ⟨y,hy,_⟩:=q25 hlt
   simp only [dlt hlt,cond_true,q0u,hx,hy,q08,qek n x y hf hok,Bool.not_true,cond_false,q8d,wr1 hlt (show l.length≤9223372036854775807 by omega)]
   rw [q0r ⟨by omega,by omega⟩,qi6 hx hok hf hl m (k+1) (a++[y]) (by omega) (by omega) (by simp; omega),drop_cons' hy,List.append_assoc]
   rfl
  ·simp only [dnlt hlt,cond_false,q9v,Bool.not_true,q8c,drop_nil' hlt,List.append_nil]
theorem rnew_L2 {p:List GDeriv} {n i:Nat} {x:GDeriv} (hx:p[i]? = some x) (hok:okG x) (hf:SizeOf.sizeOf x+10≤n) {l:List GDeriv} (hl:l.length≤1000) {rc:Int→List GDeriv→Option (GSession×Int)}:∀ (m k:Nat) (a:List GDeriv),l.length - k<m→k≤l.length→a.length+(l.length - k)≤1000 →
  q3v p n i l rc m false k a=rc (IntKind.i64.wrap ((i:Int)+1)) (a++insU ccD x (l.drop k))
 | 0,k,a,hm,_,_=>by omega
 | m+1,k,a,hm,hk,ha=>by
  unfold q3v
  by_cases hlt:k<l.length
  ·obtain ⟨y,hy,_⟩:=q25 hlt
   simp only [dlt hlt,cond_true,q0u,hx,hy,q08,qek n x y hf hok,Bool.not_false,q8d,q9u,wr1 hlt (show l.length≤9223372036854775807 by omega),drop_cons' hy,insU]
   by_cases h1:ccD x y<0
   ·have h2:ccD x y≤0:=by omega
    simp only [h1,h2,decide_true,cond_true,if_true]
    rw [q0r ⟨by omega,by omega⟩,q0r (by simp; omega),qi6 hx hok hf hl m (k+1) _ (by omega) (by omega) (by simp; omega)]
    simp
   ·by_cases h2:ccD x y=0
    ·have h3:ccD x y≤0:=by omega
     simp only [h1,h2,h3,decide_true,decide_false,cond_true,cond_false,if_true,if_false,Int.lt_irrefl,Int.le_refl]
     rw [q0r ⟨by omega,by omega⟩,qi6 hx hok hf hl m (k+1) _ (by omega) (by omega) (by simp; omega)]
     simp
    ·have h3:¬ ccD x y≤0:=by omega
     simp only [h1,h2,h3,decide_false,cond_false,if_false]
     rw [q0r ⟨by omega,by omega⟩,rnew_L2 hx hok hf hl m (k+1) _ (by omega) (by omega) (by simp; omega)]
     simp
  ·simp only [dnlt hlt,cond_false,q9v,Bool.not_false,cond_true,q0u,hx,q08,q8c,drop_nil' hlt,insU]
   rw [q0r ⟨by omega,by omega⟩]
def addD (l ps:List GDeriv):List GDeriv:=ps.foldl (fun a p=>insU ccD p a) l
theorem addD_up:∀ (ps:List GDeriv) {l:List GDeriv},Up ccD l→Up ccD (addD l ps)
 | [],l,h=>h
 | p::ps,l,h=>addD_up ps (insU_up qbj qh0 p h)
theorem addD_mem:∀ (ps l:List GDeriv) (x:GDeriv),x∈addD l ps↔x∈l∨x∈ps
 | [],l,x=>by simp [addD]
 | p::ps,l,x=>by
  have:=addD_mem ps (insU ccD p l) x
  simp only [addD,List.foldl_cons] at this ⊢
  rw [this,qgf qh0]
  simp only [List.mem_cons]
  constructor
  ·rintro ((h | h) | h)<;>simp [h]
  ·rintro (h | h | h)<;>simp [h]
theorem rnew_L1 {p:List GDeriv} {n:Nat} (hL:Lt p n):∀ (m i:Nat) (a:List GDeriv),p.length - i<m→i≤p.length→a.length≤i→q3u p n m i a=some (⟨addD a (p.drop i),[],0⟩,0)
 | 0,i,a,hm,_,_=>by omega
 | m+1,i,a,hm,hi,ha=>by
  have h1:=hL.n1
  have h6:=hL.len
  unfold q3u
  by_cases hlt:i<p.length
  ·obtain ⟨x,hx,hxm⟩:=q25 hlt
   have h2:=rnew_L2 hx (hL.ok x hxm) (n:=n) (by have:=hL.fuel x hxm; omega) (l:=a) (by omega) (rc:=q3u p n m) n 0 [] (by omega) (by omega) (by simp; omega)
   have hil:=qbo (c:=ccD) x a
   rw [Int.ofNat_zero] at h2
   rw [dlt hlt,cond_true,h2,List.nil_append,List.drop_zero,wr1 hlt (show p.length≤9223372036854775807 by omega),rnew_L1 hL m (i+1) (insU ccD x a) (by omega) (by omega) (by omega),drop_cons' hx]
   rfl
  ·simp only [dnlt hlt,cond_false,qax,drop_nil' hlt]; rfl
theorem refNew_ok {l:List GDeriv} {n:Nat} (hL:Lt l n):qbc n l=some (newP l):=by
 have h1:=hL.n1
 have h6:=hL.len
 unfold qbc newP
 rw [len0]
 by_cases h:l=[]
 ·simp [h]
 ·have h0:¬ l.length=0:=fun e=>h (List.length_eq_zero_iff.1 e)
  have h2:=rnew_L1 hL n 0 [] (by omega) (by omega) (by simp)
  rw [Int.ofNat_zero,List.drop_zero] at h2
  have e:addD [] l=rds l:=Up.ext qbj qh0 (addD_up l (by simp [Up])) (rds_up l) fun x=>by rw [addD_mem,rds_mem]; simp
  rw [decide_eq_false h0,cond_false,if_neg h,h2,e]
theorem Derivs_L {a:List GDeriv} {n:Nat} (hL:Lt a n):∀ (m i:Nat),a.length - i<m→i≤a.length→q5o a a n m i=some true
 | 0,i,hm,_=>by omega
 | m+1,i,hm,hi=>by
  have h6:=hL.len
  unfold q5o
  by_cases hlt:i<a.length
  ·obtain ⟨x,hx,hxm⟩:=q25 hlt
   simp only [dlt hlt,cond_true,q0u,hx,q08,qek n x x (by have:=hL.fuel x hxm; omega) (hL.ok x hxm),qbj.self x,bne_self_eq_false,cond_false,wr1 hlt (show a.length≤9223372036854775807 by omega)]
   exact Derivs_L hL m (i+1) (by omega) (by omega)
  ·simp only [dnlt hlt,cond_false,q8v]
theorem Same_ok {s:GSession} {n:Nat} (hL:Lt s.Readings n) (hd:s.Decisions.length≤900):qad n s s=some true:=by
 have h1:=hL.n1
 have h6:=hL.len
 have h2:=Derivs_L hL n 0 (by omega) (by omega)
 rw [Int.ofNat_zero] at h2
 simp only [qad,beq_self_eq_true,cond_true,qfz (a:=s.Decisions) (b:=s.Decisions) (by omega) (n:=n) (by omega),decide_true,q08,q9t,bne_self_eq_false,cond_false,h2]
end Go.Proofs
end
section
namespace Go.Proofs
open Go Go.Rx Go.Vx Go.Sort
set_option linter.unusedVariables false
set_option linter.unusedSimpArgs false
theorem ex_ok (m:Nat):q32 (m+60)=some true:=by kernel_rfl
theorem ex_n {n:Nat} (h:60≤n):q32 n=some true:=by
 obtain ⟨m,rfl⟩:∃ m,n=m+60:=⟨n - 60,by omega⟩
 exact ex_ok m
theorem q01 {l:List GDeriv} (hok:okGs l) {n:Nat} (hn:SizeOf.sizeOf l+1001≤n):∀ d∈l,okG d∧SizeOf.sizeOf d+1001≤n:=fun d hd=>⟨qgj hok d hd,by have:=List.sizeOf_lt_of_mem hd; omega⟩
theorem remF_nil:∀ (l:List GDeriv) (i:Nat),(remF l [] i).length=l.length
 | [],i=>rfl
 | d::l,i=>by simp only [remF,List.length_append,remF_nil l (i+1)]; simp [agree]; omega
theorem rds_ne {l:List GDeriv} (h:l≠[]):rds l≠[]:=fun e=>by
 cases l with
 | nil=>exact h rfl
 | cons d l=>have:d∈rds (d::l):=rds_mem.2 (by simp); rw [e] at this; cases this
theorem Inv.first {l:List GDeriv} (h:l≠[]):Inv (rds l) 0 ⟨rds l,[],0⟩ :=
 ⟨rfl,by simp,fun e=>rds_ne h (List.length_eq_zero_iff.1 (by rw [← remF_nil (rds l) 0]; exact List.length_eq_zero_iff.2 e)),fun e=>by cases e⟩
theorem more_L {ds:List GDecision} (hl:ds.length≤900) (x:GDecision):∀ (m i:Nat) (a:List GDecision),ds.length - i<m→i≤ds.length→a.length≤i→q7e ds x m i a=some (a++ds.drop i++[x])
 | 0,i,a,hm,_,_=>by omega
 | m+1,i,a,hm,hi,ha=>by
  unfold q7e
  by_cases hlt:i<ds.length
  ·obtain ⟨y,hy,_⟩:=q25 hlt
   simp only [dlt hlt,cond_true,q0u,hy,q08,wr1 hlt (show ds.length≤9223372036854775807 by omega)]
   rw [q0r ⟨by omega,by omega⟩,more_L hl x m (i+1) (a++[y]) (by omega) (by omega) (by simp; omega),drop_cons' hy]
   simp
  ·simp only [dnlt hlt,cond_false,qa6,drop_nil' hlt,List.append_nil]
   rw [q0r ⟨by omega,by omega⟩]
theorem more_ok {ds:List GDecision} (hl:ds.length≤900) (x:GDecision) {n:Nat} (hn:1001≤n):qaf n ds x=some (ds++[x]):=by
 have:=more_L hl x n 0 [] (by omega) (by omega) (by simp)
 simpa [qaf] using this
theorem rDecide_ok {s:GSession} {n:Nat} (hL:Lt s.Readings n) (hl:s.Decisions.length≤900) (p:GProp) (y:Bool):q70 n s p y=some (decideP s p y):=by
 have h1:=hL.n1
 have hs:=hL.sum
 have hdl:=qdc s.Readings
 unfold q70 decideP
 by_cases h0:s.State=0
 ·have e0:(s.State != 0)=false:=by simp [h0]
  rw [e0,cond_false,if_neg (by simp [h0]),qdl hL,q08,Has_ok (show (dsc s.Readings).length≤9223372036854775807 by omega) (by omega) p,q08]
  by_cases h2:p∈dsc s.Readings
  ·rw [if_neg (by simp [h2])]
   simp only [h2,decide_true,Bool.not_true,cond_false,qa7 (show s.Decisions.length≤1000 by omega) p h1,q08]
   cases hd:isDec s.Decisions p with
   | true=>simp
   | false =>
    rw [cond_false,more_ok hl _ h1,q08,q8w hL (by simp; omega),q08,len0,if_neg (by simp)]
    by_cases h3:rem s.Readings (s.Decisions++[⟨p,y⟩])=[]
    ·simp [h3]
    ·have:¬ (rem s.Readings (s.Decisions++[⟨p,y⟩])).length=0:=fun h=>h3 (List.length_eq_zero_iff.1 h)
     simp only [this,decide_false,cond_false,if_neg h3]
  ·rw [if_pos h2]; simp [h2]
 ·have e0:(s.State != 0)=true:=by simpa using h0
  rw [e0,cond_true,if_pos h0]
theorem rAccept_ok {s:GSession} {n:Nat} (hL:Lt s.Readings n) (hl:s.Decisions.length≤900):q8b n s=some (acceptP s):=by
 unfold q8b acceptP
 by_cases h0:s.State=0
 ·have e0:(s.State != 0)=false:=by simp [h0]
  rw [e0,cond_false,if_neg (by simp [h0]),q8w hL (by omega),q08]
  by_cases h:(rem s.Readings s.Decisions).length=1
  ·have e:(((rem s.Readings s.Decisions).length:Int) != 1)=false:=by simp [h]
   rw [e,cond_false,if_neg (by simp [h])]
  ·have e:(((rem s.Readings s.Decisions).length:Int) != 1)=true:=by simp; omega
   rw [e,cond_true,if_pos h]
 ·have e0:(s.State != 0)=true:=by simpa using h0
  rw [e0,cond_true,if_pos h0]
theorem rReject_ok (s:GSession) (n:Nat):q8e n s=some (rejectP s):=by
 unfold q8e rejectP
 by_cases h0:s.State=0
 ·have e0:(s.State != 0)=false:=by simp [h0]
  rw [e0,cond_false,if_neg (by simp [h0])]
 ·have e0:(s.State != 0)=true:=by simpa using h0
  rw [e0,cond_true,if_pos h0]
theorem rUndo_ok {s:GSession} (hl:s.Decisions.length≤900) (n:Nat):qae n s=some (undoP s):=by
 unfold qae undoP
 by_cases h0:s.State=0
 ·have e0:(s.State != 0)=false:=by simp [h0]
  rw [e0,cond_false,if_neg (by simp [h0]),len0]
  by_cases h:s.Decisions=[]
  ·simp [h]
  ·have:¬ s.Decisions.length=0:=fun e=>h (List.length_eq_zero_iff.1 e)
   simp only [this,decide_false,cond_false,if_neg h,cutLast h (show s.Decisions.length≤1000 by omega),q08]
 ·have e0:(s.State != 0)=true:=by simpa using h0
  rw [e0,cond_true,if_pos h0]
theorem rsug_L {s:GSession} {n:Nat} (hL:Lt s.Readings n) (hl:s.Decisions.length≤900) {ps:List GProp} (hps:ps.length≤500):∀ (m i:Nat) (f:Bool) (a:Int) (q:GProp),ps.length - i<m→i≤ps.length →
  q39 s n ps (rem s.Readings s.Decisions) (impl s.Readings s.Decisions) m f a i q.Kind q.Name q.From q.To=(let r:=(ps.drop i).foldl (sugS s.Readings s.Decisions) (f,a,q); some (r.2.2,r.1))
 | 0,i,f,a,q,hm,_=>by omega
 | m+1,i,f,a,q,hm,hi=>by
  have h1:=hL.n1
  have hs:=hL.sum
  have h6:=hL.len
  have hil:=impl_len s.Readings s.Decisions
  have hrl:=rem_len s.Readings s.Decisions
  unfold q39
  by_cases hlt:i<ps.length
  ·obtain ⟨p,hp,_⟩:=q25 hlt
   have ih:=fun f a q=>rsug_L hL hl hps m (i+1) f a q (by omega) (by omega)
   simp only [dlt hlt,cond_true,q0u,hp,q08,qa7 (show s.Decisions.length≤1000 by omega) p h1,wr1 hlt (show ps.length≤9223372036854775807 by omega),drop_cons' hp,List.foldl_cons]
   cases hd:isDec s.Decisions p with
   | true=>simp only [cond_true,q08,ih]; simp [sugS,hd]
   | false =>
    simp only [cond_false,qa7 (ds:=impl s.Readings s.Decisions) (by omega) p h1,q08]
    cases he:isDec (impl s.Readings s.Decisions) p with
    | true=>simp only [cond_true,ih]; simp [sugS,he]
    | false =>
     have hc:=cntR_le s.Readings (rem s.Readings s.Decisions) p
     have w2:IntKind.i64.wrap ((cntR s.Readings (rem s.Readings s.Decisions) p:Int) - IntKind.i64.wrap (((rem s.Readings s.Decisions).length:Int) - (cntR s.Readings (rem s.Readings s.Decisions) p:Int)))=2*(cntR s.Readings (rem s.Readings s.Decisions) p:Int) - ((rem s.Readings s.Decisions).length:Int):=by
      rw [wr (z:=((rem s.Readings s.Decisions).length:Int) - (cntR s.Readings (rem s.Readings s.Decisions) p:Int)) (by omega) (by omega),wr (by omega) (by omega)]; omega
     have w3:IntKind.i64.wrap (0 - (2*(cntR s.Readings (rem s.Readings s.Decisions) p:Int) - ((rem s.Readings s.Decisions).length:Int))) = -(2*(cntR s.Readings (rem s.Readings s.Decisions) p:Int) - ((rem s.Readings s.Decisions).length:Int)):=by rw [wr (by omega) (by omega)]; omega
     simp only [cond_false,With_ok hL (rem_idx s.Readings s.Decisions) (show (rem s.Readings s.Decisions).length≤6 by omega) p,q08,w2,qcg,w3,q62,wr1 hlt (show ps.length≤9223372036854775807 by omega),ih]
     have hA:(if -(2*(cntR s.Readings (rem s.Readings s.Decisions) p:Int) - ((rem s.Readings s.Decisions).length:Int)) > 2*(cntR s.Readings (rem s.Readings s.Decisions) p:Int) - ((rem s.Readings s.Decisions).length:Int) then -(2*(cntR s.Readings (rem s.Readings s.Decisions) p:Int) - ((rem s.Readings s.Decisions).length:Int)) else 2*(cntR s.Readings (rem s.Readings s.Decisions) p:Int) - ((rem s.Readings s.Decisions).length:Int))=absI (2*(cntR s.Readings (rem s.Readings s.Decisions) p:Int) - ((rem s.Readings s.Decisions).length:Int)):=rfl
     rw [hA]
     generalize hz:absI (2*(cntR s.Readings (rem s.Readings s.Decisions) p:Int) - ((rem s.Readings s.Decisions).length:Int))=z
     have hS:sugS s.Readings s.Decisions (f,a,q) p=if f=false∨z<a then (true,z,p) else (f,a,q):=by simp only [sugS,hd,he,hz]; simp
     rw [hS]
     cases f with
     | false=>simp
     | true =>
      simp only [Bool.not_true,cond_false,q08]
      by_cases hlt2:z<a
      ·simp [hlt2]
      ·simp [hlt2]
  ·simp only [dnlt hlt,cond_false,q81,drop_nil' hlt,List.foldl_nil]
theorem qhu {s:GSession} {n:Nat} (hL:Lt s.Readings n) (hl:s.Decisions.length≤900):q5w n s=some (sugP s):=by
 have h1:=hL.n1
 have hs:=hL.sum
 have hdl:=qdc s.Readings
 have h:=rsug_L hL hl (ps:=dsc s.Readings) (by omega) n 0 false 0 ⟨0,[],0,0⟩ (by omega) (by omega)
 rw [Int.ofNat_zero] at h
 simp only [q5w,refImplied_ok hL (show s.Decisions.length≤1000 by omega),q8w hL (show s.Decisions.length≤1000 by omega),q08,qdl hL,h]
 rfl
theorem spec_ok {s:GSession} {n:Nat} (hL:Lt s.Readings n) (hl:s.Decisions.length≤900) (x:GStep):q5l n s x=some (performP s x):=by
 unfold q5l performP
 simp only [rDecide_ok hL hl,rUndo_ok hl,rAccept_ok hL hl,rReject_ok,qhu hL hl,q08]
 by_cases h0:x.Op.tmod 6=0
 ·simp [h0]
 ·have e0:(x.Op.tmod 6 == 0)=false:=by simpa using h0
  rw [e0,cond_false,if_neg h0]
  by_cases h1:x.Op.tmod 6=1
  ·simp [h1]
  ·have e1:(x.Op.tmod 6 == 1)=false:=by simpa using h1
   rw [e1,cond_false,if_neg h1]
   by_cases h2:x.Op.tmod 6=2
   ·simp [h2]
   ·have e2:(x.Op.tmod 6 == 2)=false:=by simpa using h2
    rw [e2,cond_false,if_neg h2]
    by_cases h3:x.Op.tmod 6=3
    ·simp [h3]
    ·have e3:(x.Op.tmod 6 == 3)=false:=by simpa using h3
     rw [e3,cond_false,if_neg h3]
theorem runs_L {R:List GDeriv} {n:Nat} (hL:Lt R n) {ps:List GStep} (hps:ps.length≤100):∀ (m i k:Nat) (s:GSession),ps.length - i<m→i≤ps.length→Inv R k s→k≤i →
  q3c ps n m i s.Readings s.Decisions s.State s.Readings s.Decisions s.State=some true
 | 0,i,k,s,hm,_,_,_=>by omega
 | m+1,i,k,s,hm,hi,hI,hk=>by
  have hil:=hI.len
  have h1:=hL.n1
  unfold q3c
  by_cases hlt:i<ps.length
  ·obtain ⟨x,hx,_⟩:=q25 hlt
   have hLs:Lt s.Readings n:=by rw [hI.rd]; exact hL
   have hI2:=performP_inv hI x
   have hil2:=hI2.len
   have hL2:Lt (performP s x).1.Readings n:=by rw [hI2.rd]; exact hL
   have hp:=perform_ok (s:=s) hLs (by omega) x
   have hq:=spec_ok (s:=s) hLs (by omega) x
   have hs:=Suggest_ok (s:=s) hLs (by omega)
   have ht:=qhu (s:=s) hLs (by omega)
   have hsame:=Same_ok (s:=(performP s x).1) hL2 (by omega)
   have ih:=runs_L hL hps m (i+1) (k+1) (performP s x).1 (by omega) (by omega) hI2 (by omega)
   have eta:GSession.mk s.Readings s.Decisions s.State=s:=rfl
   have eta2:GSession.mk (performP s x).1.Readings (performP s x).1.Decisions (performP s x).1.State=(performP s x).1:=rfl
   simp only [dlt hlt,cond_true,q0u,hx,q08,eta,hs,ht,eqP_self,Bool.not_true,cond_false,beq_self_eq_true,hp,hq,bne_self_eq_false,eta2,hsame,wr1 hlt (show ps.length≤9223372036854775807 by omega),ih]
  ·simp only [dnlt hlt,cond_false,q53,ex_n (show 60≤n by omega),q08]
theorem runs_law {l:List GDeriv} (hl:l.length≤9223372036854775807) (hok:okGs l) (ps:List GStep) {n:Nat} (hn:SizeOf.sizeOf l+1001≤n):q6i n l ps=some true:=by
 have hll:=qbp l
 obtain ⟨b,h1,h2⟩:=light_ok hl (q01 hok hn) (by omega) (by omega)
 simp only [q6i,h1,q08,ex_n (show 60≤n by omega)]
 cases b with
 | false=>simp
 | true =>
  obtain ⟨hL,h5⟩:=h2 rfl
  simp only [Bool.not_true,cond_false,q08]
  by_cases hps:ps.length≤10
  ·have e:decide ((ps.length:Int) > 10)=false:=by simp; omega
   simp only [e,cond_false,New_ok hL,refNew_ok hL,q08,bne_self_eq_false]
   by_cases h:l=[]
   ·subst h; simp [newP]
   ·have e:newP l=(⟨rds l,[],0⟩,0):=by unfold newP; rw [if_neg h]
    have h3:=runs_L hL.rds (ps:=ps) (by omega) n 0 0 ⟨rds l,[],0⟩ (by omega) (by omega) (Inv.first h) (by omega)
    rw [Int.ofNat_zero] at h3
    rw [e]
    simp only [bne_self_eq_false,cond_false]
    exact h3
  ·have e:decide ((ps.length:Int) > 10)=true:=by simp; omega
   simp only [e,cond_true]
end Go.Proofs
end
