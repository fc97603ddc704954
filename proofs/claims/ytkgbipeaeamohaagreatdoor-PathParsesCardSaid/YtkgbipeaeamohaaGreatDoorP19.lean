/-
  Texts of the walk: K2 K3 K4 K5 Q7.
-/
import Derived.Test.YtkgbipeaeamohaaGreatDoorP18
set_option linter.unusedSimpArgs false
set_option linter.unusedVariables false
section
namespace Go.Proofs
open Go Go.Rx Go.Vx Go.Shelf Go.Sort
set_option maxRecDepth 10000
theorem wu {a:Nat} (h:a<18446744073709551616):IntKind.u64.wrap (a:Int)=(a:Int):=by
 simp only [IntKind.wrap,IntKind.bits,IntKind.signed]
 simp
 omega
theorem andN {a b:Nat} (ha:a<18446744073709551616) (hb:b<18446744073709551616):qz2 .u64 (a:Int) (b:Int)=((a &&& b:Nat):Int):=by
 have h:(BitVec.ofInt 64 (a:Int) &&& BitVec.ofInt 64 (b:Int)).toNat=a &&& b:=by
  simp only [BitVec.ofInt_natCast,BitVec.toNat_and,BitVec.toNat_ofNat]
  rw [Nat.mod_eq_of_lt ha,Nat.mod_eq_of_lt hb]
 show IntKind.u64.wrap (((BitVec.ofInt 64 (a:Int) &&& BitVec.ofInt 64 (b:Int)).toNat:Nat):Int)=_
 rw [h]
 exact wu (Nat.lt_of_le_of_lt Nat.and_le_left ha)
theorem orN {a b:Nat} (ha:a<18446744073709551616) (hb:b<18446744073709551616):orI .u64 (a:Int) (b:Int)=((a ||| b:Nat):Int):=by
 have h:(BitVec.ofInt 64 (a:Int) ||| BitVec.ofInt 64 (b:Int)).toNat=a ||| b:=by
  simp only [BitVec.ofInt_natCast,BitVec.toNat_or,BitVec.toNat_ofNat]
  rw [Nat.mod_eq_of_lt ha,Nat.mod_eq_of_lt hb]
 show IntKind.u64.wrap (((BitVec.ofInt 64 (a:Int) ||| BitVec.ofInt 64 (b:Int)).toNat:Nat):Int)=_
 rw [h]
 exact wu (Nat.or_lt_two_pow (n:=64) ha hb)
theorem notN {a b:Nat} (ha:a<18446744073709551616) (hb:b<18446744073709551616):∃ c:Nat,qgz .u64 (a:Int) (b:Int)=(c:Int)∧(c=0↔a &&& b=a):=by
 refine ⟨(BitVec.ofInt 64 (a:Int) &&& ~~~ BitVec.ofInt 64 (b:Int)).toNat,?_,?_⟩
 ·exact wu (BitVec.isLt _)
 ·have h1:(BitVec.ofInt 64 (a:Int) &&& BitVec.ofInt 64 (b:Int)).toNat=a &&& b:=by
   simp only [BitVec.ofInt_natCast,BitVec.toNat_and,BitVec.toNat_ofNat]
   rw [Nat.mod_eq_of_lt ha,Nat.mod_eq_of_lt hb]
  have h2:(BitVec.ofInt 64 (a:Int)).toNat=a:=by
   simp only [BitVec.ofInt_natCast,BitVec.toNat_ofNat]
   exact Nat.mod_eq_of_lt ha
  generalize BitVec.ofInt 64 (a:Int)=x at *
  generalize BitVec.ofInt 64 (b:Int)=y at *
  rw [← h1]
  constructor
  ·intro h
   have h3:x &&& ~~~ y=0#64:=BitVec.eq_of_toNat_eq (by simpa using h)
   have:x &&& y=x:=by
    ext i hi
    have:=congrArg (fun z=>z.getLsbD i) h3
    simp [hi] at this ⊢
    intro hx
    exact this hx
   rw [this,h2]
  ·intro h
   have h3:x &&& y=x:=BitVec.eq_of_toNat_eq (by rw [h,h2])
   have:x &&& ~~~ y=0#64:=by
    ext i hi
    have:=congrArg (fun z=>z.getLsbD i) h3
    simp [hi] at this ⊢
    intro hx
    exact this hx
   rw [this]
   rfl
def bt (w:Nat):List Int:=if w=0 then [] else [(w:Int)]
theorem qza:bt 0=[]:=rfl
theorem qpf {w:Nat} (h:w≠0):bt w=[(w:Int)]:=if_neg h
theorem qzb {w:Nat}:((bt w).length:Int)=0↔w=0:=by
 by_cases h:w=0
 ·simp [h,bt]
 ·simp [h,bt]
theorem qum {w:Nat} {k:Nat} (hk:k≤1000):∀ (j m:Nat),j≤k→j+2≤m→q2d ((w:Int)::List.replicate k 0) m ((j+1:Nat):Int)=some (bt w)
 | 0,0,_,h=>by omega
 | 0,1,_,h=>by omega
 | 0,m+2,_,_=>by
  have e0:IntKind.i64.wrap (((0+1:Nat):Int) - 1)=0:=wr (z:=0) (by omega) (by omega)
  have e1:q0o ((w:Int)::List.replicate k 0) 0=some (w:Int):=by simp [q0o]
  have e2:decide (((0+1:Nat):Int) > 0)=true:=by simp
  have c0:=qwj (l:=(w:Int)::List.replicate k 0) (b:=0) (by simp)
  have c1:=qwj (l:=(w:Int)::List.replicate k 0) (b:=1) (by simp)
  rw [Int.ofNat_zero,List.take_zero] at c0
  rw [q2d,e2,e0,cond_true,e1,q04,q04]
  by_cases hw:w=0
  ·have:((w:Int) == 0)=true:=by simp [hw]
   rw [this,cond_true,q2d]
   simp only [Int.lt_irrefl,decide_false,cond_false,q04,q4r,c0,show ((0:Int) > 0)=False by simp]
   rw [ned (by simp),hw,qza]
  ·have:((w:Int) == 0)=false:=by simp [hw]
   rw [this,cond_false,q4r,show ((0+1:Nat):Int)=((1:Nat):Int) by simp,c1,q04,ned (by simp),qpf hw]
   rfl
 | j+1,m,hj,hm=>by
  obtain ⟨m,rfl⟩:∃ q,m=q+1:=⟨m - 1,by omega⟩
  have e0:IntKind.i64.wrap (((j+1+1:Nat):Int) - 1)=((j+1:Nat):Int):=wrn (by omega) (by omega)
  have e1:q0o ((w:Int)::List.replicate k 0) ((j+1:Nat):Int)=some 0:=by
   rw [q0b,List.getElem?_cons_succ,List.getElem?_replicate,if_pos (by omega)]
  have e2:decide (((j+1+1:Nat):Int) > 0)=true:=by simp; omega
  rw [q2d,e2,e0,cond_true,e1,q04,q04]
  exact qum hk j m (by omega) (by omega)
theorem qup {w n:Nat} (hn:5≤n):q2t n [(w:Int)]=some (bt w):=qum (k:=0) (by omega) 0 n (by omega) (by omega)
theorem qun {n:Nat} (hn:5≤n):q2t n []=some []:=by
 obtain ⟨k,rfl⟩:=Nat.exists_eq_add_of_le' hn
 rfl
theorem qzw {w n:Nat} (hn:5≤n):q2t n (bt w)=some (bt w):=by
 by_cases h:w=0
 ·subst h; exact qun hn
 ·rw [qpf h,qup hn,qpf h]
theorem qvu (b n:Nat):q7r n (bt b) 0=some (b:Int):=by
 by_cases h:b=0
 ·subst h; rfl
 ·rw [qpf h]; rfl
theorem qxy {a b n:Nat} (ha:a<4096) (hb:b<4096) (hn:5≤n):qa8 n (bt a) (bt b)=some (bt (a &&& b)):=by
 obtain ⟨k,rfl⟩:=Nat.exists_eq_add_of_le' hn
 by_cases h:a=0
 ·subst h
  rw [Nat.zero_and]
  have:=qun (n:=k+5) hn
  simp only [qa8,qza,q8u,List.length_nil,q6i,this,q04]
  rfl
 ·have h1:=andN (a:=a) (b:=b) (by omega) (by omega)
  have h2:=qup (w:=a &&& b) (n:=k+5) hn
  have e:qa8 (k+5) [(a:Int)] (bt b)=q03 (q7r (k+5) (bt b) 0) fun r18=>q0y ((0+1)*8≤140737488355328∧0+1≤140737488355328) (q6i (k+5) [qz2 .u64 (a:Int) r18]):=rfl
  rw [qpf h,e,qvu,q04,ned (by omega),q6i,h1,h2]
  rfl
theorem qx5 {a b n:Nat} (ha:a<4096) (hb:b<4096) (hn:5≤n):∃ c:Nat,q7o n (bt a) (bt b)=some (bt c)∧(c=0↔a &&& b=a):=by
 obtain ⟨k,rfl⟩:=Nat.exists_eq_add_of_le' hn
 by_cases h:a=0
 ·subst h
  have:=qun (n:=k+5) hn
  refine ⟨0,?_,by simp⟩
  simp only [q7o,qza,q5m,List.length_nil,q48,this,q04]
  rfl
 ·obtain ⟨c,h1,h3⟩:=notN (a:=a) (b:=b) (by omega) (by omega)
  have h2:=qup (w:=c) (n:=k+5) hn
  have e:q7o (k+5) [(a:Int)] (bt b)=q03 (q7r (k+5) (bt b) 0) fun r18=>q0y ((0+1)*8≤140737488355328∧0+1≤140737488355328) (q48 (k+5) [qgz .u64 (a:Int) r18]):=rfl
  refine ⟨c,?_,h3⟩
  rw [qpf h,e,qvu,q04,ned (by omega),q48,h1,h2]
  rfl
theorem qkk {a b n:Nat} (ha:a<4096) (hb:b<4096) (hn:5≤n):q4s n (bt a) (bt b)=some (decide (a &&& b=a)):=by
 obtain ⟨c,h1,h2⟩:=qx5 ha hb hn
 rw [q4s,h1,q04]
 congr 1
 rw [Bool.eq_iff_iff,beq_iff_eq,qzb,h2,decide_eq_true_eq]
theorem qih {a b n:Nat} (ha:a<4096) (hb:b<4096) (hn:5≤n):qa9 n (bt a) (bt b)=some (decide (a=b)):=by
 simp only [qa9,qkk ha hb hn,qkk hb ha hn,q04]
 by_cases h:a &&& b=a
 ·by_cases h':b &&& a=b
  ·have:a=b:=by rw [← h,Nat.and_comm,h']
   simp [h,h',this,q04]
  ·have:a≠b:=fun e=>h' (by rw [← e,Nat.and_self])
   simp [h,h',this,q04]
 ·have:a≠b:=fun e=>h (by rw [← e,Nat.and_self])
  simp [h,this,q04]
theorem qyd {w n i:Nat} (hw:w<4096) (hi:i<64):qbr n (bt w) (i:Int)=some (w.testBit i):=by
 have e0:decide ((i:Int)<0)=false:=by simp
 have e1:(i:Int).tdiv 64=0:=by rw [Int.tdiv_eq_ediv_of_nonneg (by omega)]; omega
 have e2:IntKind.i64.wrap 0=0:=wr (by omega) (by omega)
 simp only [qbr,e0,cond_false,q04,e1,e2]
 by_cases h:w=0
 ·subst h; simp [qza]
 ·have e3:decide ((0:Int) ≥ ((bt w).length:Int))=false:=by rw [qpf h]; simp
  have e4:q0o (bt w) 0=some (w:Int):=by rw [qpf h]; rfl
  have e5:(i:Int).tmod 64=(i:Int):=by rw [Int.tmod_eq_emod_of_nonneg (by omega)]; omega
  have e6:IntKind.u64.wrap (i:Int)=(i:Int):=wu (by omega)
  have e7:min ((i:Int).toNat) IntKind.u64.bits=i:=by rw [Int.toNat_natCast]; exact Nat.min_eq_left (by show i≤64; omega)
  have e8:(w:Int).fdiv (2 ^ i)=((w / 2 ^ i:Nat):Int):=by
   rw [show (2:Int) ^ i=((2 ^ i:Nat):Int) by simp,Int.fdiv_eq_ediv_of_nonneg _ (Int.natCast_nonneg _)]
   rfl
  have hlt:w / 2 ^ i<18446744073709551616:=Nat.lt_of_le_of_lt (Nat.div_le_self _ _) (by omega)
  have e9:=andN (a:=w / 2 ^ i) (b:=1) hlt (by omega)
  rw [show ((1:Nat):Int)=1 from rfl] at e9
  simp only [e3,cond_false,e4,q04,e5,e6]
  rw [ned (by omega),e7,e8,e9]
  congr 1
  rw [Bool.eq_iff_iff,beq_iff_eq,Nat.testBit_eq_decide_div_mod_eq,decide_eq_true_eq,Nat.and_one_is_mod]
  omega
def bl (w:Nat):List Int:=((List.range 64).filter fun i=>w.testBit i).map fun (i:Nat)=>(i:Int)
theorem qzq {w n:Nat} (hw:w<4096) (hn:100≤n):qe9 n (bt w)=some (bl w):=by
 by_cases h:w=0
 ·subst h
  obtain ⟨k,rfl⟩:=Nat.exists_eq_add_of_le' hn
  have e:bl 0=[]:=by simp [bl]
  rw [e]
  rfl
 ·have h64:IntKind.i64.wrap (64*((bt w).length:Int))=((List.range 64).length:Int):=by
   rw [qpf h,List.length_range]
   exact wr (by simp) (by simp)
  have:=qap (l:=List.range 64) (by simp) (F:=fun m z s=>q2o (bt w) n m z s) (fun i s=>s=(((List.range 64).take i).filter fun i=>w.testBit i).map fun (i:Nat)=>(i:Int)) (Q:=fun r=>r=bl w)
   (fun m i x s hx hlt hd' hw' hI ih=>by
    have hxi:x=i:=by
     rw [List.getElem?_range (by simpa using hlt)] at hx
     exact (Option.some.inj hx).symm
    subst hxi
    have hlen:s.length≤64:=by
     rw [hI,List.length_map]
     refine Nat.le_trans (List.length_filter_le _ _) ?_
     rw [List.length_take,List.length_range]; omega
    rw [List.length_range] at hlt
    simp only [q2o,h64,hd',cond_true,qyd hw hlt,q04,q6x,hw']
    cases hb:w.testBit x with
    | true =>
     simp only [cond_true]
     rw [ned (by omega)]
     refine ih _ ?_
     rw [q0m hx,List.filter_append,List.map_append,hI]
     simp [hb]
    | false =>
     simp only [cond_false]
     refine ih _ ?_
     rw [q0m hx,List.filter_append,List.map_append,hI]
     simp [hb])
   (fun m s hd' hI=>by
    simp only [q2o,h64,hd',cond_false,q9l]
    rw [List.take_of_length_le (Nat.le_refl _)] at hI
    exact ⟨s,rfl,hI⟩) n 0 [] (by simp; omega) (by omega) (by simp)
  obtain ⟨r,h1,h2⟩:=this
  rw [← h2]
  rw [Int.ofNat_zero] at h1
  exact h1
theorem qqj {w n:Nat} (hw:w<4096) (hn:100≤n):q7n n (bt w)=some ((bl w).length:Int):=by rw [q7n,qzq hw hn]; rfl
theorem qrj {a b n:Nat} (hn:5≤n):q6j n (bt a) (bt b)=some (decide (a=b)):=by
 obtain ⟨k,rfl⟩:=Nat.exists_eq_add_of_le' hn
 by_cases ha:a=0
 ·subst ha
  by_cases hb:b=0
  ·subst hb; rfl
  ·rw [qpf hb]; simp [qza,q6j,Ne.symm hb]
 ·by_cases hb:b=0
  ·subst hb; rw [qpf ha]; simp [qza,q6j,ha]
  ·have e:q6j (k+5) [(a:Int)] [(b:Int)]=cond ((a:Int) != (b:Int)) (some false) (some true):=rfl
   rw [qpf ha,qpf hb,e]
   by_cases h:a=b
   ·subst h; simp
   ·have:((a:Int) != (b:Int))=true:=by simp; omega
    simp [this,h]
theorem in_ok {ws:List Nat} (hl:ws.length≤1000) {b n:Nat} (hn:5000≤n):qio n (ws.map bt) (bt b)=some (decide (b∈ws)):=by
 have:=qap (l:=ws) (by omega) (F:=fun m z (_:Unit)=>q68 (ws.map bt) (bt b) n m z) (fun i _=>b ∉ ws.take i) (Q:=fun r=>r=decide (b∈ws))
  (fun m i x _ hx hlt hd' hw hI ih=>by
   have hx2:(ws.map bt)[i]? = some (bt x):=by rw [List.getElem?_map,hx]; rfl
   simp only [q68,List.length_map,hd',cond_true,q0b,hx2,q04,qrj (a:=x) (b:=b) (n:=n) (by omega),hw]
   by_cases e:x=b
   ·simp only [e,decide_true,cond_true]
    exact ⟨true,rfl,(decide_eq_true (e ▸ List.mem_of_getElem? hx)).symm⟩
   ·simp only [e,decide_false,cond_false]
    refine ih () ?_
    rw [q0m hx]
    simp [hI,Ne.symm e])
  (fun m _ hd' hI=>by
   simp only [q68,List.length_map,hd',cond_false,qco]
   rw [List.take_of_length_le (Nat.le_refl _)] at hI
   exact ⟨false,rfl,(decide_eq_false hI).symm⟩) n 0 () (by omega) (by omega) (by simp)
 obtain ⟨r,h1,h2⟩:=this
 rw [← h2]
 rw [Int.ofNat_zero] at h1
 exact h1
def mk12 (l:List Nat):Nat:=l.foldl (fun w i=>w ||| 2 ^ i) 0
theorem qzs:∀ (l:List Nat) (w:Nat),(∀ i∈l,i<12)→w<4096→l.foldl (fun w i=>w ||| 2 ^ i) w<4096
 | [],w,_,h=>h
 | i::l,w,hl,h=>qzs l _ (fun j hj=>hl j (by simp [hj])) (Nat.or_lt_two_pow (n:=12) h (Nat.pow_lt_pow_right (by omega) (hl i (by simp))))
theorem qyk (j:Nat):∀ (l:List Nat) (w:Nat),(l.foldl (fun w i=>w ||| 2 ^ i) w).testBit j=(w.testBit j || decide (j∈l))
 | [],w=>by simp
 | i::l,w=>by
  rw [List.foldl_cons,qyk j l,Nat.testBit_or,Nat.testBit_two_pow]
  by_cases e:i=j
  ·subst e; simp
  ·have:¬ j=i:=fun h=>e h.symm
   simp [e,this,Bool.or_assoc]
theorem of_ok {l:List Nat} (hl:l.length≤12) (h12:∀ i∈l,i<12) {n:Nat} (hn:5000≤n):qgd n (l.map fun (i:Nat)=>(i:Int))=some (bt (mk12 l),0):=by
 have hrep:List.replicate (64:Int).toNat (0:Int)=((0:Nat):Int)::List.replicate 63 0:=rfl
 have:=qap (l:=l) (by omega) (F:=fun m z s=>q67 (l.map fun (i:Nat)=>(i:Int)) n m z s) (fun i s=>s=(((l.take i).foldl (fun w i=>w ||| 2 ^ i) 0:Nat):Int)::List.replicate 63 0) (Q:=fun r=>r=(bt (mk12 l),0))
  (fun m i x s hx hlt hd' hw hI ih=>by
   have hx12:=h12 x (List.mem_of_getElem? hx)
   have hx2:(l.map fun (i:Nat)=>(i:Int))[i]? = some (x:Int):=by rw [List.getElem?_map,hx]; rfl
   have e1:decide ((x:Int)<0)=false:=by simp
   have e2:decide ((x:Int) > 4095)=false:=by simp; omega
   have e3:IntKind.i64.wrap ((x:Int).tdiv 64)=0:=by rw [Int.tdiv_eq_ediv_of_nonneg (by omega),show (x:Int) / 64=0 by omega]; exact wr (by omega) (by omega)
   have e4:(x:Int).tmod 64=(x:Int):=by rw [Int.tmod_eq_emod_of_nonneg (by omega)]; omega
   have e5:IntKind.u64.wrap (x:Int)=(x:Int):=wu (by omega)
   have e6:min ((x:Int).toNat) IntKind.u64.bits=x:=by rw [Int.toNat_natCast]; exact Nat.min_eq_left (by show x≤64; omega)
   have hw0:(l.take i).foldl (fun w i=>w ||| 2 ^ i) 0<4096:=qzs _ 0 (fun j hj=>h12 j (List.mem_of_mem_take hj)) (by omega)
   have hp:2 ^ x<4096:=Nat.pow_lt_pow_right (n:=12) (by omega) hx12
   have e7:IntKind.u64.wrap (1*(2 ^ x:Int))=((2 ^ x:Nat):Int):=by
    rw [Int.one_mul,show (2:Int) ^ x=((2 ^ x:Nat):Int) by simp]
    exact wu (by omega)
   have e8:qsa s 0 ((64:Int).toNat) 0=some (((l.take i).foldl (fun w i=>w ||| 2 ^ i) 0:Nat):Int):=by rw [hI]; rfl
   have e9:=orN (a:=(l.take i).foldl (fun w i=>w ||| 2 ^ i) 0) (b:=2 ^ x) (by omega) (by omega)
   simp only [q67,List.length_map,hd',cond_true,q0b,hx2,q04,e1,e2,cond_false,e3,e4,e5,e6,e7,e8,e9,hw]
   rw [ned (by omega)]
   refine ih _ ?_
   rw [q0m hx,List.foldl_append,hI]
   rfl)
  (fun m s hd' hI=>by
   simp only [q67,List.length_map,hd',cond_false,qck]
   rw [List.take_of_length_le (Nat.le_refl _)] at hI
   have h1:q2t n s=some (bt (mk12 l)):=by rw [hI]; exact qum (k:=63) (by omega) 63 n (by omega) (by omega)
   rw [ned (by rw [hI]; rfl),h1]
   exact ⟨_,rfl,rfl⟩) n 0 _ (by omega) (by omega) rfl
 obtain ⟨r,h1,h2⟩:=this
 rw [Int.ofNat_zero] at h1
 rw [qgd,ned (by decide),hrep,← h2]
 exact h1
end Go.Proofs
end
section
namespace Go.Proofs
open Go Go.Rx Go.Vx Go.Shelf Go.Sort
set_option maxRecDepth 10000
inductive Upw (d:List q01) (s:Str):Str→Prop
 | refl:Upw d s s
 | step {t u:Str} {x:q01}:Upw d s t→x∈d→x.Name=t→u∈x.Supers→Upw d s u
theorem Upw.trans {d:List q01} {s t u:Str} (h:Upw d s t) (h':Upw d t u):Upw d s u:=by
 induction h' with
 | refl=>exact h
 | step _ h2 h3 h4 ih=>exact .step ih h2 h3 h4
structure WL (d:List q01) (P:Str→Prop) (l:List Str):Prop where
 nod:l.Nodup
 mem:∀ s∈l,Dcl d s∧P s
theorem WL.len {d:List q01} {P:Str→Prop} {l:List Str} (h:WL d P l):l.length≤d.length:=by
 have:=qg6 (b:=d.map q01.Name) h.nod fun s hs=>by
  obtain ⟨x,hx,rfl⟩:=(h.mem s hs).1
  exact List.mem_map_of_mem hx
 rwa [List.length_map] at this
theorem WL.snoc {d:List q01} {P:Str→Prop} {l:List Str} (h:WL d P l) {s:Str} (hn:s ∉ l) (hs:Dcl d s∧P s):WL d P (l++[s]):=by
 refine ⟨?_,fun t ht=>?_⟩
 ·rw [List.nodup_append]
  exact ⟨h.nod,by simp,fun a ha b hb e=>by simp at hb; subst hb; subst e; exact hn ha⟩
 ·rcases List.mem_append.1 ht with ht | ht
  ·exact h.mem t ht
  ·simp at ht; subst ht; exact hs
theorem qv0 {l:List Str} (hl:l.length≤1000) {n:Nat} (hn:5000≤n):(∃ out,q2v n l n [] 0=some out∧qnm [] l out)∧∃ out,q2u n l n [] 0=some out∧qnm [] l out:=by
 constructor
 ·have:=qap (l:=l) (by omega) (F:=fun m z s=>q2v n l m s z) (fun i s=>qnm [] (l.take i) s) (Q:=fun out=>qnm [] l out)
   (fun m i x s hx hlt hd' hw hI ih=>by
    have hl:=hI.len
    simp at hl
    obtain ⟨o,h1,h2,h3,h4⟩:=qm0 (l:=s) (by omega) hI.asc x (show s.length<n by omega)
    simp only [q2v,hd',cond_true,q0b,hx,q04,h1,hw]
    exact ih o (by rw [q0m hx]; exact hI.next h2 h3 h4))
   (fun m s hd' hI=>by
    simp only [q2v,hd',cond_false,q85]
    rw [List.take_of_length_le (Nat.le_refl _)] at hI
    exact ⟨s,rfl,hI⟩) n 0 [] (by omega) (by omega) (qnm.nil List.Pairwise.nil)
  rw [Int.ofNat_zero] at this
  exact this
 ·have:=qap (l:=l) (by omega) (F:=fun m z s=>q2u n l m s z) (fun i s=>qnm [] (l.take i) s) (Q:=fun out=>qnm [] l out)
   (fun m i x s hx hlt hd' hw hI ih=>by
    have hl:=hI.len
    simp at hl
    obtain ⟨o,h1,h2,h3,h4⟩:=qm0 (l:=s) (by omega) hI.asc x (show s.length<n by omega)
    simp only [q2u,hd',cond_true,q0b,hx,q04,h1,hw]
    exact ih o (by rw [q0m hx]; exact hI.next h2 h3 h4))
   (fun m s hd' hI=>by
    simp only [q2u,hd',cond_false,q81]
    rw [List.take_of_length_le (Nat.le_refl _)] at hI
    exact ⟨s,rfl,hI⟩) n 0 [] (by omega) (by omega) (qnm.nil List.Pairwise.nil)
  rw [Int.ofNat_zero] at this
  exact this
theorem qw5 {d:List q01} (h:DOK d) {s:Str} (hs:Dcl d s) {n:Nat} (hn:5000≤n):∃ l,qac n d s=some l∧AscS l∧l.length≤12∧∀ x,x∈l↔Dcl d x∧Upw d x s:=by
 have hd:=h.len
 have key:∀ (m i:Nat) (l:List Str),d.length+1 - i≤m→i≤l.length→WL d (fun x=>Upw d x s) l→s∈l→(∀ y∈l.take i,∀ x∈d,y∈x.Supers→x.Name∈l) →
   ∃ r,q1o d n m i l=some r∧AscS r∧r.length≤12∧∀ x,x∈r↔Dcl d x∧Upw d x s:=by
  intro m
  induction m with
  | zero=>intro i l hm hi hw; have:=hw.len; omega
  | succ m ih =>
   intro i l hm hi hw hsl hcl
   have hll:=hw.len
   unfold q1o
   by_cases hlt:i<l.length
   ·obtain ⟨y,hy,hym⟩:=q35 hlt
    simp only [dlt hlt,cond_true]
    have:=qap (l:=d) (by omega) (F:=fun m' z (l':List Str)=>q25 d n i (q1o d n m) m' z l') (fun k l'=>WL d (fun x=>Upw d x s) l'∧(∃ t,l'=l++t)∧∀ x∈d.take k,y∈x.Supers→x.Name∈l') (Q:=fun r=>AscS r∧r.length≤12∧∀ x,x∈r↔Dcl d x∧Upw d x s)
     (fun m' k x l' hx hlt2 hd' hw' hI ih2=>by
      obtain ⟨hI1,⟨t,hI2⟩,hI3⟩:=hI
      have hxm:=List.mem_of_getElem? hx
      have hl'':=hI1.len
      have hy':l'[i]? = some y:=by rw [hI2,List.getElem?_append_left hlt]; exact hy
      have hss:=(h.siz x hxm).1
      simp only [q25,hd',cond_true,q0b,hx,q04,hy',q9b (l:=x.Supers) (by omega) y (n:=n) (by omega),q9b (l:=l') (by omega) x.Name (n:=n) (by omega),q5o,hw']
      by_cases h1:y∈x.Supers
      ·by_cases h2:x.Name∈l'
       ·simp only [h1,h2,decide_true,cond_true,q04,Bool.not_true,cond_false]
        refine ih2 l' ⟨hI1,⟨t,hI2⟩,fun z hz hyz=>?_⟩
        rw [q0m hx] at hz
        rcases List.mem_append.1 hz with hz | hz
        ·exact hI3 z hz hyz
        ·simp at hz; subst hz; exact h2
       ·simp only [h1,h2,decide_true,decide_false,cond_true,q04,Bool.not_false]
        rw [ned (by omega)]
        have hys:=(hw.mem y hym).2
        refine ih2 (l'++[x.Name]) ⟨hI1.snoc h2 ⟨⟨x,hxm,rfl⟩,(Upw.step .refl hxm rfl h1).trans hys⟩,⟨t++[x.Name],by rw [hI2,List.append_assoc]⟩,fun z hz hyz=>?_⟩
        rw [q0m hx] at hz
        rcases List.mem_append.1 hz with hz | hz
        ·exact List.mem_append_left _ (hI3 z hz hyz)
        ·simp at hz; subst hz; simp
      ·simp only [h1,decide_false,cond_false,q04]
       refine ih2 l' ⟨hI1,⟨t,hI2⟩,fun z hz hyz=>?_⟩
       rw [q0m hx] at hz
       rcases List.mem_append.1 hz with hz | hz
       ·exact hI3 z hz hyz
       ·simp at hz; subst hz; exact absurd hyz h1)
     (fun m' l' hd' hI=>by
      obtain ⟨hI1,⟨t,hI2⟩,hI3⟩:=hI
      rw [List.take_of_length_le (Nat.le_refl _)] at hI3
      simp only [q25,hd',cond_false,q86,wr1 hlt (show l.length≤9223372036854775807 by omega)]
      refine ih (i+1) l' (by omega) (by rw [hI2]; simp; omega) hI1 (by rw [hI2]; exact List.mem_append_left _ hsl) fun z hz x hx hzx=>?_
      rw [hI2,List.take_append_of_le_length (by omega),q0m hy] at hz
      rcases List.mem_append.1 hz with hz | hz
      ·rw [hI2]; exact List.mem_append_left _ (hcl z hz x hx hzx)
      ·simp at hz; subst hz; exact hI3 x hx hzx) n 0 l (by omega) (by omega) ⟨hw,⟨[],by simp⟩,by simp⟩
    rw [Int.ofNat_zero] at this
    exact this
   ·have hi':i=l.length:=by omega
    subst hi'
    rw [List.take_of_length_le (Nat.le_refl _)] at hcl
    simp only [qs2 hlt,cond_false,q84]
    obtain ⟨out,g1,g2⟩:=(qv0 (l:=l) (by omega) hn).1
    have hlen:=g2.len
    simp at hlen
    refine ⟨out,g1,g2.asc,by omega,fun x=>?_⟩
    rw [g2.mem]
    simp only [List.not_mem_nil,false_or]
    constructor
    ·exact fun hx=>hw.mem x hx
    ·rintro ⟨_,hu⟩
     have:∀ {t:Str},Upw d x t→t∈l→x∈l:=by
      intro t ht
      induction ht with
      | refl=>exact id
      | step _ h2 h3 h4 ih=>exact fun hu=>ih (h3 ▸ hcl _ hu _ h2 h4)
     exact this hu hsl
 obtain ⟨j,x,g1,g2,g3⟩:=qme (d:=d) (by omega) hs (n:=n) (by omega)
 have hj:¬ (j:Int)<0:=by omega
 simp only [qac,g3,q04,hj,decide_false,cond_false]
 have:=key n 0 [s] (by omega) (by omega) ⟨by simp,fun t ht=>by simp at ht; subst ht; exact ⟨hs,.refl⟩⟩ (by simp) (by simp)
 rw [Int.ofNat_zero] at this
 exact this
theorem qnv {d:List q01} (h:qnl d) {x y:q01} (hx:x∈d) (hy:y∈d) (e:x.Name=y.Name):x=y:=by
 have:=h.nod
 clear h
 induction d with
 | nil=>cases hx
 | cons z d ih =>
  rw [List.map_cons,List.nodup_cons] at this
  rcases List.mem_cons.1 hx with h1 | h1
  ·rcases List.mem_cons.1 hy with h2 | h2
   ·rw [h1,h2]
   ·exact absurd (List.mem_map.2 ⟨y,h2,by rw [← e,h1]⟩) this.1
  ·rcases List.mem_cons.1 hy with h2 | h2
   ·exact absurd (List.mem_map.2 ⟨x,h1,by rw [e,h2]⟩) this.1
   ·exact ih h1 h2 this.2
theorem qw2 {d:List q01} (h:DOK d) {s:Str} (hs:Dcl d s) {n:Nat} (hn:5000≤n):∃ l,qab n d s=some l∧AscS l∧l.length≤12∧∀ x,x∈l↔Dcl d x∧Upw d s x:=by
 have hd:=h.len
 have key:∀ (m i:Nat) (l:List Str),d.length+1 - i≤m→i≤l.length→WL d (fun x=>Upw d s x) l→s∈l→(∀ y∈l.take i,∀ x∈d,x.Name=y→∀ u∈x.Supers,u∈l) →
   ∃ r,q1n d n m i l=some r∧AscS r∧r.length≤12∧∀ x,x∈r↔Dcl d x∧Upw d s x:=by
  intro m
  induction m with
  | zero=>intro i l hm hi hw; have:=hw.len; omega
  | succ m ih =>
   intro i l hm hi hw hsl hcl
   have hll:=hw.len
   unfold q1n
   by_cases hlt:i<l.length
   ·obtain ⟨y,hy,hym⟩:=q35 hlt
    obtain ⟨j,x,g1,g2,g3⟩:=qme (d:=d) (by omega) (hw.mem y hym).1 (n:=n) (by omega)
    have hxm:=List.mem_of_getElem? g1
    have hss:=(h.siz x hxm).1
    simp only [dlt hlt,cond_true,q0b,hy,q04,g3,g1]
    have:=qap (l:=x.Supers) (by omega) (F:=fun m' z (l':List Str)=>q24 n i (q1n d n m) x m' z l') (fun k l'=>WL d (fun x=>Upw d s x) l'∧(∃ t,l'=l++t)∧∀ u∈x.Supers.take k,u∈l') (Q:=fun r=>AscS r∧r.length≤12∧∀ x,x∈r↔Dcl d x∧Upw d s x)
     (fun m' k u l' hu hlt2 hd' hw' hI ih2=>by
      obtain ⟨hI1,⟨t,hI2⟩,hI3⟩:=hI
      have hum:=List.mem_of_getElem? hu
      have hl'':=hI1.len
      simp only [q24,hd',cond_true,q0b,hu,q04,q9b (l:=l') (by omega) u (n:=n) (by omega),q5n,hw']
      by_cases h2:u∈l'
      ·simp only [h2,decide_true,Bool.not_true,cond_false]
       refine ih2 l' ⟨hI1,⟨t,hI2⟩,fun z hz=>?_⟩
       rw [q0m hu] at hz
       rcases List.mem_append.1 hz with hz | hz
       ·exact hI3 z hz
       ·simp at hz; subst hz; exact h2
      ·simp only [h2,decide_false,Bool.not_false,cond_true]
       rw [ned (by omega)]
       refine ih2 (l'++[u]) ⟨hI1.snoc h2 ⟨(h.sup x hxm).1 u hum,.step (hw.mem y hym).2 hxm g2 hum⟩,⟨t++[u],by rw [hI2,List.append_assoc]⟩,fun z hz=>?_⟩
       rw [q0m hu] at hz
       rcases List.mem_append.1 hz with hz | hz
       ·exact List.mem_append_left _ (hI3 z hz)
       ·simp at hz; subst hz; simp)
     (fun m' l' hd' hI=>by
      obtain ⟨hI1,⟨t,hI2⟩,hI3⟩:=hI
      rw [List.take_of_length_le (Nat.le_refl _)] at hI3
      simp only [q24,hd',cond_false,q82,wr1 hlt (show l.length≤9223372036854775807 by omega)]
      refine ih (i+1) l' (by omega) (by rw [hI2]; simp; omega) hI1 (by rw [hI2]; exact List.mem_append_left _ hsl) fun z hz w hw' hzw u hu=>?_
      rw [hI2,List.take_append_of_le_length (by omega),q0m hy] at hz
      rcases List.mem_append.1 hz with hz | hz
      ·rw [hI2]; exact List.mem_append_left _ (hcl z hz w hw' hzw u hu)
      ·simp at hz
       subst hz
       have:=qnv h.nam hw' hxm (hzw.trans g2.symm)
       subst this
       exact hI3 u hu) n 0 l (by omega) (by omega) ⟨hw,⟨[],by simp⟩,by simp⟩
    rw [Int.ofNat_zero] at this
    exact this
   ·have hi':i=l.length:=by omega
    subst hi'
    rw [List.take_of_length_le (Nat.le_refl _)] at hcl
    simp only [qs2 hlt,cond_false,q80]
    obtain ⟨out,g1,g2⟩:=(qv0 (l:=l) (by omega) hn).2
    have hlen:=g2.len
    simp at hlen
    refine ⟨out,g1,g2.asc,by omega,fun x=>?_⟩
    rw [g2.mem]
    simp only [List.not_mem_nil,false_or]
    constructor
    ·exact fun hx=>hw.mem x hx
    ·rintro ⟨_,hu⟩
     clear g1 g2
     induction hu with
     | refl=>exact hsl
     | step h1 h2 h3 h4 ih=>exact hcl _ (ih ⟨_,h2,h3⟩) _ h2 h3 _ h4
 obtain ⟨j,x,g1,g2,g3⟩:=qme (d:=d) (by omega) hs (n:=n) (by omega)
 have hj:¬ (j:Int)<0:=by omega
 simp only [qab,g3,q04,hj,decide_false,cond_false]
 have:=key n 0 [s] (by omega) (by omega) ⟨by simp,fun t ht=>by simp at ht; subst ht; exact ⟨hs,.refl⟩⟩ (by simp) (by simp)
 rw [Int.ofNat_zero] at this
 exact this
theorem z0d {d:List q01} (h:DOK d) {a b:Str} (ha:Dcl d a) (hb:Dcl d b) (h1:Upw d a b) (h2:Upw d b a):a=b:=by
 obtain ⟨l,hl,hlen⟩:=h.ord
 have hall:∀ s,Dcl d s→s∈l:=fun s ⟨x,hx,e⟩=>by
  apply Classical.byContradiction
  intro hn
  have h3:=qg6 (a:=s::l) (b:=d.map q01.Name) (List.nodup_cons.2 ⟨hn,hl.nodup.1⟩) fun t ht=>by
   rcases List.mem_cons.1 ht with rfl | ht
   ·rw [← e]; exact List.mem_map_of_mem hx
   ·obtain ⟨y,hy,rfl⟩:=hl.nodup.2 t ht
    exact List.mem_map_of_mem hy
  simp at h3
  omega
 have hpre:∀ {l:List Str},Ord d l→∀ s∈l,∀ t,Upw d s t→∃ l1 l2,l=l1++s::l2∧(t=s∨t∈l1):=by
  intro l hl
  induction hl with
  | nil=>intro s hs; cases hs
  | @snoc l x g1 g2 g3 g4 ih =>
   have hcl:∀ s∈l,∀ t,Upw d s t→t∈l:=fun s hs t ht=>by
    obtain ⟨l1,l2,e1,e2⟩:=ih s hs t ht
    rcases e2 with rfl | e2
    ·exact hs
    ·rw [e1]; exact List.mem_append_left _ e2
   intro s hs t ht
   rcases List.mem_append.1 hs with hs | hs
   ·obtain ⟨l1,l2,e1,e2⟩:=ih s hs t ht
    exact ⟨l1,l2++[x.Name],by rw [e1]; simp,e2⟩
   ·simp at hs
    subst hs
    refine ⟨l,[],rfl,?_⟩
    induction ht with
    | refl=>exact .inl rfl
    | step _ h2 h3 h4 ih2 =>
     rcases ih2 with e | e
     ·have:=qnv h.nam h2 g2 (h3.trans e)
      subst this
      exact .inr (g4 _ h4)
     ·exact .inr (hcl _ e _ (.step .refl h2 h3 h4))
 obtain ⟨l1,l2,e1,e2⟩:=hpre hl a (hall a ha) b h1
 obtain ⟨l3,l4,e3,e4⟩:=hpre hl b (hall b hb) a h2
 rcases e2 with e2 | e2
 ·exact e2.symm
 ·rcases e4 with e4 | e4
  ·exact e4
  ·-- b ahead of a,and a ahead of b
   have hn:=hl.nodup.1
   obtain ⟨p,q,e5⟩:=List.append_of_mem e2
   rw [e5] at e1
   have:l3=p:=by
    have hb1:b ∉ p:=fun hp=>by
     rw [e1] at hn
     simp only [List.append_assoc,List.cons_append] at hn
     rw [List.nodup_append] at hn
     exact hn.2.2 b hp b (by simp) rfl
    have hb3:b ∉ l3:=fun hp=>by
     rw [e3,List.nodup_append] at hn
     exact hn.2.2 b hp b (by simp) rfl
    rw [e1] at e3
    simp only [List.append_assoc,List.cons_append] at e3
    clear e1 hn e5 e4 hl
    induction p generalizing l3 with
    | nil =>
     cases l3 with
     | nil=>rfl
     | cons z l3=>simp at e3; exact absurd (by rw [e3.1]; simp) hb3
    | cons y p ihp =>
     cases l3 with
     | nil=>simp at e3; exact absurd (by rw [← e3.1]; simp) hb1
     | cons z l3 =>
      simp at e3
      rw [← e3.1,ihp l3 (fun hh=>hb1 (List.mem_cons_of_mem _ hh)) (fun hh=>hb3 (List.mem_cons_of_mem _ hh)) e3.2]
   rw [this] at e4
   rw [e1] at hn
   exact absurd rfl ((List.nodup_append.1 hn).2.2 a (List.mem_append_left _ e4) a (by simp))
theorem qpi {d:List q01} (h:DOK d) {l:List Str} (hl:l.length≤1000) {n:Nat} (hn:5000≤n):∃ out,q89 n d l=some out∧AscS out∧out.length≤l.length∧∀ x∈out,x∈l∧Dcl d x:=by
 have hd:=h.len
 have:=qap (l:=l) (by omega) (F:=fun m z s=>q18 d l n m s z) (fun i s=>AscS s∧s.length≤i∧∀ x∈s,x∈l∧Dcl d x) (Q:=fun out=>AscS out∧out.length≤l.length∧∀ x∈out,x∈l∧Dcl d x)
  (fun m i x s hx hlt hd' hw hI ih=>by
   obtain ⟨i1,i2,i3⟩:=hI
   simp only [q18,hd',cond_true,q0b,hx,q04,q3t,hw]
   rcases qby (d:=d) (by omega) x (show d.length<n by omega) with ⟨j,y,g1,g2,g3,g4⟩ | ⟨g1,g2⟩
   ·obtain ⟨o,h1,h2,h3,h4⟩:=qm0 (l:=s) (by omega) i1 x (show s.length<n by omega)
    have hj:(j:Int) ≥ 0:=by omega
    simp only [g4,q04,hj,decide_true,cond_true,h1]
    refine ih o ⟨h4,by omega,fun z hz=>?_⟩
    rcases (h2 z).1 hz with rfl | hz
    ·exact ⟨List.mem_of_getElem? hx,y,List.mem_of_getElem? g1,g2⟩
    ·exact i3 z hz
   ·simp only [g2,q04]
    exact ih s ⟨i1,by omega,i3⟩)
  (fun m s hd' hI=>by
   simp only [q18,hd',cond_false,q5a]
   exact ⟨s,rfl,hI⟩) n 0 [] (by omega) (by omega) ⟨List.Pairwise.nil,by simp,by simp⟩
 rw [Int.ofNat_zero] at this
 exact this
theorem qlx {d:List q01} (h:DOK d) {l:List Str} (hl:l.length≤1000) {n:Nat} (hn:5000≤n):∃ out,q59 n d l=some out∧out.length≤l.length∧∀ x∈out,x∈l∧Dcl d x:=by
 obtain ⟨all,a1,a2,a3,a4⟩:=qpi h hl hn
 have:=qap (l:=all) (by omega) (F:=fun m z s=>q12 d n all m z s) (fun i s=>s.length≤i∧∀ x∈s,x∈l∧Dcl d x) (Q:=fun out=>out.length≤l.length∧∀ x∈out,x∈l∧Dcl d x)
  (fun m i x s hx hlt hd' hw hI ih=>by
   obtain ⟨i2,i3⟩:=hI
   have hxm:=a4 x (List.mem_of_getElem? hx)
   obtain ⟨up,u1,u2,u3,u4⟩:=qw2 h hxm.2 hn
   simp only [q12,hd',cond_true,q0b,hx,q04,u1]
   have:=qap (l:=all) (by omega) (F:=fun m' z b=>q2h n all i s (q12 d n all m) up m' b z) (fun _ _=>True) (Q:=fun out=>out.length≤l.length∧∀ x∈out,x∈l∧Dcl d x)
    (fun m' k y b hy hlt2 hd2 hw2 _ ih2=>by
     simp only [q2h,hd2,cond_true,hw2,q0b,hy,q04,q9b (l:=up) (by omega) y (n:=n) (by omega)]
     cases b with
     | true =>
      cases ((k:Int) == (i:Int)) with
      | true=>exact ih2 true trivial
      | false=>exact ih2 _ trivial
     | false=>exact ih2 false trivial)
    (fun m' b hd2 _=>by
     simp only [q2h,hd2,cond_false,q5y,q44,hw,q0b,hx,q04]
     cases b with
     | true =>
      simp only [cond_true]
      rw [ned (by omega)]
      refine ih (s++[x]) ⟨by simp; omega,fun z hz=>?_⟩
      rcases List.mem_append.1 hz with hz | hz
      ·exact i3 z hz
      ·simp at hz; subst hz; exact hxm
     | false=>exact ih s ⟨by omega,i3⟩) n 0 true (by omega) (by omega) trivial
   rw [Int.ofNat_zero] at this
   exact this)
  (fun m s hd' hI=>by
   simp only [q12,hd',cond_false,q5x]
   exact ⟨s,rfl,by omega,hI.2⟩) n 0 [] (by omega) (by omega) ⟨by simp,by simp⟩
 rw [Int.ofNat_zero] at this
 rw [q59,a1]
 exact this
end Go.Proofs
end
section
namespace Go.Proofs
open Go Go.Rx Go.Vx Go.Shelf Go.Sort
set_option maxRecDepth 10000
theorem qzd {d:List q01} (h:DOK d) {all:List Str} (hal:all.length≤12) {s:Str} (hs:Dcl d s) (ha:∀ x∈all,Dcl d x) {n:Nat} (hn:5000≤n):∃ w,qbt n d all s=some (bt w)∧w<4096∧∀ i,w.testBit i=true↔∃ t,all[i]? = some t∧Upw d t s:=by
 obtain ⟨low,b1,b2,b3,b4⟩:=qw5 h hs hn
 have:=qap (l:=all) (by omega) (F:=fun m z (s:List Nat)=>q2p all n low m z (s.map fun (i:Nat)=>(i:Int))) (fun i s=>s.length≤i∧∀ j,j∈s↔j<i∧∃ t,all[j]? = some t∧t∈low) (Q:=fun r=>∃ w,r=bt w∧w<4096∧∀ i,w.testBit i=true↔∃ t,all[i]? = some t∧Upw d t s)
  (fun m i x s' hx hlt hd' hw hI ih=>by
   obtain ⟨i1,i2⟩:=hI
   simp only [q2p,hd',cond_true,q0b,hx,q04,q9b (l:=low) (by omega) x (n:=n) (by omega),q76,hw,List.length_map]
   by_cases hm:x∈low
   ·simp only [hm,decide_true,cond_true]
    rw [ned (by omega)]
    have:=ih (s'++[i]) ⟨by simp; omega,fun j=>by
     rw [List.mem_append,i2,List.mem_singleton]
     constructor
     ·rintro (⟨h1,h2⟩ | rfl)
      ·exact ⟨by omega,h2⟩
      ·exact ⟨by omega,x,hx,hm⟩
     ·rintro ⟨h1,h2⟩
      by_cases e:j=i
      ·exact .inr e
      ·exact .inl ⟨by omega,h2⟩⟩
    rw [List.map_append] at this
    exact this
   ·simp only [hm,decide_false,cond_false]
    exact ih s' ⟨by omega,fun j=>by
     rw [i2]
     constructor
     ·rintro ⟨h1,h2⟩; exact ⟨by omega,h2⟩
     ·rintro ⟨h1,t,h2,h3⟩
      refine ⟨?_,t,h2,h3⟩
      have:j≠i:=fun e=>by subst e; rw [hx] at h2; cases h2; exact hm h3
      omega⟩)
  (fun m s' hd' hI=>by
   obtain ⟨i1,i2⟩:=hI
   have h12:∀ i∈s',i<12:=fun i hi=>by have:=((i2 i).1 hi).1; omega
   simp only [q2p,hd',cond_false,q9q,of_ok (l:=s') (by omega) h12 hn,q04]
   refine ⟨_,rfl,mk12 s',rfl,qzs s' 0 h12 (by omega),fun i=>?_⟩
   rw [mk12,qyk]
   simp only [Nat.zero_testBit,Bool.false_or,decide_eq_true_eq]
   rw [i2]
   constructor
   ·rintro ⟨_,t,h1,h2⟩; exact ⟨t,h1,((b4 t).1 h2).2⟩
   ·rintro ⟨t,h1,h2⟩
    exact ⟨(List.getElem?_eq_some_iff.1 h1).1,t,h1,(b4 t).2 ⟨ha t (List.mem_of_getElem? h1),h2⟩⟩) n 0 [] (by omega) (by omega) ⟨by simp,fun j=>by simp⟩
 obtain ⟨r,h1,w,rfl,h2,h3⟩:=this
 rw [Int.ofNat_zero] at h1
 exact ⟨w,by simp only [qbt,b1,q04]; exact h1,h2,h3⟩
structure FI (c0 ws:List Nat):Prop where
 pre:∃ t,ws=c0++t
 nod:ws.Nodup
 ok:∀ a∈ws,a<4096∧a≠0∧∃ b∈c0,a &&& b=a
 len:ws.length≤257
def Clo (ws:List Nat) (i k:Nat):Prop:=∀ i' k' a b,k'<i'→(i'<i∨(i'=i∧k'<k))→ws[i']? = some a→ws[k']? = some b→a &&& b=0∨a &&& b∈ws
theorem Clo.app {ws t:List Nat} {i k:Nat} (h:Clo ws i k) (hi:i<ws.length):Clo (ws++t) i k:=fun i' k' a b h1 h2 h3 h4=>by
 have e1:i'<ws.length:=by omega
 rw [List.getElem?_append_left e1] at h3
 rw [List.getElem?_append_left (by omega)] at h4
 rcases h i' k' a b h1 h2 h3 h4 with h5 | h5
 ·exact .inl h5
 ·exact .inr (List.mem_append_left _ h5)
theorem qqm {c0:List Nat} {n:Nat} (hn:5000≤n) {i:Nat} {rc:Int→List (List Int)→Option (List (List Int))} {Q:List (List Int)→Prop} (hi256:i≤256) (hrc:∀ ws',FI c0 ws'→i<ws'.length→(ws'.length≤256→Clo ws' (i+1) 0)→∃ r,rc ((i+1:Nat):Int) (ws'.map bt)=some r∧Q r) :
  ∀ (m k:Nat) (ws:List Nat),i - k<m→k≤i→FI c0 ws→i<ws.length→(ws.length≤256→Clo ws i k)→∃ r,q2f n i rc m k (ws.map bt)=some r∧Q r
 | 0,k,ws,hm,_,_,_,_=>by omega
 | m+1,k,ws,hm,hk,hf,hi,hc=>by
  have hl:=hf.len
  have hwi:IntKind.i64.wrap ((i:Int)+1)=((i+1:Nat):Int):=wrn (by omega) (by omega)
  unfold q2f
  by_cases hlt:k<i
  ·have e0:decide ((k:Int)<(i:Int))=true:=by simp; omega
   simp only [e0,cond_true,List.length_map]
   by_cases h256:ws.length≤256
   ·obtain ⟨a,ha,ham⟩:=q35 hi
    obtain ⟨b,hb,hbm⟩:=q35 (show k<ws.length by omega)
    have e1:decide ((ws.length:Int)≤256)=true:=by simp; omega
    have ga:(ws.map bt)[i]? = some (bt a):=by rw [List.getElem?_map,ha]; rfl
    have gb:(ws.map bt)[k]? = some (bt b):=by rw [List.getElem?_map,hb]; rfl
    have hwk:IntKind.i64.wrap ((k:Int)+1)=((k+1:Nat):Int):=wrn (by omega) (by omega)
    have oka:=hf.ok a ham
    have okb:=hf.ok b hbm
    simp only [e1,q04,cond_true,q0b,ga,gb,qxy oka.1 okb.1 (show 5≤n by omega),in_ok (ws:=ws) (by omega) (b:=a &&& b) hn,q4w,hwk]
    have hcs:∀ t,(a &&& b=0∨a &&& b∈ws++t)→Clo (ws++t) i (k+1):=fun t ht i' k' x y h1 h2 h3 h4=>by
     by_cases e:i'=i∧k'=k
     ·obtain ⟨rfl,rfl⟩:=e
      rw [List.getElem?_append_left hi,ha] at h3
      rw [List.getElem?_append_left (by omega),hb] at h4
      cases h3; cases h4
      exact ht
     ·exact (hc h256).app hi i' k' x y h1 (by omega) h3 h4
    by_cases hz:a &&& b=0
    ·have e2:decide (((bt (a &&& b)).length:Int) > 0)=false:=by rw [hz]; simp [qza]
     simp only [e2,cond_false,q04]
     refine qqm hn hi256 hrc m (k+1) ws (by omega) (by omega) hf hi fun _=>?_
     have:=hcs [] (.inl hz)
     rwa [List.append_nil] at this
    ·have e2:decide (((bt (a &&& b)).length:Int) > 0)=true:=by rw [qpf hz]; simp
     simp only [e2,cond_true,q04]
     by_cases hm':a &&& b∈ws
     ·simp only [hm',decide_true,Bool.not_true,cond_false]
      refine qqm hn hi256 hrc m (k+1) ws (by omega) (by omega) hf hi fun _=>?_
      have:=hcs [] (.inr (by simpa using hm'))
      rwa [List.append_nil] at this
     ·simp only [hm',decide_false,Bool.not_false,cond_true]
      rw [ned (by omega)]
      have hf':FI c0 (ws++[a &&& b]):=by
       obtain ⟨t,ht⟩:=hf.pre
       refine ⟨⟨t++[a &&& b],by rw [ht,List.append_assoc]⟩,?_,fun c hc=>?_,by simp; omega⟩
       ·rw [List.nodup_append]
        exact ⟨hf.nod,by simp,fun x hx y hy e=>by simp at hy; subst hy; subst e; exact hm' hx⟩
       ·rcases List.mem_append.1 hc with hc | hc
        ·exact hf.ok c hc
        ·simp at hc
         subst hc
         obtain ⟨g,hg,eg⟩:=oka.2.2
         refine ⟨Nat.lt_of_le_of_lt Nat.and_le_left oka.1,hz,g,hg,?_⟩
         rw [Nat.and_assoc,Nat.and_comm b g,← Nat.and_assoc,eg]
      have:=qqm hn hi256 hrc m (k+1) (ws++[a &&& b]) (by omega) (by omega) hf' (by simp; omega) fun _=>hcs [a &&& b] (.inr (by simp))
      rw [List.map_append] at this
      exact this
   ·have e1:decide ((ws.length:Int)≤256)=false:=by simp; omega
    simp only [e1,q04,cond_false,q4y,hwi]
    exact hrc ws hf hi fun h=>absurd h h256
  ·have e0:decide ((k:Int)<(i:Int))=false:=by simp; omega
   simp only [e0,cond_false,q04,q4y,hwi]
   refine hrc ws hf hi fun h i' k' a b h1 h2 h3 h4=>hc h i' k' a b h1 (by omega) h3 h4
theorem qy6 {c0:List Nat} {n:Nat} (hn:5000≤n):∀ (m i:Nat) (ws:List Nat),258 - i≤m→i≤257→FI c0 ws→i≤ws.length→(ws.length≤256→Clo ws i 0) →
  ∃ r,q1f n m i (ws.map bt)=some r∧∃ ws',r=ws'.map bt∧FI c0 ws'∧(ws'.length≤256→Clo ws' ws'.length 0)
 | 0,i,ws,hm,_,_,_,_=>by omega
 | m+1,i,ws,hm,hi,hf,hil,hc=>by
  have hl:=hf.len
  unfold q1f
  simp only [List.length_map]
  by_cases hlt:i<ws.length
  ·by_cases h256:ws.length≤256
   ·have e1:decide ((ws.length:Int)≤256)=true:=by simp; omega
    simp only [dlt hlt,cond_true,e1,q04]
    have:=qqm (c0:=c0) hn (i:=i) (rc:=q1f n m) (Q:=fun r=>∃ ws',r=ws'.map bt∧FI c0 ws'∧(ws'.length≤256→Clo ws' ws'.length 0)) (by omega) (fun ws' f1 f2 f3=>qy6 hn m (i+1) ws' (by omega) (by omega) f1 (by omega) f3) n 0 ws (by omega) (by omega) hf hlt hc
    rw [Int.ofNat_zero] at this
    exact this
   ·have e1:decide ((ws.length:Int)≤256)=false:=by simp; omega
    simp only [dlt hlt,cond_true,e1,q04,cond_false,q4x]
    exact ⟨_,rfl,ws,rfl,hf,fun h=>absurd h h256⟩
  ·simp only [qs2 hlt,cond_false,q04,q4x]
   have:i=ws.length:=by omega
   exact ⟨_,rfl,ws,rfl,hf,this ▸ hc⟩
def Clsd (ws:List Nat):Prop:=∀ a∈ws,∀ b∈ws,a &&& b≠0→a &&& b∈ws
theorem Clo.all {ws:List Nat} (h:Clo ws ws.length 0):Clsd ws:=fun a ha b hb hne=>by
 obtain ⟨i,hi,rfl⟩:=List.mem_iff_getElem.1 ha
 obtain ⟨k,hk,rfl⟩:=List.mem_iff_getElem.1 hb
 by_cases e:i=k
 ·subst e; rw [Nat.and_self]; exact ha
 ·by_cases hlt:k<i
  ·exact (h i k _ _ hlt (.inl hi) (List.getElem?_eq_getElem hi) (List.getElem?_eq_getElem hk)).resolve_left hne
  ·rw [Nat.and_comm] at hne ⊢
   exact (h k i _ _ (by omega) (.inl hk) (List.getElem?_eq_getElem hk) (List.getElem?_eq_getElem hi)).resolve_left hne
theorem qts {c0:List Nat} (hl:c0.length≤12) (hn0:c0.Nodup) (hc:∀ a∈c0,a<4096∧a≠0) {n:Nat} (hn:5000≤n):∃ ws,q8x n (c0.map bt)=some (ws.map bt)∧FI c0 ws∧(ws.length≤256→Clsd ws):=by
 obtain ⟨r,h1,ws,rfl,h2,h3⟩:=qy6 (c0:=c0) hn n 0 c0 (by omega) (by omega) ⟨⟨[],by simp⟩,hn0,fun a ha=>⟨(hc a ha).1,(hc a ha).2,a,ha,Nat.and_self a⟩,by omega⟩ (by omega) (fun _ i' k' a b h1 h2=>by omega)
 rw [Int.ofNat_zero] at h1
 refine ⟨ws,?_,h2,fun h=>(h3 h).all⟩
 rw [q8x,ned (by rw [List.length_map]; omega)]
 exact h1
theorem join_L {l:List Str} (hl:l.length≤12) (hs:∀ s∈l,s.length≤32) {n:Nat} (hn:5000≤n):∃ s,q28 l n [] 0=some s:=by
 have:=qap (l:=l) (by omega) (F:=fun m z s=>q28 l m s z) (fun i s=>s.length≤33*i) (Q:=fun _=>True)
  (fun m i x s hx hlt hd' hw hI ih=>by
   have hxl:=hs x (List.mem_of_getElem? hx)
   simp only [q28,hd',cond_true,q77,q0b,hx,q04,hw]
   cases decide ((i:Int) > 0) with
   | true =>
    simp only [cond_true]
    rw [ned (by show s.length+1≤_; omega),ned (by rw [List.length_append]; show s.length+1+x.length≤_; omega)]
    exact ih _ (by rw [List.length_append,List.length_append]; show s.length+1+x.length≤_; omega)
   | false =>
    simp only [cond_false]
    rw [ned (by omega)]
    exact ih _ (by rw [List.length_append]; omega))
  (fun m s hd' hI=>by
   simp only [q28,hd',cond_false,q9s]
   exact ⟨s,rfl,trivial⟩) n 0 [] (by omega) (by omega) (by simp)
 obtain ⟨s,h1,_⟩:=this
 exact ⟨s,h1⟩
theorem qr3 {d:List q01} (h:DOK d) {all:List Str} (hal:all.length≤12) {c0:List Nat} (hc0:c0.length=all.length) (hc:∀ a∈c0,a<4096) {w:Nat} (hw:w<4096) {n:Nat} (hn:5000≤n) :
  ∃ s,qbu n d all (c0.map bt) (bt w)=some s∧∀ (i:Nat) (t:Str),c0.Nodup→c0[i]? = some w→all[i]? = some t→s=t:=by
 have:=qap (l:=all) (by omega) (F:=fun m z s=>q2q d all (c0.map bt) (bt w) n m z s) (fun i (s:List Str)=>s.length≤i∧∀ j,j<i→c0[j]? ≠ some w) (Q:=fun s=>∀ (i:Nat) (t:Str),c0.Nodup→c0[i]? = some w→all[i]? = some t→s=t)
  (fun m i x s hx hlt hd' hw' hI ih=>by
   obtain ⟨a,ha,ham⟩:=q35 (l:=c0) (show i<c0.length by omega)
   have ga:(c0.map bt)[i]? = some (bt a):=by rw [List.getElem?_map,ha]; rfl
   simp only [q2q,hd',cond_true,q0b,ga,hx,q04,qih (hc a ham) hw (show 5≤n by omega),qyd (w:=w) (n:=n) hw (show i<64 by omega),q78,hw']
   by_cases e:a=w
   ·subst e
    simp only [decide_true,cond_true]
    refine ⟨x,rfl,fun k t hnd hk ht=>?_⟩
    obtain ⟨p1,p2⟩:=List.getElem?_eq_some_iff.1 ha
    obtain ⟨q1,q2⟩:=List.getElem?_eq_some_iff.1 hk
    have:i=k:=(List.getElem_inj hnd).1 (p2.trans q2.symm)
    subst this
    rw [hx] at ht
    exact Option.some.inj ht
   ·have hno:∀ j,j<i+1→c0[j]? ≠ some w:=fun j hj=>by
     by_cases e2:j=i
     ·subst e2; rw [ha]; exact fun h=>e (Option.some.inj h)
     ·exact hI.2 j (by omega)
    simp only [e,decide_false,cond_false]
    cases w.testBit i with
    | true =>
     simp only [cond_true]
     rw [ned (by have:=hI.1; omega)]
     exact ih (s++[x]) ⟨by have:=hI.1; simp; omega,hno⟩
    | false=>exact ih s ⟨by have:=hI.1; omega,hno⟩)
  (fun m s hd' hI=>by
   obtain ⟨out,m1,m2,m3⟩:=qlx h (l:=s) (by have:=hI.1; omega) hn
   obtain ⟨r,j1⟩:=join_L (l:=out) (by have:=hI.1; omega) (fun t ht=>by
    obtain ⟨x,hx,e⟩:=(m3 t ht).2
    have:=(h.nam.len x hx).2
    rw [e] at this
    exact this) hn
   simp only [q2q,hd',cond_false,q9r,m1,q04]
   refine ⟨r,j1,fun i t _ hi _=>absurd hi (hI.2 i ?_)⟩
   have:=(List.getElem?_eq_some_iff.1 hi).1
   omega) n 0 [] (by omega) (by omega) ⟨by simp,fun j hj=>by omega⟩
 rw [Int.ofNat_zero] at this
 exact this
def cw:List Int→Nat
 | [z]=>z.toNat
 | _=>0
theorem cw_bt (w:Nat):cw (bt w)=w:=by
 by_cases h:w=0
 ·subst h; rfl
 ·rw [qpf h]; simp [cw]
def cnt (x:q0c):Nat:=(bl (cw x.Code)).length
theorem qt3 {x y:q0c} {a b:Nat} (hx:x.Code=bt a) (hy:y.Code=bt b) (ha:a<4096) (hb:b<4096) {n:Nat} (hn:5000≤n):∃ r,q8w n x y=some r∧(r=true→cnt y≤cnt x)∧(r=false→cnt x≤cnt y):=by
 have e1:cnt x=(bl a).length:=by rw [cnt,hx,cw_bt]
 have e2:cnt y=(bl b).length:=by rw [cnt,hy,cw_bt]
 rw [e1,e2]
 simp only [q8w,hx,hy,qqj ha (show 100≤n by omega),qqj hb (show 100≤n by omega),q04]
 by_cases h1:((bl a).length:Int) > ((bl b).length:Int)
 ·simp only [h1,decide_true,cond_true,q04]
  exact ⟨true,rfl,fun _=>by omega,fun h=>by cases h⟩
 ·simp only [h1,decide_false,cond_false]
  by_cases h2:((bl a).length:Int)=((bl b).length:Int)
  ·have:(((bl a).length:Int) == ((bl b).length:Int))=true:=by simpa using h2
   simp only [this,cond_true,q04]
   exact ⟨_,rfl,fun _=>by omega,fun _=>by omega⟩
  ·have:(((bl a).length:Int) == ((bl b).length:Int))=false:=by simpa using h2
   simp only [this,cond_false,q04]
   exact ⟨false,rfl,fun h=>(by cases h),fun _=>by omega⟩
structure CI (nm:Nat→Option Str) (ws:List Nat) (l:List q0c):Prop where
 perm:(l.map q0c.Code).Perm (ws.map bt)
 nam:∀ w∈ws,∃ x∈l,x.Code=bt w∧nm w=some x.Name
 srt:l.Pairwise fun a b=>cnt b≤cnt a
theorem CI.len {nm:Nat→Option Str} {ws:List Nat} {l:List q0c} (h:CI nm ws l):l.length=ws.length:=by
 have:=h.perm.length_eq
 rwa [List.length_map,List.length_map] at this
theorem CI.cod {nm:Nat→Option Str} {ws:List Nat} {l:List q0c} (h:CI nm ws l):∀ x∈l,∃ w∈ws,x.Code=bt w:=fun x hx=>by
 have:=h.perm.mem_iff.1 (List.mem_map_of_mem (f:=q0c.Code) hx)
 obtain ⟨w,hw,e⟩:=List.mem_map.1 this
 exact ⟨w,hw,e.symm⟩
theorem ins_L {nm:Nat→Option Str} {ws:List Nat} {l:List q0c} (h:CI nm ws l) (hl:l.length≤300) (hws:∀ w∈ws,w<4096) {w:Nat} (hw:w<4096) {s:Str} (hs:nm w=some s) {n:Nat} (hn:5000≤n) {z27:Int} {rc:Int→List q0c→Option (List q0c×Int)} {Q:List q0c×Int→Prop}
  (hrc:∀ l',CI nm (ws++[w]) l'→∃ r,rc (IntKind.i64.wrap (z27+1)) l'=some r∧Q r) :
  ∀ (m z:Nat),z<m→z≤l.length→(∀ y∈l.drop z,cnt y≤cnt ⟨s,bt w⟩)→∃ r,q4b n z27 l rc s (bt w) m z=some r∧Q r:=by
 have fin:∀ z,z≤l.length→(∀ y∈l.drop z,cnt y≤cnt ⟨s,bt w⟩)→(∀ y∈l.take z,cnt ⟨s,bt w⟩≤cnt y)→∃ r,q5q z27 l rc s (bt w) z=some r∧Q r:=by
  intro z hz hlo hhi
  have t1:((l.drop 0).take ((z:Int)).toNat)=l.take z:=by rw [List.drop_zero,Int.toNat_natCast]
  have t2:((l.drop (0+((z:Int)).toNat)).take (l.length - ((z:Int)).toNat))=l.drop z:=by
   rw [Int.toNat_natCast,Nat.zero_add]
   exact List.take_of_length_le (by simp)
  have tl:(l.take z).length=z:=by simp; omega
  have dl:(l.drop z).length=l.length - z:=by simp
  simp only [q5q,t1,t2]
  rw [ned (by omega),ned (by rw [Int.toNat_natCast]; omega),ned (by rw [tl]; omega),ned (by rw [tl]; omega),ned (by omega),ned (by rw [Int.toNat_natCast]; omega),ned (by rw [List.length_append,tl,dl]; simp; omega)]
  refine hrc _ ⟨?_,fun v hv=>?_,?_⟩
  ·have hp:((l.take z++[q0c.mk s (bt w)])++l.drop z).Perm (l++[q0c.mk s (bt w)]):=by
    rw [List.append_assoc]
    refine (List.perm_append_comm_assoc _ _ _).trans ?_
    rw [List.take_append_drop]
    exact List.perm_append_comm
   refine (hp.map q0c.Code).trans ?_
   rw [List.map_append,List.map_append]
   exact h.perm.append_right _
  ·rcases List.mem_append.1 hv with hv | hv
   ·obtain ⟨x,hx,e1,e2⟩:=h.nam v hv
    refine ⟨x,?_,e1,e2⟩
    rw [← List.take_append_drop z l] at hx
    rcases List.mem_append.1 hx with hx | hx
    ·exact List.mem_append_left _ (List.mem_append_left _ hx)
    ·exact List.mem_append_right _ hx
   ·simp at hv; subst hv
    exact ⟨⟨s,bt v⟩,by simp,rfl,hs⟩
  ·have h1:=h.srt
   rw [← List.take_append_drop z l,List.pairwise_append] at h1
   rw [List.pairwise_append,List.pairwise_append]
   refine ⟨⟨h1.1,by simp,fun a ha b hb=>by simp at hb; subst hb; exact hhi a ha⟩,h1.2.1,fun a ha b hb=>?_⟩
   rcases List.mem_append.1 ha with ha | ha
   ·exact h1.2.2 a ha b hb
   ·simp at ha; subst ha; exact hlo b hb
 intro m
 induction m with
 | zero=>intro z hm; omega
 | succ m ih =>
  intro z hm hz hlo
  unfold q4b
  by_cases h0:z=0
  ·subst h0
   simp only [Int.ofNat_zero,Int.lt_irrefl,decide_false,cond_false,q04,show ((0:Int) > 0)=False by simp]
   have:=fin 0 (by omega) hlo (by simp)
   rwa [Int.ofNat_zero] at this
  ·have e0:decide ((z:Int) > 0)=true:=by simp; omega
   have e1:IntKind.i64.wrap ((z:Int) - 1)=((z - 1:Nat):Int):=wrn (by omega) (by omega)
   obtain ⟨y,hy,hym⟩:=q35 (l:=l) (show z - 1<l.length by omega)
   obtain ⟨v,hv,ev⟩:=h.cod y hym
   obtain ⟨r,r1,r2,r3⟩:=qt3 (x:=⟨s,bt w⟩) (y:=y) rfl ev hw (hws v hv) hn
   simp only [e0,cond_true,e1,q0b,hy,q04,r1]
   cases r with
   | true =>
    simp only [cond_true]
    refine ih (z - 1) (by omega) (by omega) fun x hx=>?_
    rw [drop_cons' hy,show z - 1+1=z by omega] at hx
    rcases List.mem_cons.1 hx with rfl | hx
    ·exact r2 rfl
    ·exact hlo x hx
   | false =>
    simp only [cond_false]
    refine fin z hz hlo fun x hx=>?_
    have h1:=h.srt
    rw [← List.take_append_drop (z - 1) l,List.pairwise_append] at h1
    have:l.take z=l.take (z - 1)++[y]:=by rw [← q0m hy,show z - 1+1=z by omega]
    rw [this] at hx
    rcases List.mem_append.1 hx with hx | hx
    ·exact Nat.le_trans (r3 rfl) (h1.2.2 x hx y (by rw [drop_cons' hy]; simp))
    ·simp at hx; subst hx; exact r3 rfl
structure COK (d:List q01) (l:List q0c):Prop where
 ws:∃ (nm:Nat→Option Str) (c0 ws:List Nat),FI c0 ws∧Clsd ws∧CI nm ws l∧ws.length≤256∧0<ws.length
 dcl:∀ s,Dcl d s→∃ x∈l,x.Name=s
theorem COK.len {d:List q01} {l:List q0c} (h:COK d l):l.length≤256∧0<l.length:=by
 obtain ⟨nm,c0,ws,h1,h2,h3,h4,h5⟩:=h.ws
 have:=h3.len
 omega
theorem COK.cod {d:List q01} {l:List q0c} (h:COK d l):∀ x∈l,∃ w,x.Code=bt w∧w<4096∧w≠0:=fun x hx=>by
 obtain ⟨nm,c0,ws,h1,h2,h3,h4,h5⟩:=h.ws
 obtain ⟨w,hw,e⟩:=h3.cod x hx
 exact ⟨w,e,(h1.ok w hw).1,(h1.ok w hw).2.1⟩
theorem qwg {d:List q01} (hd:d.length≤12) {n:Nat} (hn:5000≤n):∃ l e,q3z n d=some (l,e)∧(e=0→DOK d∧COK d l):=by
 obtain ⟨e,c1,c2⟩:=qtd hd hn
 simp only [q3z,c1,q04]
 by_cases he:e=0
 ·subst he
  have h:=c2 rfl
  obtain ⟨all,n1,n2⟩:=names_ok (d:=d) (by omega) hn
  have hal:all.length≤12:=by have:=n2.len; simp at this; omega
  have hall:∀ s,s∈all↔Dcl d s:=fun s=>by rw [n2.mem]; simp [Dcl,List.mem_map]
  simp only [bne_self_eq_false,cond_false,n1,q04]
  have:=qap (l:=all) (by omega) (F:=fun m z (s:List Nat)=>q3k d n all m z (s.map bt)) (fun i s=>s.length=i∧(∀ w∈s,w<4096)∧∀ (j w:Nat) (t:Str),s[j]? = some w→all[j]? = some t→∀ i:Nat,w.testBit i=true↔∃ u,all[i]? = some u∧Upw d u t) (Q:=fun r=>r.2=0→DOK d∧COK d r.1)
   (fun m i x s hx hlt hd' hw hI ih=>by
    obtain ⟨i1,i2,i3⟩:=hI
    obtain ⟨w,w1,w2,w3⟩:=qzd h hal ((hall x).1 (List.mem_of_getElem? hx)) (fun y hy=>(hall y).1 hy) hn
    simp only [q3k,hd',cond_true,q0b,hx,q04,w1,hw,List.length_map]
    rw [ned (by omega)]
    have:=ih (s++[w]) ⟨by simp; omega,fun v hv=>by
     rcases List.mem_append.1 hv with hv | hv
     ·exact i2 v hv
     ·simp at hv; subst hv; exact w2,fun j v t hj ht=>by
     by_cases e:j<s.length
     ·rw [List.getElem?_append_left e] at hj; exact i3 j v t hj ht
     ·have:j=i:=by have:=(List.getElem?_eq_some_iff.1 hj).1; simp at this; omega
      subst this
      rw [List.getElem?_append_right (by omega),i1,Nat.sub_self] at hj
      simp at hj
      subst hj
      rw [hx] at ht
      cases ht
      exact w3⟩
    rw [List.map_append] at this
    exact this)
   (fun m c0 hd' hI=>by
    obtain ⟨i1,i2,i3⟩:=hI
    have hself:∀ (j w:Nat),c0[j]? = some w→w.testBit j=true:=fun j w hj=>by
     obtain ⟨t,ht,_⟩:=q35 (l:=all) (show j<all.length by have:=(List.getElem?_eq_some_iff.1 hj).1; omega)
     exact (i3 j w t hj ht j).2 ⟨t,ht,.refl⟩
    have hdis:c0.Nodup:=by
     rw [List.Nodup,List.pairwise_iff_getElem]
     intro a b ha hb hab e
     obtain ⟨s,hs,hsm⟩:=q35 (l:=all) (show a<all.length by omega)
     obtain ⟨t,ht,htm⟩:=q35 (l:=all) (show b<all.length by omega)
     have ga:=List.getElem?_eq_getElem ha
     have gb:=List.getElem?_eq_getElem hb
     have h1:=hself a _ ga
     have h2:=hself b _ gb
     rw [e] at h1
     rw [← e] at h2
     obtain ⟨u,hu,hu2⟩:=(i3 b _ t gb ht a).1 h1
     obtain ⟨v,hv,hv2⟩:=(i3 a _ s ga hs b).1 h2
     rw [hs] at hu; cases hu
     rw [ht] at hv; cases hv
     have:=z0d h ((hall s).1 hsm) ((hall t).1 htm) hu2 hv2
     subst this
     obtain ⟨p1,p2⟩:=List.getElem?_eq_some_iff.1 hs
     obtain ⟨q1,q2⟩:=List.getElem?_eq_some_iff.1 ht
     have:=(List.getElem_inj n2.asc.nodup).1 (p2.trans q2.symm)
     omega
    have hok0:∀ a∈c0,a<4096∧a≠0:=fun a ha=>⟨i2 a ha,fun e=>by
     obtain ⟨j,hj,e2⟩:=List.mem_iff_getElem.1 ha
     have:=hself j a (by rw [List.getElem?_eq_getElem hj,e2])
     rw [e] at this
     simp at this⟩
    obtain ⟨ws,f1,f2,f3⟩:=qts (c0:=c0) (by omega) hdis hok0 hn
    simp only [q3k,hd',cond_false,q8d,f1,q04,List.length_map]
    by_cases h256:(ws.length:Int) > 256
    ·simp only [h256,decide_true,cond_true]; exact ⟨_,rfl,fun h=>by cases h⟩
    ·simp only [h256,decide_false,cond_false]
     have hlen:ws.length≤256:=by omega
     have:=qap (l:=ws) (by omega) (F:=fun m z (s:List q0c)=>q27 d n all (c0.map bt) (ws.map bt) m z s) (fun i s=>CI (fun w=>qbu n d all (c0.map bt) (bt w)) (ws.take i) s) (Q:=fun r=>r.2=0→DOK d∧COK d r.1)
      (fun m' i w s hx hlt hd2 hw2 hI2 ih2=>by
       have hwm:=List.mem_of_getElem? hx
       have okw:=f2.ok w hwm
       obtain ⟨t,t1,t2⟩:=qr3 h hal (c0:=c0) i1 i2 okw.1 hn
       have hx2:(ws.map bt)[i]? = some (bt w):=by rw [List.getElem?_map,hx]; rfl
       have hsl:=hI2.len
       rw [List.length_take] at hsl
       simp only [q27,List.length_map,hd2,cond_true,q0b,hx2,q04,t1]
       refine ins_L (w:=w) (s:=t) hI2 (by omega) (fun v hv=>(f2.ok v (List.mem_of_mem_take hv)).1) okw.1 t1 hn (fun l' hl'=>?_) n s.length (by omega) (by omega) (by simp)
       rw [hw2]
       rw [← q0m hx] at hl'
       exact ih2 l' hl')
      (fun m' s hd2 hI2=>by
       rw [List.take_of_length_le (Nat.le_refl _)] at hI2
       simp only [q27,List.length_map,hd2,cond_false,q8e]
       have hpos:0<ws.length:=by
        have hone:0<d.length:=by
         have:=h.one
         cases d with
         | nil=>simp at this
         | cons x d=>simp
        obtain ⟨x,hx,hxm⟩:=q35 (l:=d) hone
        have:=(hall x.Name).2 ⟨x,hxm,rfl⟩
        have:=List.length_pos_of_mem this
        obtain ⟨t,ht⟩:=f2.pre
        rw [ht,List.length_append]
        omega
       refine ⟨_,rfl,fun _=>⟨h,⟨_,c0,ws,f2,f3 hlen,hI2,hlen,hpos⟩,fun t ht=>?_⟩⟩
       obtain ⟨j,hj,e⟩:=List.mem_iff_getElem.1 ((hall t).2 ht)
       have hj':j<c0.length:=by omega
       obtain ⟨p,hp⟩:=f2.pre
       have hwm:c0[j]∈ws:=by rw [hp]; exact List.mem_append_left _ (List.getElem_mem hj')
       obtain ⟨x,hx,_,e2⟩:=hI2.nam _ hwm
       refine ⟨x,hx,?_⟩
       obtain ⟨s2,t1,t2⟩:=qr3 h hal (c0:=c0) i1 i2 (f2.ok _ hwm).1 hn
       rw [t1] at e2
       rw [← Option.some.inj e2]
       exact t2 j t hdis (List.getElem?_eq_getElem hj') (by rw [List.getElem?_eq_getElem hj,e])) n 0 [] (by omega) (by omega) ⟨by simp,by simp,List.Pairwise.nil⟩
     rw [Int.ofNat_zero] at this
     exact this) n 0 [] (by omega) (by omega) ⟨rfl,by simp,fun j w t hj=>by simp at hj⟩
  rw [Int.ofNat_zero] at this
  obtain ⟨r,h1,h2⟩:=this
  exact ⟨r.1,r.2,h1,h2⟩
 ·have:(e != 0)=true:=by simpa using he
  simp only [this,cond_true]
  exact ⟨[],e,rfl,fun h=>absurd h he⟩
end Go.Proofs
end
section
namespace Go.Proofs
open Go Go.Rx Go.Vx Go.Shelf Go.Sort
set_option maxRecDepth 10000
theorem qrq {x:q01} (hx:x.Feats.length≤256) (s:Str) {n:Nat} (hn:5000≤n):∃ r,qah n x s=some r∧(r.2=true→∃ f∈x.Feats,f.Feat=s∧f.Value=r.1):=by
 have:=qap (l:=x.Feats) (by omega) (F:=fun m z (_:Unit)=>q3o x s m z) (fun _ _=>True) (Q:=fun r=>r.2=true→∃ f∈x.Feats,f.Feat=s∧f.Value=r.1)
  (fun m i f _ hf hlt hd' hw _ ih=>by
   simp only [q3o,hd',cond_true,q0b,hf,q04,qz6,hw]
   by_cases e:f.Feat=s
   ·simp only [e,decide_true,cond_true]
    exact ⟨_,rfl,fun _=>⟨f,List.mem_of_getElem? hf,e,rfl⟩⟩
   ·simp only [e,decide_false,cond_false]
    exact ih () trivial)
  (fun m _ hd' _=>by simp only [q3o,hd',cond_false,q8l]; exact ⟨_,rfl,fun h=>by cases h⟩) n 0 () (by omega) (by omega) trivial
 rw [Int.ofNat_zero] at this
 exact this
theorem qjw {l:List q0c} (hl:l.length≤256) (s:Str) {n:Nat} (hn:5000≤n):∃ r,q6n n l s=some r∧((∃ x∈l,x.Name=s)→∃ j:Nat,r=(j:Int)∧j<l.length):=by
 have:=qap (l:=l) (by omega) (F:=fun m z (_:Unit)=>q30 l s m z) (fun i _=>∀ x∈l.take i,x.Name≠s) (Q:=fun r=>(∃ x∈l,x.Name=s)→∃ j:Nat,r=(j:Int)∧j<l.length)
  (fun m i x _ hx hlt hd' hw hI ih=>by
   simp only [q30,hd',cond_true,q0b,hx,q04,qz6,hw]
   by_cases e:x.Name=s
   ·simp only [e,decide_true,cond_true]
    exact ⟨_,rfl,fun _=>⟨i,rfl,hlt⟩⟩
   ·simp only [e,decide_false,cond_false]
    refine ih () fun y hy=>?_
    rw [q0m hx] at hy
    rcases List.mem_append.1 hy with hy | hy
    ·exact hI y hy
    ·simp at hy; subst hy; exact e)
  (fun m _ hd' hI=>by
   rw [List.take_of_length_le (Nat.le_refl _)] at hI
   simp only [q30,hd',cond_false,q7b]
   exact ⟨_,rfl,fun ⟨x,hx,e⟩=>absurd e (hI x hx)⟩) n 0 () (by omega) (by omega) (by simp)
 rw [Int.ofNat_zero] at this
 exact this
theorem qwq {d:List q01} (hd:d.length≤12) (hf:∀ x∈d,x.Feats.length≤256) {n:Nat} (hn:5000≤n):∃ f,q69 n d=some f∧AscS f∧f.length≤3072∧∀ s∈f,∃ x∈d,∃ y∈x.Feats,y.Feat=s:=by
 have:=qap (l:=d) (by omega) (F:=fun m z s=>q1q d n m s z) (fun i s=>AscS s∧s.length≤256*i∧∀ t∈s,∃ x∈d,∃ y∈x.Feats,y.Feat=t) (Q:=fun f=>AscS f∧f.length≤3072∧∀ s∈f,∃ x∈d,∃ y∈x.Feats,y.Feat=s)
  (fun m i x s hx hlt hd' hw hI ih=>by
   obtain ⟨i1,i2,i3⟩:=hI
   have hxm:=List.mem_of_getElem? hx
   have hxf:=hf x hxm
   simp only [q1q,hd',cond_true]
   have:=qap (l:=x.Feats) (by omega) (F:=fun m' z s'=>q3n d n i (q1q d n m) m' s' z) (fun k s'=>AscS s'∧s'.length≤s.length+k∧∀ t∈s',∃ x∈d,∃ y∈x.Feats,y.Feat=t) (Q:=fun f=>AscS f∧f.length≤3072∧∀ s∈f,∃ x∈d,∃ y∈x.Feats,y.Feat=s)
    (fun m' k y s' hy hlt2 hd2 hw2 hI2 ih2=>by
     obtain ⟨j1,j2,j3⟩:=hI2
     obtain ⟨o,h1,h2,h3,h4⟩:=qm0 (l:=s') (by omega) j1 y.Feat (show s'.length<n by omega)
     simp only [q3n,q0b,hx,q04,hd2,cond_true,hy,h1,hw2]
     refine ih2 o ⟨h4,by omega,fun t ht=>?_⟩
     rcases (h2 t).1 ht with rfl | ht
     ·exact ⟨x,hxm,y,List.mem_of_getElem? hy,rfl⟩
     ·exact j3 t ht)
    (fun m' s' hd2 hI2=>by
     obtain ⟨j1,j2,j3⟩:=hI2
     simp only [q3n,q0b,hx,q04,hd2,cond_false,q8j,hw]
     exact ih s' ⟨j1,by omega,j3⟩) n 0 s (by omega) (by omega) ⟨i1,by omega,i3⟩
   rw [Int.ofNat_zero] at this
   exact this)
  (fun m s hd' hI=>by
   simp only [q1q,hd',cond_false,q8i]
   exact ⟨s,rfl,hI.1,by have:=hI.2.1; omega,hI.2.2⟩) n 0 [] (by omega) (by omega) ⟨List.Pairwise.nil,by simp,by simp⟩
 rw [Int.ofNat_zero] at this
 exact this
theorem qs6 (s:Str) {n:Nat} (hn:40≤n):∃ r,q22 n s=some r:=by
 obtain ⟨r,h1,_⟩:=qr4 s true hn
 exact ⟨r,by simp [q22,h1,q04]⟩
def FeaI (d:List q01) (n:Nat) (x:q01):Prop:=∀ f∈x.Feats,q22 n f.Feat=some true∧Dcl d f.Value
theorem qj8 {d:List q01} (h:DOK d) {n:Nat} (hn:5000≤n):∃ e,q3a n d=some e∧(e=0→∀ x∈d,FeaI d n x):=by
 have hd:=h.len
 obtain ⟨all,n1,n2⟩:=names_ok (d:=d) (by omega) hn
 have hal:all.length≤12:=by have:=n2.len; simp at this; omega
 have hall:∀ s,s∈all↔Dcl d s:=fun s=>by rw [n2.mem]; simp [Dcl,List.mem_map]
 have:=qap (l:=d) (by omega) (F:=fun m z (_:Unit)=>q0f d n all m z) (fun i _=>∀ x∈d.take i,FeaI d n x) (Q:=fun e=>e=0→∀ x∈d,FeaI d n x)
  (fun m i x _ hx hlt hd' hw hI ih=>by
   have hxf:=(h.siz x (List.mem_of_getElem? hx)).2
   simp only [q0f,hd',cond_true,q0b,hx,q04]
   have:=qap (l:=x.Feats) (by omega) (F:=fun m' z (_:Unit)=>q0q n all i (q0f d n all m) x m' z) (fun k _=>∀ f∈x.Feats.take k,q22 n f.Feat=some true∧Dcl d f.Value) (Q:=fun e=>e=0→∀ x∈d,FeaI d n x)
    (fun m' k f _ hf hlt2 hd2 hw2 hI2 ih2=>by
     obtain ⟨r,r1⟩:=qs6 f.Feat (n:=n) (by omega)
     simp only [q0q,hd2,cond_true,q0b,hf,q04,r1]
     cases r with
     | false=>exact ⟨1,rfl,fun h=>by cases h⟩
     | true =>
      simp only [Bool.not_true,cond_false]
      have hk:((k:Int)≤(x.Feats.length:Int)):=by omega
      have key:∀ (m3 j:Nat),k - j<m3→j≤k→∃ e,q1k n all x k (q0q n all i (q0f d n all m) x m') m3 j=some e∧(e=0→∀ x∈d,FeaI d n x):=by
       intro m3
       induction m3 with
       | zero=>intro j hm; omega
       | succ m3 ih3 =>
        intro j hm hj
        unfold q1k
        by_cases hjk:j<k
        ·obtain ⟨g,hg,_⟩:=q35 (l:=x.Feats) (show j<x.Feats.length by omega)
         have e0:decide ((j:Int)<(k:Int))=true:=by simp; omega
         have e1:IntKind.i64.wrap ((j:Int)+1)=((j+1:Nat):Int):=wrn (by omega) (by omega)
         simp only [e0,cond_true,q0b,hg,hf,q04,e1]
         cases q0k g.Feat f.Feat with
         | true=>exact ⟨4,rfl,fun h=>by cases h⟩
         | false=>exact ih3 (j+1) (by omega) (by omega)
        ·have e0:decide ((j:Int)<(k:Int))=false:=by simp; omega
         simp only [e0,cond_false,q3d,q0b,hf,q04,q9b (l:=all) (by omega) f.Value (n:=n) (by omega),hw2]
         by_cases hm2:f.Value∈all
         ·simp only [hm2,decide_true,Bool.not_true,cond_false]
          refine ih2 () fun y hy=>?_
          rw [q0m hf] at hy
          rcases List.mem_append.1 hy with hy | hy
          ·exact hI2 y hy
          ·simp at hy; subst hy; exact ⟨r1,(hall _).1 hm2⟩
         ·simp only [hm2,decide_false,Bool.not_false,cond_true]
          exact ⟨5,rfl,fun h=>by cases h⟩
      have:=key n 0 (by omega) (by omega)
      rw [Int.ofNat_zero] at this
      exact this)
    (fun m' _ hd2 hI2=>by
     rw [List.take_of_length_le (Nat.le_refl _)] at hI2
     simp only [q0q,hd2,cond_false,q3c,hw]
     refine ih () fun y hy=>?_
     rw [q0m hx] at hy
     rcases List.mem_append.1 hy with hy | hy
     ·exact hI y hy
     ·simp at hy; subst hy; exact hI2) n 0 () (by omega) (by omega) (by simp)
   rw [Int.ofNat_zero] at this
   exact this)
  (fun m _ hd' hI=>by
   rw [List.take_of_length_le (Nat.le_refl _)] at hI
   simp only [q0f,hd',cond_false,q3b]
   exact ⟨0,rfl,fun _=>hI⟩) n 0 () (by omega) (by omega) (by simp)
 rw [Int.ofNat_zero] at this
 simp only [q3a,n1,q04]
 exact this
theorem qqr {d:List q01} (h:DOK d) (s:Str) {n:Nat} (hn:5000≤n):∃ r,qag n d s=some r:=by
 have hd:=h.len
 have:=qap (l:=d) (by omega) (F:=fun m z t=>q29 d s n m t z) (fun i t=>AscS t∧t.length≤i) (Q:=fun _=>True)
  (fun m i x t hx hlt hd' hw hI ih=>by
   obtain ⟨i1,i2⟩:=hI
   obtain ⟨r,r1,_⟩:=qrq (h.siz x (List.mem_of_getElem? hx)).2 s hn
   simp only [q29,hd',cond_true,q0b,hx,q04,r1,q5s,hw]
   cases r.2 with
   | true =>
    obtain ⟨o,h1,h2,h3,h4⟩:=qm0 (l:=t) (by omega) i1 x.Name (show t.length<n by omega)
    simp only [cond_true,h1,q04]
    exact ih o ⟨h4,by omega⟩
   | false=>exact ih t ⟨i1,by omega⟩)
  (fun m t hd' hI=>by
   obtain ⟨out,m1,m2,m3⟩:=qlx h (l:=t) (by have:=hI.2; omega) hn
   simp only [q29,hd',cond_false,q8k,m1,q04]
   by_cases e:(out.length:Int)=1
   ·obtain ⟨x,hx,_⟩:=q35 (l:=out) (show 0<out.length by omega)
    have h0:q0o out 0=some x:=by rw [← hx]; exact q0b 0
    simp only [e,bne_self_eq_false,cond_false,h0,q04]
    exact ⟨_,rfl,trivial⟩
   ·have:((out.length:Int) != 1)=true:=by simpa using e
    simp only [this,cond_true]
    exact ⟨_,rfl,trivial⟩) n 0 [] (by omega) (by omega) ⟨List.Pairwise.nil,by simp⟩
 rw [Int.ofNat_zero] at this
 obtain ⟨r,h1,_⟩:=this
 exact ⟨r,h1⟩
theorem qcx {d:List q01} {l:List q0c} (h:COK d l) {i j:Nat} (hi:i<l.length) (hj:j<l.length) {n:Nat} (hn:5000≤n):∃ b,q2w n l i j=some b:=by
 obtain ⟨x,hx,hxm⟩:=q35 hi
 obtain ⟨y,hy,hym⟩:=q35 hj
 obtain ⟨a,a1,a2,_⟩:=h.cod x hxm
 obtain ⟨b,b1,b2,_⟩:=h.cod y hym
 simp only [q2w,q0b,hx,hy,q04,a1,b1,qkk b2 a2 (show 5≤n by omega)]
 exact ⟨_,rfl⟩
theorem qhy {d:List q01} (h:DOK d) {l:List q0c} (hl:COK d l) (hv:∀ x∈d,∀ f∈x.Feats,Dcl d f.Value) {t:Nat} (ht:t<l.length) (s:Str) {n:Nat} (hn:5000≤n):∃ w b,q3v n d l t s=some (bt w,b)∧w<4096:=by
 have hd:=h.len
 have hll:=hl.len
 obtain ⟨x0,hx0,hxm0⟩:=q35 (l:=l) hll.2
 obtain ⟨w0,a1,a2,_⟩:=hl.cod x0 hxm0
 have:=qap (l:=d) (by omega) (F:=fun m z (s':Bool×Nat)=>q1a d l t s n m s'.1 (bt s'.2) z) (fun _ s'=>s'.2<4096) (Q:=fun r=>∃ w b,r=(bt w,b)∧w<4096)
  (fun m i x s' hx hlt hd' hw hI ih=>by
   have hxm:=List.mem_of_getElem? hx
   obtain ⟨r,r1,r2⟩:=qrq (h.siz x hxm).2 s hn
   simp only [q1a,hd',cond_true,q0b,hx,q04,r1,hw]
   cases hr:r.2 with
   | false=>simp only [Bool.not_false,cond_true,q04]; exact ih s' hI
   | true =>
    obtain ⟨p,p1,p2⟩:=qjw (l:=l) (by omega) x.Name hn
    obtain ⟨j,rfl,hj⟩:=p2 (hl.dcl _ ⟨x,hxm,rfl⟩)
    obtain ⟨b,b1⟩:=qcx hl hj ht hn
    simp only [Bool.not_true,cond_false,p1,q04,b1]
    cases b with
    | false=>simp only [Bool.not_false,cond_true]; exact ih s' hI
    | true =>
     obtain ⟨f,hf,_,e2⟩:=r2 hr
     obtain ⟨q,q1,q2⟩:=qjw (l:=l) (by omega) r.1 hn
     obtain ⟨k,rfl,hk⟩:=q2 (hl.dcl _ (e2 ▸ hv x hxm f hf))
     obtain ⟨y,hy,hym⟩:=q35 hk
     obtain ⟨v,v1,v2,_⟩:=hl.cod y hym
     simp only [Bool.not_true,cond_false,q1,q04,q0b,hy,v1,qxy hI v2 (show 5≤n by omega)]
     exact ih (true,s'.2 &&& v) (Nat.lt_of_le_of_lt Nat.and_le_left hI))
  (fun m s' hd' hI=>by
   simp only [q1a,hd',cond_false,q4l]
   exact ⟨_,rfl,s'.2,s'.1,rfl,hI⟩) n 0 (false,w0) (by omega) (by omega) a2
 rw [Int.ofNat_zero] at this
 obtain ⟨r,h1,w,b,rfl,h2⟩:=this
 have h0:q0o l 0=some x0:=by rw [← hx0]; exact q0b 0
 exact ⟨w,b,by simp only [q3v,h0,q04,a1]; exact h1,h2⟩
structure qvv (d:List q01) (n:Nat) (l:List q0c) (f:List Str):Prop where
 dok:DOK d
 cod:q3z n d=some (l,0)
 cok:COK d l
 fea:q69 n d=some f
 asc:AscS f
 len:f.length≤64
 val:∀ x∈d,FeaI d n x
 mem:∀ s∈f,∃ x∈d,∃ y∈x.Feats,y.Feat=s
theorem qns {d:List q01} (hd:d.length≤12) {n:Nat} (hn:5000≤n):∃ e,q4z n d=some e∧(e=0→∃ l f,qvv d n l f):=by
 obtain ⟨l,e,c1,c2⟩:=qwg hd hn
 simp only [q4z,c1,q04]
 by_cases he:e=0
 ·subst he
  obtain ⟨h,hl⟩:=c2 rfl
  have hll:=hl.len
  obtain ⟨f,f1,f2,f3,f4⟩:=qwq hd (fun x hx=>(h.siz x hx).2) hn
  simp only [bne_self_eq_false,cond_false,f1,q04]
  by_cases h64:(f.length:Int) > 64
  ·simp only [h64,decide_true,cond_true]; exact ⟨7,rfl,fun h=>by cases h⟩
  ·obtain ⟨e2,d1,d2⟩:=qj8 h hn
   simp only [h64,decide_false,cond_false,d1,q04]
   by_cases he2:e2=0
   ·subst he2
    have hv:=d2 rfl
    have hok:qvv d n l f:=⟨h,c1,hl,f1,f2,by omega,hv,f4⟩
    simp only [bne_self_eq_false,cond_false]
    have:=qap (l:=f) (by omega) (F:=fun m z (_:Unit)=>q3l d n (l,0) f m z) (fun _ _=>True) (Q:=fun e=>e=0→∃ l f,qvv d n l f)
     (fun m i s _ hs hlt hd' hw _ ih=>by
      obtain ⟨r,r1⟩:=qqr h s hn
      simp only [q3l,hd',cond_true,q0b,hs,q04,r1,hw]
      cases r.2 with
      | false=>exact ⟨10,rfl,fun h=>by cases h⟩
      | true=>exact ih () trivial)
     (fun m _ hd' _=>by
      simp only [q3l,hd',cond_false,q8f]
      have:=qap (l:=l) (by omega) (F:=fun m z (_:Unit)=>q1p d n (l,0) f m z) (fun _ _=>True) (Q:=fun e=>e=0→∃ l f,qvv d n l f)
       (fun m t _ _ _ hlt2 hd2 hw2 _ ih2=>by
        simp only [q1p,hd2,cond_true]
        have:=qap (l:=f) (by omega) (F:=fun m' z (_:Unit)=>q3m d n (l,0) f t (q1p d n (l,0) f m) m' z) (fun _ _=>True) (Q:=fun e=>e=0→∃ l f,qvv d n l f)
         (fun m' i s _ hs hlt3 hd3 hw3 _ ih3=>by
          obtain ⟨w,b,i1,_⟩:=qhy h hl (fun x hx y hy=>(hv x hx y hy).2) hlt2 s hn
          simp only [q3m,hd3,cond_true,q0b,hs,q04,i1,hw3]
          cases b with
          | false=>exact ih3 () trivial
          | true =>
           simp only [cond_true,q04]
           cases (((bt w).length:Int) == 0) with
           | true=>exact ⟨11,rfl,fun h=>by cases h⟩
           | false=>exact ih3 () trivial)
         (fun m' _ hd3 _=>by
          simp only [q3m,hd3,cond_false,q8h,hw2]
          exact ih2 () trivial) n 0 () (by omega) (by omega) trivial
        rw [Int.ofNat_zero] at this
        exact this)
       (fun m _ hd2 _=>by
        simp only [q1p,hd2,cond_false,q8g]
        exact ⟨0,rfl,fun _=>⟨l,f,hok⟩⟩) n 0 () (by omega) (by omega) trivial
      rw [Int.ofNat_zero] at this
      exact this) n 0 () (by omega) (by omega) trivial
    rw [Int.ofNat_zero] at this
    exact this
   ·have:(e2 != 0)=true:=by simpa using he2
    simp only [this,cond_true]
    exact ⟨e2,rfl,fun h=>absurd h he2⟩
 ·have:(e != 0)=true:=by simpa using he
  simp only [this,cond_true]
  exact ⟨e,rfl,fun h=>absurd h he⟩
theorem qws {d:List q01} {l:List q0c} (hl:COK d l) {w n:Nat} (hn:5000≤n):∃ r,qbs n l (bt w)=some r:=by
 have hll:=hl.len
 have:=qap (l:=l) (by omega) (F:=fun m z (_:Unit)=>q40 l n (bt w) m z) (fun _ _=>True) (Q:=fun _=>True)
  (fun m i x _ hx hlt hd' hw _ ih=>by
   obtain ⟨a,a1,_⟩:=hl.cod x (List.mem_of_getElem? hx)
   simp only [q40,hd',cond_true,q0b,hx,q04,a1,qrj (a:=a) (b:=w) (n:=n) (by omega),hw]
   cases decide (a=w) with
   | true=>exact ⟨_,rfl,trivial⟩
   | false=>exact ih () trivial)
  (fun m _ hd' _=>by simp only [q40,hd',cond_false,q9p]; exact ⟨_,rfl,trivial⟩) n 0 () (by omega) (by omega) trivial
 rw [Int.ofNat_zero] at this
 obtain ⟨r,h1,_⟩:=this
 exact ⟨r,by simp only [qbs,qzw (w:=w) (n:=n) (by omega),q04]; exact h1⟩
theorem qvr {d:List q01} (hd:d.length≤12) {n:Nat} (hn:5000≤n):∃ v e,q6m n d=some (v,e)∧(e=0→∃ l f,qvv d n l f∧v.length=l.length):=by
 obtain ⟨e,c1,c2⟩:=qns hd hn
 simp only [q6m,c1,q04]
 by_cases he:e=0
 ·subst he
  obtain ⟨l,f,h⟩:=c2 rfl
  have hll:=h.cok.len
  have hfl:=h.len
  simp only [bne_self_eq_false,cond_false,h.cod,h.fea,q04]
  have:=qap (l:=l) (by omega) (F:=fun m z s=>q16 d n (l,0) f m z s) (fun i s=>s.length=i) (Q:=fun r=>r.2=0→∃ l f,qvv d n l f∧r.1.length=l.length)
   (fun m t _ s _ hlt hd' hw hI ih=>by
    simp only [q16,hd',cond_true]
    have:=qap (l:=f) (by omega) (F:=fun m' z s'=>q1u d n (l,0) f t s (q16 d n (l,0) f m) m' z s') (fun i s'=>s'.length≤i) (Q:=fun r=>r.2=0→∃ l f,qvv d n l f∧r.1.length=l.length)
     (fun m' i x s' hx hlt2 hd2 hw2 hI2 ih2=>by
      obtain ⟨w,b,i1,_⟩:=qhy h.dok h.cok (fun x hx y hy=>(h.val x hx y hy).2) hlt x hn
      simp only [q1u,hd2,cond_true,q0b,hx,q04,i1,q50,hw2]
      cases b with
      | true =>
       obtain ⟨r,r1⟩:=qws h.cok (w:=w) hn
       simp only [cond_true,r1,q04]
       rw [ned (by omega)]
       exact ih2 _ (by simp; omega)
      | false=>exact ih2 s' (by omega))
     (fun m' s' hd2 hI2=>by
      simp only [q1u,hd2,cond_false,q7a,hw]
      rw [ned (by omega)]
      exact ih _ (by simp; omega)) n 0 [] (by omega) (by omega) (by simp)
    rw [Int.ofNat_zero] at this
    exact this)
   (fun m s hd' hI=>by
    simp only [q16,hd',cond_false,q79]
    exact ⟨_,rfl,fun _=>⟨l,f,h,hI⟩⟩) n 0 [] (by omega) (by omega) (by simp)
  rw [Int.ofNat_zero] at this
  obtain ⟨r,h1,h2⟩:=this
  exact ⟨r.1,r.2,h1,h2⟩
 ·have:(e != 0)=true:=by simpa using he
  simp only [this,cond_true]
  exact ⟨[],e,rfl,fun h=>absurd h he⟩
theorem qsr {d:List q01} {l:List q0c} (h:COK d l) {t:Nat} (ht:t<l.length) {n:Nat} (hn:5000≤n):∃ r,qb5 n l t=some r:=by
 have hll:=h.len
 have:=qap (l:=l) (by omega) (F:=fun m z s=>q0x l t n m z s) (fun i s=>s.length≤i) (Q:=fun _=>True)
  (fun m k _ s _ hlt hd' hw hI ih=>by
   obtain ⟨b,b1⟩:=qcx h hlt ht hn
   simp only [q0x,hd',cond_true,b1,q04,hw]
   have go:∃ r,q2e l t n k s (q0x l t n m) n true 0=some r∧True:=by
    have:=qap (l:=l) (by omega) (F:=fun m' z b=>q2e l t n k s (q0x l t n m) m' b z) (fun _ _=>True) (Q:=fun _=>True)
     (fun m' i _ b _ hlt2 hd2 hw2 _ ih2=>by
      obtain ⟨b1,g1⟩:=qcx h hlt hlt2 hn
      obtain ⟨b2,g2⟩:=qcx h hlt2 ht hn
      simp only [q2e,hd2,cond_true,hw2,g1,g2,q04]
      cases b with
      | false=>exact ih2 false trivial
      | true =>
       cases ((i:Int) == (t:Int)) with
       | true=>exact ih2 true trivial
       | false =>
        cases ((i:Int) == (k:Int)) with
        | true=>exact ih2 true trivial
        | false =>
         cases b1 with
         | false=>exact ih2 true trivial
         | true=>exact ih2 _ trivial)
     (fun m' b hd2 _=>by
      simp only [q2e,hd2,cond_false,q75,q4v,hw]
      cases b with
      | true =>
       simp only [cond_true]
       rw [ned (by omega)]
       exact ih _ (by simp; omega)
      | false=>exact ih s (by omega)) n 0 true (by omega) (by omega) trivial
    rw [Int.ofNat_zero] at this
    exact this
   cases ((k:Int) == (t:Int)) with
   | true=>simp only [cond_true,q04]; exact ih s (by omega)
   | false =>
    simp only [cond_false,q04]
    cases b with
    | false=>simp only [Bool.not_false,cond_true]; exact ih s (by omega)
    | true=>simp only [Bool.not_true,cond_false]; exact go)
  (fun m s hd' hI=>by simp only [q0x,hd',cond_false,q74]; exact ⟨_,rfl,trivial⟩) n 0 [] (by omega) (by omega) (by simp)
 rw [Int.ofNat_zero] at this
 obtain ⟨r,h1,_⟩:=this
 exact ⟨r,h1⟩
theorem qpj {d:List q01} {n:Nat} (hn:5000≤n) {l:List q0c} {f:List Str} (h:qvv d n l f) (hc:q4z n d=some 0):∃ r,q5r n d=some (r,0)∧r.map q0s.Name=f:=by
 have hll:=h.cok.len
 have hfl:=h.len
 have:=qap (l:=f) (by omega) (F:=fun m z s=>q20 d n (l,0) f m z s) (fun i s=>s.map q0s.Name=f.take i) (Q:=fun r=>r.2=0∧r.1.map q0s.Name=f)
  (fun m i x s hx hlt hd' hw hI ih=>by
   obtain ⟨r,r1⟩:=qqr h.dok x hn
   obtain ⟨q,q1,_⟩:=qjw (l:=l) (by omega) r.1 hn
   have hsl:s.length=i:=by have:=congrArg List.length hI; simp at this; omega
   simp only [q20,hd',cond_true,q0b,hx,q04,r1,q1,hw]
   rw [ned (by omega)]
   exact ih _ (by rw [List.map_append,hI,q0m hx]; rfl))
  (fun m s hd' hI=>by
   rw [List.take_of_length_le (Nat.le_refl _)] at hI
   simp only [q20,hd',cond_false,q5b]
   exact ⟨_,rfl,rfl,hI⟩) n 0 [] (by omega) (by omega) (by simp)
 rw [Int.ofNat_zero] at this
 obtain ⟨r,h1,h2,h3⟩:=this
 refine ⟨r.1,?_,h3⟩
 simp only [q5r,hc,q04,bne_self_eq_false,cond_false,h.cod,h.fea,h1]
 rw [← h2]
structure HOK (d:List q01) (n:Nat) (h:q09):Prop where
 ex:∃ l f,qvv d n l f∧h.Types.map qd2.Code=l.map q0c.Code∧h.Feats.map q0s.Name=f
theorem qs1 {d:List q01} (hd:d.length≤12) {n:Nat} (hn:5000≤n):∃ h e,q5c n d=some (h,e)∧(e=0→HOK d n h)∧(e≠0→h=⟨[],[]⟩):=by
 obtain ⟨v,e,v1,v2⟩:=qvr hd hn
 simp only [q5c,v1,q04]
 by_cases he:e=0
 ·subst he
  obtain ⟨l,f,h,hv⟩:=v2 rfl
  have hll:=h.cok.len
  have hc:q4z n d=some 0:=by
   obtain ⟨e,c1,c2⟩:=qns hd hn
   by_cases h0:e=0
   ·rw [c1,h0]
   ·have:(e != 0)=true:=by simpa using h0
    simp only [q6m,c1,q04,this,cond_true,Option.some.injEq,Prod.mk.injEq] at v1
    exact absurd v1.2 h0
  obtain ⟨fs,g1,g2⟩:=qpj hn h hc
  simp only [bne_self_eq_false,cond_false,h.cod,q04]
  have:=qap (l:=l) (by omega) (F:=fun m z s=>q2i d n (v,0) (l,0) m z s) (fun i s=>s.map qd2.Code=(l.take i).map q0c.Code) (Q:=fun r=>r.2=0∧HOK d n r.1)
   (fun m i x s hx hlt hd' hw hI ih=>by
    obtain ⟨r,r1⟩:=qsr h.cok hlt hn
    obtain ⟨y,hy,_⟩:=q35 (l:=v) (show i<v.length by omega)
    have hsl:s.length=i:=by have:=congrArg List.length hI; simp at this; omega
    simp only [q2i,hd',cond_true,q0b,hx,hy,q04,r1,hw]
    rw [ned (by omega)]
    exact ih _ (by rw [List.map_append,hI,q0m hx,List.map_append]; rfl))
   (fun m s hd' hI=>by
    rw [List.take_of_length_le (Nat.le_refl _)] at hI
    simp only [q2i,hd',cond_false,q5z,g1,q04]
    exact ⟨_,rfl,rfl,⟨l,f,h,hI,g2⟩⟩) n 0 [] (by omega) (by omega) (by simp)
  rw [Int.ofNat_zero] at this
  obtain ⟨r,h1,h2,h3⟩:=this
  exact ⟨r.1,r.2,h1,fun _=>h3,fun h=>absurd h2 h⟩
 ·have:(e != 0)=true:=by simpa using he
  simp only [this,cond_true]
  exact ⟨_,e,rfl,fun h=>absurd h he,fun _=>rfl⟩
end Go.Proofs
end
section
namespace Go.Proofs
open Go Go.Rx Go.Vx Go.Shelf Go.Sort
set_option maxRecDepth 10000
def spl (c:UInt8):Str→List Str
 | []=>[[]]
 | b::s=>if b=c then []::spl c s else match spl c s with
  | p::r=>(b::p)::r
  | []=>[[b]]
theorem qyv (c:UInt8):∀ s:Str,spl c s≠[]
 | []=>by simp [spl]
 | b::s=>by
  simp only [spl]
  split
  ·simp
  ·split<;>simp
theorem qna {c b:UInt8} (h:b≠c) (s:Str):∃ p r,spl c s=p::r∧spl c (b::s)=(b::p)::r:=by
 cases e:spl c s with
 | nil=>exact absurd e (qyv c s)
 | cons p r=>exact ⟨p,r,rfl,by simp [spl,h,e]⟩
theorem qvi {c:UInt8}:∀ {s:Str},c ∉ s→spl c s=[s]
 | [],_=>rfl
 | b::s,h=>by
  rw [List.mem_cons,not_or] at h
  obtain ⟨p,r,e1,e2⟩:=qna (c:=c) (b:=b) (fun e=>h.1 e.symm) s
  rw [qvi h.2] at e1
  cases e1
  rw [e2]
theorem qvh {c:UInt8}:∀ {a:Str} (b:Str),c ∉ a→spl c (a++c::b)=a::spl c b
 | [],b,_=>by simp [spl]
 | x::a,b,h=>by
  rw [List.mem_cons,not_or] at h
  obtain ⟨p,r,e1,e2⟩:=qna (c:=c) (b:=x) (fun e=>h.1 e.symm) (a++c::b)
  rw [qvh b h.2] at e1
  cases e1
  exact e2
def jn (c:UInt8):List Str→Str
 | []=>[]
 | [x]=>x
 | x::y::l=>x++c::jn c (y::l)
theorem qzm (c:UInt8) (x:Str) {l:List Str} (h:l≠[]):jn c (x::l)=x++c::jn c l:=by
 cases l with
 | nil=>exact absurd rfl h
 | cons y l=>rfl
theorem qqt (c:UInt8):∀ l:List Str,[c].intercalate l=jn c l
 | []=>rfl
 | [x]=>by simp [List.intercalate,jn]
 | x::y::l=>by
  have:=qqt c (y::l)
  simp only [List.intercalate,List.intersperse,List.flatten_cons,jn] at *
  rw [this]
  rfl
theorem qyg (c:UInt8):∀ s:Str,jn c (spl c s)=s
 | []=>rfl
 | b::s=>by
  have ih:=qyg c s
  by_cases h:b=c
  ·subst h
   have:spl b (b::s)=[]::spl b s:=by simp [spl]
   rw [this,qzm b [] (qyv b s),ih]
   rfl
  ·obtain ⟨p,r,e1,e2⟩:=qna h s
   rw [e1] at ih
   rw [e2]
   cases r with
   | nil=>simp [jn] at ih ⊢; exact ih
   | cons y r=>simp [jn] at ih ⊢; exact ih
theorem qsp (c:UInt8):∀ (k:Nat) (s:Str),s.length≤k→Lib.splitK [c] 0 (Lib.count s [c]) s=spl c s:=by
 intro k
 induction k with
 | zero =>
  intro s hs
  have:s=[]:=List.length_eq_zero_iff.1 (by omega)
  subst this
  rfl
 | succ k ih =>
  intro s hs
  have hge:=Lib.indexByte_ge s c
  by_cases h:Lib.indexByte s c = -1
  ·have h2:Lib.index s [c] = -1:=by rw [Lib.index_one,h]
   have h3:=Lib.indexByte_none h
   rw [Lib.count_miss h2,qvi fun hm=>by
    obtain ⟨i,hi,e⟩:=List.mem_iff_getElem.1 hm
    exact h3 i (by rw [List.getElem?_eq_getElem hi,e])]
   rfl
  ·obtain ⟨i,hi⟩:∃ i:Nat,Lib.indexByte s c=(i:Int):=⟨(Lib.indexByte s c).toNat,by omega⟩
   have h2:Lib.index s [c]=(i:Int):=by rw [Lib.index_one,hi]
   obtain ⟨h3,h4⟩:=Lib.indexByte_some hi
   have hlt:=(List.getElem?_eq_some_iff.1 h3).1
   have hsplit:s=s.take i++c::s.drop (i+1):=by rw [← drop_cons' h3,List.take_append_drop]
   have hno:c ∉ s.take i:=fun hm=>by
    obtain ⟨j,hj,e⟩:=List.mem_iff_getElem.1 hm
    rw [List.length_take] at hj
    rw [List.getElem_take] at e
    exact h4 j (by omega) (by rw [List.getElem?_eq_getElem (by omega),e])
   have e1:Lib.count s [c]=Lib.count (s.drop (i+1)) [c]+1:=by
    have:=Lib.count_hit (sub:=[c]) (by simp) h2
    rw [this]
    simp
    omega
   have e2:¬ (Lib.index s [c] == -1)=true:=by rw [h2]; simp
   rw [e1,Lib.splitK,if_neg e2,h2,Int.toNat_natCast,Nat.add_zero]
   rw [show [c].length=1 from rfl,ih (s.drop (i+1)) (by simp; omega)]
   conv=>rhs; rw [hsplit]
   rw [qvh _ hno]
theorem qxo {s:Str} (hs:s.length≤100000) (n:Nat):q7g n s [46]=some (spl 46 s):=by
 simp only [q7g]
 rw [if_pos (by omega),qsp 46 s.length s (Nat.le_refl _)]
theorem byte46 (x:UInt8):((x.toNat:Int) == 46)=decide (x=46):=by
 rw [Bool.eq_iff_iff,beq_iff_eq,decide_eq_true_eq]
 constructor
 ·intro h
  apply UInt8.toNat_inj.1
  have:(46:UInt8).toNat=46:=rfl
  omega
 ·rintro rfl; rfl
theorem qpy {s:Str} (hs:s.length≤100000):∀ (m k i:Nat) (acc:List Str),s.length+2 - i≤m→k≤i→i≤s.length→acc.length≤i→(46:UInt8) ∉ (s.drop k).take (i - k)→q2a s m k i acc=some (acc++spl 46 (s.drop k))
 | 0,k,i,acc,hm,_,_,_,_=>by omega
 | m+1,k,i,acc,hm,hk,hi,hac,hno=>by
  have e0:decide ((i:Int)≤(s.length:Int))=true:=by simp; omega
  have ew:IntKind.i64.wrap ((i:Int)+1)=((i+1:Nat):Int):=wrn (by omega) (by omega)
  unfold q2a
  simp only [e0,cond_true,ew,q5t]
  by_cases hlt:i<s.length
  ·obtain ⟨x,hx,_⟩:=q35 hlt
   have e1:((i:Int) == (s.length:Int))=false:=by simp; omega
   simp only [e1,cond_false,qgt hx,q04,byte46]
   by_cases h46:x=46
   ·subst h46
    simp only [decide_true,cond_true,qtj hk (show i≤s.length by omega),q04]
    rw [ned (by omega)]
    have ih:=qpy hs m (i+1) (i+1) (acc++[(s.drop k).take (i - k)]) (by omega) (by omega) (by omega) (by simp; omega) (by simp)
    rw [ih]
    have hd:s.drop k=(s.drop k).take (i - k)++46::s.drop (i+1):=by
     conv=>lhs; rw [← List.take_append_drop (i - k) (s.drop k)]
     rw [List.drop_drop,show k+(i - k)=i by omega,drop_cons' hx]
    conv=>rhs; rw [hd]
    rw [qvh _ hno,List.append_assoc]
    rfl
   ·simp only [h46,decide_false,cond_false]
    refine qpy hs m k (i+1) acc (by omega) (by omega) (by omega) (by omega) ?_
    have hsn:(s.drop k).take (i+1 - k)=(s.drop k).take (i - k)++[x]:=by
     rw [show i+1 - k=(i - k)+1 by omega]
     exact q0m (by rw [List.getElem?_drop,show k+(i - k)=i by omega]; exact hx)
    rw [hsn,List.mem_append,not_or]
    exact ⟨hno,by simp; exact fun h=>h46 h.symm⟩
  ·have hi':i=s.length:=by omega
   subst hi'
   have e1:((s.length:Int) == (s.length:Int))=true:=by simp
   simp only [e1,cond_true,q04,cut_e hk]
   rw [ned (by omega)]
   rw [List.take_of_length_le (by simp)] at hno
   rw [qvi hno]
   obtain ⟨q,rfl⟩:∃ q,m=q+1:=⟨m - 1,by omega⟩
   have e2:decide (((s.length+1:Nat):Int)≤(s.length:Int))=false:=by simp; omega
   unfold q2a
   simp only [e2,cond_false,q8o]
theorem qxg {s:Str} (hs:s.length≤100000) {n:Nat} (hn:200000≤n):qcu n s=some (spl 46 s):=by
 have:=qpy hs n 0 0 [] (by omega) (by omega) (by omega) (by simp) (by simp)
 rw [Int.ofNat_zero,List.drop_zero] at this
 exact this
def prB (c:Int):Bool:=qsu c || decide (c=45) || isUp c
theorem qxf (n:Nat) (z:Int):q7m n z true=some (prB z):=by
 simp only [q7m,q3f,qa7,prB,qsu,isUp,show decide (z ≥ 48)=decide (48≤z) from rfl,show decide (z ≥ 65)=decide (65≤z) from rfl]
 have e:(z == 45)=decide (z=45):=by rw [Bool.eq_iff_iff]; simp
 rw [e]
 cases decide (48≤z)<;>cases decide (z≤57)<;>cases decide (z=45)<;>cases decide (65≤z)<;>cases decide (z≤90)<;>rfl
theorem okAt_s (i:Nat) (c:Int):qgx (i+1) c=prB c:=by
 simp only [qgx,prB]
 have:decide (i+1=0)=false:=by simp
 rw [this]
 cases isUp c<;>cases qsu c<;>cases decide (c=45)<;>rfl
theorem qo1:∀ (l:Str) (i:Nat),qba (i+1) l=l.all fun b=>prB (b.toNat:Int)
 | [],i=>rfl
 | b::l,i=>by simp only [qba,okAt_s,qo1 l (i+1),List.all_cons]
theorem qtt (s:Str) {n:Nat} (hn:40≤n):q22 n s=some (qbj s):=by
 have hl:∀ (m i:Nat),s.length≤32→s.length - i<m→i≤s.length→q23 s true n m i=some ((s.drop i).all fun b=>prB (b.toNat:Int)):=by
  intro m
  induction m with
  | zero=>intro i _ hm; omega
  | succ m ih =>
   intro i hs hm hi
   unfold q23
   by_cases hlt:i<s.length
   ·obtain ⟨x,hx,_⟩:=q35 hlt
    simp only [dlt hlt,cond_true,qgt hx,q04,qxf,drop_cons' hx,List.all_cons,wr1 hlt (show s.length≤9223372036854775807 by omega)]
    cases prB (x.toNat:Int) with
    | false=>rfl
    | true=>simp only [Bool.not_true,cond_false,Bool.true_and]; exact ih (i+1) hs (by omega) (by omega)
   ·simp only [qs2 hlt,cond_false,q5l,drop_nil' hlt,List.all_nil]
 simp only [q22,q66]
 cases s with
 | nil=>rfl
 | cons b s =>
  have h1:decide (((b::s).length:Int)<1)=false:=by simp; omega
  by_cases h32:((b::s).length:Int) > 32
  ·have:qbj (b::s)=false:=by
    have:decide ((b::s).length≤32)=false:=decide_eq_false (by omega)
    rw [qbj,this,Bool.and_false,Bool.false_and]
   simp only [h1,h32,decide_true,cond_true,cond_false,q04,this]
  ·have h3:qne (b::s) 0=some (b.toNat:Int):=by have:=qgt (s:=b::s) (i:=0) (x:=b) rfl; rwa [Int.ofNat_zero] at this
   have h4:q3f n (b.toNat:Int)=some (qsu (b.toNat:Int)):=by
    simp only [q3f,qsu,show decide ((b.toNat:Int) ≥ 48)=decide (48≤(b.toNat:Int)) from rfl]
    cases decide (48≤(b.toNat:Int))<;>rfl
   have h5:=hl n 0 (by omega) (by omega) (by omega)
   rw [Int.ofNat_zero,List.drop_zero] at h5
   have e45:((b.toNat:Int) == 45)=decide ((b.toNat:Int)=45):=by rw [Bool.eq_iff_iff]; simp
   have hf:qbj (b::s)=(isUp (b.toNat:Int)&&s.all fun b=>prB (b.toNat:Int)):=by
    have a1:decide (0<(b::s).length)=true:=by simp
    have a2:decide ((b::s).length≤32)=true:=by simp at h32 ⊢; omega
    simp only [qbj,a1,a2,Bool.true_and,qba,Nat.zero_add,qo1 s 0]
    simp [qgx]
   simp only [h1,h32,decide_false,cond_false,h3,q04,h4,e45,h5,List.all_cons,hf]
   have hx:∀ c:Int,qsu c=true→isUp c=false:=fun c h=>by simp [qsu,isUp] at *; omega
   have hy:∀ c:Int,decide (c=45)=true→isUp c=false:=fun c h=>by simp [isUp] at *; omega
   cases hd:qsu (b.toNat:Int) with
   | true=>simp only [cond_true,q04,hx _ hd,Bool.false_and]
   | false =>
    simp only [cond_false,q04]
    cases h45:decide ((b.toNat:Int)=45) with
    | true=>simp only [cond_true,q04,hy _ h45,Bool.false_and]
    | false=>simp only [cond_false,q04,prB,hd,h45,Bool.false_or]
theorem qu5 {h:q09} {s:Str}:∀ (m i:Nat),q2c h s m i=q13 h s m i
 | 0,_=>rfl
 | m+1,i=>by
  unfold q2c q13
  rw [q0b]
  cases hx:h.Feats[i]? with
  | none=>cases decide ((i:Int)<(h.Feats.length:Int))<;>rfl
  | some x =>
   have e:q52 x (q0s.mk s x.Intro)=q0k x.Name s:=by simp [q52]
   have hlt:=(List.getElem?_eq_some_iff.1 hx).1
   by_cases hbig:h.Feats.length≤9223372036854775807
   ·simp only [q04,e,wr1 hlt hbig,qu5 m (i+1)]
    rfl
   ·simp only [q04,e]
    have:∀ (m:Nat) (z:Int),q2c h s m z=q13 h s m z:=by
     intro m
     induction m with
     | zero=>intro z; rfl
     | succ m ih =>
      intro z
      unfold q2c q13
      cases q0o h.Feats z with
      | none=>cases decide (z<(h.Feats.length:Int))<;>rfl
      | some x =>
       have e:q52 x (q0s.mk s x.Intro)=q0k x.Name s:=by simp [q52]
       simp only [q04,e,ih]
       rfl
    rw [this]
    rfl
theorem qwz (n:Nat) (h:q09) (s:Str):qau n h s=q7c n h s:=by
 have:=qu5 (h:=h) (s:=s) n 0
 rw [Int.ofNat_zero] at this
 exact this
theorem qx0 {h:q09} (hl:h.Feats.length≤1000) (s:Str) {n:Nat} (hn:5000≤n):∃ r,q7c n h s=some r∧(r<0∧(∀ x∈h.Feats,x.Name≠s)∨∃ (j:Nat) (x:q0s),r=(j:Int)∧h.Feats[j]? = some x∧x.Name=s):=by
 have:=qap (l:=h.Feats) (by omega) (F:=fun m z (_:Unit)=>q13 h s m z) (fun i _=>∀ x∈h.Feats.take i,x.Name≠s) (Q:=fun r=>r<0∧(∀ x∈h.Feats,x.Name≠s)∨∃ (j:Nat) (x:q0s),r=(j:Int)∧h.Feats[j]? = some x∧x.Name=s)
  (fun m i x _ hx hlt hd' hw hI ih=>by
   simp only [q13,hd',cond_true,q0b,hx,q04,qz6,hw]
   by_cases e:x.Name=s
   ·simp only [e,decide_true,cond_true]
    exact ⟨_,rfl,.inr ⟨i,x,rfl,hx,e⟩⟩
   ·simp only [e,decide_false,cond_false]
    refine ih () fun y hy=>?_
    rw [q0m hx] at hy
    rcases List.mem_append.1 hy with hy | hy
    ·exact hI y hy
    ·simp at hy; subst hy; exact e)
  (fun m _ hd' hI=>by
   rw [List.take_of_length_le (Nat.le_refl _)] at hI
   simp only [q13,hd',cond_false,q60]
   exact ⟨_,rfl,.inl ⟨by omega,hI⟩⟩) n 0 () (by omega) (by omega) (by simp)
 rw [Int.ofNat_zero] at this
 exact this
structure FHOK (h:q09):Prop where
 len:h.Feats.length≤64
 nod:(h.Feats.map q0s.Name).Nodup
 val:∀ x∈h.Feats,qbj x.Name=true
theorem qq1:preF.length≤64∧(preF.map q0s.Name).Nodup∧∀ x∈preF,qbj x.Name=true:=by decide
theorem qyo (ty:List qd2):FHOK ⟨ty,preF⟩:=⟨qq1.1,qq1.2.1,qq1.2.2⟩
theorem hok_fh {d:List q01} {n:Nat} (hn:40≤n) {h:q09} (hh:HOK d n h):FHOK h:=by
 obtain ⟨l,f,h5,_,h2⟩:=hh.ex
 refine ⟨?_,by rw [h2]; exact h5.asc.nodup,fun x hx=>?_⟩
 ·have:=congrArg List.length h2
  rw [List.length_map] at this
  have:=h5.len
  omega
 ·have:x.Name∈f:=by rw [← h2]; exact List.mem_map_of_mem hx
  obtain ⟨y,hy,z,hz,e⟩:=h5.mem _ this
  have:=(h5.val y hy z hz).1
  rw [e,qtt x.Name hn] at this
  exact Option.some.inj this
theorem qo8 (d:List q01) {n:Nat} (hn:5000≤n):∃ h,q4p n d=some h∧FHOK h:=by
 obtain ⟨ty,hp⟩:=pre_n (show 200≤n by omega)
 simp only [q4p,hp,q04]
 by_cases h1:(d.length:Int) > 12
 ·simp only [h1,decide_true,cond_true]
  exact ⟨_,rfl,qyo ty⟩
 ·obtain ⟨h,e,c1,c2,c3⟩:=qs1 (d:=d) (by omega) hn
  simp only [h1,decide_false,cond_false,c1,q04]
  by_cases he:e=0
  ·subst he
   simp only [bne_self_eq_false,cond_false]
   exact ⟨_,rfl,hok_fh (by omega) (c2 rfl)⟩
  ·have:(e != 0)=true:=by simpa using he
   simp only [this,cond_true]
   exact ⟨_,rfl,qyo ty⟩
def nmF (h:q09) (p:Int):Str:=((q0o h.Feats p).map q0s.Name).getD []
theorem qzz {h:q09} (hl:h.Feats.length≤1000) {l:List Str} (hll:l.length≤64) {n:Nat} (hn:5000≤n):∃ r,q9g h n l=some r∧q8m h n l=some r∧r.1.length≤64∧(r.2=0→r.1.map (nmF h)=l∧∀ p∈r.1,∃ x,q0o h.Feats p=some x):=by
 have key:∀ (m i:Nat) (acc:List Int),l.length - i<m→i≤l.length→acc.length=i→(acc.map (nmF h)=l.take i∧∀ p∈acc,∃ x,q0o h.Feats p=some x)→∃ r,q56 h n l m i acc=some r∧q4d h n l m i acc=some r∧r.1.length≤64∧(r.2=0→r.1.map (nmF h)=l∧∀ p∈r.1,∃ x,q0o h.Feats p=some x):=by
  intro m
  induction m with
  | zero=>intro i acc hm; omega
  | succ m ih =>
   intro i acc hm hi ha hI
   unfold q56 q4d
   by_cases hlt:i<l.length
   ·obtain ⟨s,hs,_⟩:=q35 hlt
    obtain ⟨r,r1,r2⟩:=qx0 hl s hn
    simp only [dlt hlt,cond_true,q0b,hs,q04,qwz,r1,wr1 hlt (show l.length≤9223372036854775807 by omega)]
    rcases r2 with ⟨r2,_⟩ | ⟨j,x,rfl,hx,e⟩
    ·simp only [r2,decide_true,cond_true]
     exact ⟨_,rfl,rfl,by simp,fun h=>by cases h⟩
    ·have hj:¬ (j:Int)<0:=by omega
     simp only [hj,decide_false,cond_false]
     rw [ned (by omega),ned (by omega)]
     refine ih (i+1) (acc++[(j:Int)]) (by omega) (by omega) (by simp; omega) ⟨?_,fun p hp=>?_⟩
     ·rw [List.map_append,hI.1,q0m hs]
      simp [nmF,q0b,hx,e]
     ·rcases List.mem_append.1 hp with hp | hp
      ·exact hI.2 p hp
      ·simp at hp; subst hp; exact ⟨x,by rw [q0b]; exact hx⟩
   ·simp only [qs2 hlt,cond_false,q9h,q8n]
    rw [List.take_of_length_le (by omega)] at hI
    exact ⟨_,rfl,rfl,by show acc.length≤64; omega,fun _=>hI⟩
 have:=key n 0 [] (by omega) (by omega) rfl ⟨by simp,by simp⟩
 rw [Int.ofNat_zero] at this
 exact this
theorem qxd {h:q09} (hl:h.Feats.length≤1000) {s:Str} (hs:s.length≤3000) {n:Nat} (hn:300000≤n):∃ r,q6f n h s=some r∧qaj n h s=some r∧r.1.length≤64∧(r.2=0→(∀ p∈r.1,∃ x,q0o h.Feats p=some x)∧jn 46 (r.1.map (nmF h))=s):=by
 simp only [q6f,qaj,qxo (s:=s) (by omega) n,qxg (s:=s) (by omega) (show 200000≤n by omega),qz6,q04]
 by_cases h0:s=[]
 ·simp only [h0,decide_true,cond_true]
  exact ⟨_,rfl,rfl,by simp,fun _=>⟨by simp,rfl⟩⟩
 ·simp only [h0,decide_false,cond_false]
  by_cases h64:((spl 46 s).length:Int) > 64
  ·simp only [h64,decide_true,cond_true]
   exact ⟨_,rfl,rfl,by simp,fun h=>by cases h⟩
  ·simp only [h64,decide_false,cond_false]
   obtain ⟨r,k1,k2,k3,k4⟩:=qzz hl (l:=spl 46 s) (by omega) (show 5000≤n by omega)
   have key:∀ (m i:Nat),(spl 46 s).length - i<m→i≤(spl 46 s).length→∃ r,q55 h n (spl 46 s) m i=some r∧q4c h n (spl 46 s) m i=some r∧r.1.length≤64∧(r.2=0→(∀ p∈r.1,∃ x,q0o h.Feats p=some x)∧jn 46 (r.1.map (nmF h))=s):=by
    intro m
    induction m with
    | zero=>intro i hm; omega
    | succ m ih =>
     intro i hm hi
     unfold q55 q4c
     by_cases hlt:i<(spl 46 s).length
     ·obtain ⟨x,hx,_⟩:=q35 hlt
      simp only [dlt hlt,cond_true,q0b,hx,q04,qtt x (show 40≤n by omega),qdx,wr1 hlt (show (spl 46 s).length≤9223372036854775807 by omega)]
      cases qbj x with
      | false=>exact ⟨_,rfl,rfl,by simp,fun h=>by cases h⟩
      | true=>exact ih (i+1) (by omega) (by omega)
     ·simp only [qs2 hlt,cond_false]
      exact ⟨r,k1,k2,k3,fun h=>⟨(k4 h).2,by rw [(k4 h).1,qyg]⟩⟩
   have:=key n 0 (by omega) (by omega)
   rw [Int.ofNat_zero] at this
   exact this
theorem qxh {h:q09} {p:List Int} (hp:p.length≤64) (hx:∀ q∈p,∃ x,q0o h.Feats q=some x) (hj:(jn 46 (p.map (nmF h))).length≤100000) {n:Nat} (hn:5000≤n):qbo n h p=some (jn 46 (p.map (nmF h))):=by
 have key:∀ (m i:Nat),p.length - i<m→i≤p.length→q57 h p n m i ((p.take i).map (nmF h))=some (jn 46 (p.map (nmF h))):=by
  intro m
  induction m with
  | zero=>intro i hm; omega
  | succ m ih =>
   intro i hm hi
   unfold q57
   by_cases hlt:i<p.length
   ·obtain ⟨q,hq,hqm⟩:=q35 hlt
    obtain ⟨x,hx2⟩:=hx q hqm
    have e:nmF h q=x.Name:=by simp [nmF,hx2]
    have hlen:((p.take i).map (nmF h)).length=i:=by simp; omega
    simp only [dlt hlt,cond_true,q0b,hq,q04,hx2,hlen,wr1 hlt (show p.length≤9223372036854775807 by omega)]
    rw [ned (by omega)]
    have:=ih (i+1) (by omega) (by omega)
    rw [q0m hq,List.map_append,List.map_singleton,e] at this
    exact this
   ·simp only [qs2 hlt,cond_false,q9i]
    rw [List.take_of_length_le (by omega),strings_Join,qqt,if_pos ⟨by simp; omega,by omega⟩]
    rfl
 have:=key n 0 (by omega) (by omega)
 rw [Int.ofNat_zero,List.take_zero,List.map_nil] at this
 exact this
theorem qsi (d:List q01) (s:List UInt8) {n:Nat} (hn:3000000≤n):q5v n d s=some true:=by
 have hex:=ex_n (show 200≤n by omega)
 simp only [q5v,hex,q04]
 by_cases h1:(s.length:Int) > 3000
 ·simp only [h1,decide_true,cond_true]
 ·obtain ⟨h,e1,e2⟩:=qo8 d (show 5000≤n by omega)
  obtain ⟨r,p1,p2,p3,p4⟩:=qxd (h:=h) (by have:=e2.len; omega) (s:=s) (by omega) (show 300000≤n by omega)
  have a1:=qq9 (p:=r.1) (q:=r.1) (n:=n) (by omega) (by omega)
  simp only [h1,decide_false,cond_false,e1,p1,p2,q04,beq_self_eq_true,cond_true,a1,decide_true]
  by_cases he:r.2=0
  ·obtain ⟨q1,q2⟩:=p4 he
   have a2:=qxh (h:=h) p3 q1 (by rw [q2]; omega) (n:=n) (by omega)
   rw [q2] at a2
   simp only [he,bne_self_eq_false,cond_false,a2,q04,qht,cond_true]
  ·have:(r.2 != 0)=true:=by simpa using he
   simp only [this,cond_true,q04]
end Go.Proofs
end
