/-
  Texts of the walk: K4z K5z G1z.
-/
import Derived.Test.YtdpffcolmflpjaaGreatP18
set_option linter.unusedSimpArgs false
set_option linter.unusedVariables false
section
namespace Go.Proofs
open Go Go.Rx Go.Vx Go.Shelf Go.Sort
set_option maxRecDepth 10000
theorem z2v {d:List q02} (h:DOK d) {all:List Str} (hal:all.length≤12) {s:Str} (hs:Dcl d s) (ha:∀ x∈all,Dcl d x) {n:Nat} (hn:5000≤n):∃ w,qd8 n d all s=some (bt w)∧w<4096∧∀ i,w.testBit i=true↔∃ t,all[i]? = some t∧Upw d t s:=by
 obtain ⟨low,b1,b2,b3,b4⟩:=qz1 h hs hn
 have:=qct (l:=all) (by omega) (F:=fun m z (s:List Nat)=>q3s all n low m z (s.map fun (i:Nat)=>(i:Int))) (fun i s=>s.length≤i∧∀ j,j∈s↔j<i∧∃ t,all[j]? = some t∧t∈low) (Q:=fun r=>∃ w,r=bt w∧w<4096∧∀ i,w.testBit i=true↔∃ t,all[i]? = some t∧Upw d t s)
  (fun m i x s' hx hlt hd' hw hI ih=>by
   obtain ⟨i1,i2⟩:=hI
   simp only [q3s,hd',cond_true,q0a,hx,q04,qb4 (l:=low) (by omega) x (n:=n) (by omega),q8o,hw,List.length_map]
   by_cases hm:x∈low
   ·simp only [hm,decide_true,cond_true]
    rw [ned (by omega)]
    have:=ih (s'++[i]) ⟨by simp; omega,fun j=>by
     rw [List.mem_append,i2,List.mem_singleton]
     constructor
     ·rintro (⟨h1,h2⟩ | rfl)
      ·exact ⟨by omega,h2⟩
      ·exact ⟨by omega,x,hx,hm⟩
     ·rintro ⟨h1,h2⟩
      by_cases e:j=i
      ·exact .inr e
      ·exact .inl ⟨by omega,h2⟩⟩
    rw [List.map_append] at this
    exact this
   ·simp only [hm,decide_false,cond_false]
    exact ih s' ⟨by omega,fun j=>by
     rw [i2]
     constructor
     ·rintro ⟨h1,h2⟩; exact ⟨by omega,h2⟩
     ·rintro ⟨h1,t,h2,h3⟩
      refine ⟨?_,t,h2,h3⟩
      have:j≠i:=fun e=>by subst e; rw [hx] at h2; cases h2; exact hm h3
      omega⟩)
  (fun m s' hd' hI=>by
   obtain ⟨i1,i2⟩:=hI
   have h12:∀ i∈s',i<12:=fun i hi=>by have:=((i2 i).1 hi).1; omega
   simp only [q3s,hd',cond_false,qbg,of_ok (l:=s') (by omega) h12 hn,q04]
   refine ⟨_,rfl,mk12 s',rfl,z3e s' 0 h12 (by omega),fun i=>?_⟩
   rw [mk12,z1l]
   simp only [Nat.zero_testBit,Bool.false_or,decide_eq_true_eq]
   rw [i2]
   constructor
   ·rintro ⟨_,t,h1,h2⟩; exact ⟨t,h1,((b4 t).1 h2).2⟩
   ·rintro ⟨t,h1,h2⟩
    exact ⟨(List.getElem?_eq_some_iff.1 h1).1,t,h1,(b4 t).2 ⟨ha t (List.mem_of_getElem? h1),h2⟩⟩) n 0 [] (by omega) (by omega) ⟨by simp,fun j=>by simp⟩
 obtain ⟨r,h1,w,rfl,h2,h3⟩:=this
 rw [Int.ofNat_zero] at h1
 exact ⟨w,by simp only [qd8,b1,q04]; exact h1,h2,h3⟩
structure FI (c0 ws:List Nat):Prop where
 pre:∃ t,ws=c0++t
 nod:ws.Nodup
 ok:∀ a∈ws,a<4096∧a≠0∧∃ b∈c0,a &&& b=a
 len:ws.length≤257
def Clo (ws:List Nat) (i k:Nat):Prop:=∀ i' k' a b,k'<i'→(i'<i∨(i'=i∧k'<k))→ws[i']? = some a→ws[k']? = some b→a &&& b=0∨a &&& b∈ws
theorem Clo.app {ws t:List Nat} {i k:Nat} (h:Clo ws i k) (hi:i<ws.length):Clo (ws++t) i k:=fun i' k' a b h1 h2 h3 h4=>by
 have e1:i'<ws.length:=by omega
 rw [List.getElem?_append_left e1] at h3
 rw [List.getElem?_append_left (by omega)] at h4
 rcases h i' k' a b h1 h2 h3 h4 with h5 | h5
 ·exact .inl h5
 ·exact .inr (List.mem_append_left _ h5)
theorem qsb {c0:List Nat} {n:Nat} (hn:5000≤n) {i:Nat} {rc:Int→List (List Int)→Option (List (List Int))} {Q:List (List Int)→Prop} (hi256:i≤256) (hrc:∀ ws',FI c0 ws'→i<ws'.length→(ws'.length≤256→Clo ws' (i+1) 0)→∃ r,rc ((i+1:Nat):Int) (ws'.map bt)=some r∧Q r) :
  ∀ (m k:Nat) (ws:List Nat),i - k<m→k≤i→FI c0 ws→i<ws.length→(ws.length≤256→Clo ws i k)→∃ r,q3g n i rc m k (ws.map bt)=some r∧Q r
 | 0,k,ws,hm,_,_,_,_=>by omega
 | m+1,k,ws,hm,hk,hf,hi,hc=>by
  have hl:=hf.len
  have hwi:IntKind.i64.wrap ((i:Int)+1)=((i+1:Nat):Int):=wrn (by omega) (by omega)
  unfold q3g
  by_cases hlt:k<i
  ·have e0:decide ((k:Int)<(i:Int))=true:=by simp; omega
   simp only [e0,cond_true,List.length_map]
   by_cases h256:ws.length≤256
   ·obtain ⟨a,ha,ham⟩:=q1i hi
    obtain ⟨b,hb,hbm⟩:=q1i (show k<ws.length by omega)
    have e1:decide ((ws.length:Int)≤256)=true:=by simp; omega
    have ga:(ws.map bt)[i]? = some (bt a):=by rw [List.getElem?_map,ha]; rfl
    have gb:(ws.map bt)[k]? = some (bt b):=by rw [List.getElem?_map,hb]; rfl
    have hwk:IntKind.i64.wrap ((k:Int)+1)=((k+1:Nat):Int):=wrn (by omega) (by omega)
    have oka:=hf.ok a ham
    have okb:=hf.ok b hbm
    simp only [e1,q04,cond_true,q0a,ga,gb,z0s oka.1 okb.1 (show 5≤n by omega),in_ok (ws:=ws) (by omega) (b:=a &&& b) hn,q6h,hwk]
    have hcs:∀ t,(a &&& b=0∨a &&& b∈ws++t)→Clo (ws++t) i (k+1):=fun t ht i' k' x y h1 h2 h3 h4=>by
     by_cases e:i'=i∧k'=k
     ·obtain ⟨rfl,rfl⟩:=e
      rw [List.getElem?_append_left hi,ha] at h3
      rw [List.getElem?_append_left (by omega),hb] at h4
      cases h3; cases h4
      exact ht
     ·exact (hc h256).app hi i' k' x y h1 (by omega) h3 h4
    by_cases hz:a &&& b=0
    ·have e2:decide (((bt (a &&& b)).length:Int) > 0)=false:=by rw [hz]; simp [z2m]
     simp only [e2,cond_false,q04]
     refine qsb hn hi256 hrc m (k+1) ws (by omega) (by omega) hf hi fun _=>?_
     have:=hcs [] (.inl hz)
     rwa [List.append_nil] at this
    ·have e2:decide (((bt (a &&& b)).length:Int) > 0)=true:=by rw [qqw hz]; simp
     simp only [e2,cond_true,q04]
     by_cases hm':a &&& b∈ws
     ·simp only [hm',decide_true,Bool.not_true,cond_false]
      refine qsb hn hi256 hrc m (k+1) ws (by omega) (by omega) hf hi fun _=>?_
      have:=hcs [] (.inr (by simpa using hm'))
      rwa [List.append_nil] at this
     ·simp only [hm',decide_false,Bool.not_false,cond_true]
      rw [ned (by omega)]
      have hf':FI c0 (ws++[a &&& b]):=by
       obtain ⟨t,ht⟩:=hf.pre
       refine ⟨⟨t++[a &&& b],by rw [ht,List.append_assoc]⟩,?_,fun c hc=>?_,by simp; omega⟩
       ·rw [List.nodup_append]
        exact ⟨hf.nod,by simp,fun x hx y hy e=>by simp at hy; subst hy; subst e; exact hm' hx⟩
       ·rcases List.mem_append.1 hc with hc | hc
        ·exact hf.ok c hc
        ·simp at hc
         subst hc
         obtain ⟨g,hg,eg⟩:=oka.2.2
         refine ⟨Nat.lt_of_le_of_lt Nat.and_le_left oka.1,hz,g,hg,?_⟩
         rw [Nat.and_assoc,Nat.and_comm b g,← Nat.and_assoc,eg]
      have:=qsb hn hi256 hrc m (k+1) (ws++[a &&& b]) (by omega) (by omega) hf' (by simp; omega) fun _=>hcs [a &&& b] (.inr (by simp))
      rw [List.map_append] at this
      exact this
   ·have e1:decide ((ws.length:Int)≤256)=false:=by simp; omega
    simp only [e1,q04,cond_false,q6j,hwi]
    exact hrc ws hf hi fun h=>absurd h h256
  ·have e0:decide ((k:Int)<(i:Int))=false:=by simp; omega
   simp only [e0,cond_false,q04,q6j,hwi]
   refine hrc ws hf hi fun h i' k' a b h1 h2 h3 h4=>hc h i' k' a b h1 (by omega) h3 h4
theorem z0x {c0:List Nat} {n:Nat} (hn:5000≤n):∀ (m i:Nat) (ws:List Nat),258 - i≤m→i≤257→FI c0 ws→i≤ws.length→(ws.length≤256→Clo ws i 0) →
  ∃ r,q28 n m i (ws.map bt)=some r∧∃ ws',r=ws'.map bt∧FI c0 ws'∧(ws'.length≤256→Clo ws' ws'.length 0)
 | 0,i,ws,hm,_,_,_,_=>by omega
 | m+1,i,ws,hm,hi,hf,hil,hc=>by
  have hl:=hf.len
  unfold q28
  simp only [List.length_map]
  by_cases hlt:i<ws.length
  ·by_cases h256:ws.length≤256
   ·have e1:decide ((ws.length:Int)≤256)=true:=by simp; omega
    simp only [dlt hlt,cond_true,e1,q04]
    have:=qsb (c0:=c0) hn (i:=i) (rc:=q28 n m) (Q:=fun r=>∃ ws',r=ws'.map bt∧FI c0 ws'∧(ws'.length≤256→Clo ws' ws'.length 0)) (by omega) (fun ws' f1 f2 f3=>z0x hn m (i+1) ws' (by omega) (by omega) f1 (by omega) f3) n 0 ws (by omega) (by omega) hf hlt hc
    rw [Int.ofNat_zero] at this
    exact this
   ·have e1:decide ((ws.length:Int)≤256)=false:=by simp; omega
    simp only [dlt hlt,cond_true,e1,q04,cond_false,q6i]
    exact ⟨_,rfl,ws,rfl,hf,fun h=>absurd h h256⟩
  ·simp only [qfm hlt,cond_false,q04,q6i]
   have:i=ws.length:=by omega
   exact ⟨_,rfl,ws,rfl,hf,this ▸ hc⟩
def Clsd (ws:List Nat):Prop:=∀ a∈ws,∀ b∈ws,a &&& b≠0→a &&& b∈ws
theorem Clo.all {ws:List Nat} (h:Clo ws ws.length 0):Clsd ws:=fun a ha b hb hne=>by
 obtain ⟨i,hi,rfl⟩:=List.mem_iff_getElem.1 ha
 obtain ⟨k,hk,rfl⟩:=List.mem_iff_getElem.1 hb
 by_cases e:i=k
 ·subst e; rw [Nat.and_self]; exact ha
 ·by_cases hlt:k<i
  ·exact (h i k _ _ hlt (.inl hi) (List.getElem?_eq_getElem hi) (List.getElem?_eq_getElem hk)).resolve_left hne
  ·rw [Nat.and_comm] at hne ⊢
   exact (h k i _ _ (by omega) (.inl hk) (List.getElem?_eq_getElem hk) (List.getElem?_eq_getElem hi)).resolve_left hne
theorem qw4 {c0:List Nat} (hl:c0.length≤12) (hn0:c0.Nodup) (hc:∀ a∈c0,a<4096∧a≠0) {n:Nat} (hn:5000≤n):∃ ws,qas n (c0.map bt)=some (ws.map bt)∧FI c0 ws∧(ws.length≤256→Clsd ws):=by
 obtain ⟨r,h1,ws,rfl,h2,h3⟩:=z0x (c0:=c0) hn n 0 c0 (by omega) (by omega) ⟨⟨[],by simp⟩,hn0,fun a ha=>⟨(hc a ha).1,(hc a ha).2,a,ha,Nat.and_self a⟩,by omega⟩ (by omega) (fun _ i' k' a b h1 h2=>by omega)
 rw [Int.ofNat_zero] at h1
 refine ⟨ws,?_,h2,fun h=>(h3 h).all⟩
 rw [qas,ned (by rw [List.length_map]; omega)]
 exact h1
theorem join_L {l:List Str} (hl:l.length≤12) (hs:∀ s∈l,s.length≤32) {n:Nat} (hn:5000≤n):∃ s,q3a l n [] 0=some s:=by
 have:=qct (l:=l) (by omega) (F:=fun m z s=>q3a l m s z) (fun i s=>s.length≤33*i) (Q:=fun _=>True)
  (fun m i x s hx hlt hd' hw hI ih=>by
   have hxl:=hs x (List.mem_of_getElem? hx)
   simp only [q3a,hd',cond_true,q8p,q0a,hx,q04,hw]
   cases decide ((i:Int) > 0) with
   | true =>
    simp only [cond_true]
    rw [ned (by show s.length+1≤_; omega),ned (by rw [List.length_append]; show s.length+1+x.length≤_; omega)]
    exact ih _ (by rw [List.length_append,List.length_append]; show s.length+1+x.length≤_; omega)
   | false =>
    simp only [cond_false]
    rw [ned (by omega)]
    exact ih _ (by rw [List.length_append]; omega))
  (fun m s hd' hI=>by
   simp only [q3a,hd',cond_false,qbi]
   exact ⟨s,rfl,trivial⟩) n 0 [] (by omega) (by omega) (by simp)
 obtain ⟨s,h1,_⟩:=this
 exact ⟨s,h1⟩
theorem qsw {d:List q02} (h:DOK d) {all:List Str} (hal:all.length≤12) {c0:List Nat} (hc0:c0.length=all.length) (hc:∀ a∈c0,a<4096) {w:Nat} (hw:w<4096) {n:Nat} (hn:5000≤n) :
  ∃ s,qd9 n d all (c0.map bt) (bt w)=some s∧∀ (i:Nat) (t:Str),c0.Nodup→c0[i]? = some w→all[i]? = some t→s=t:=by
 have:=qct (l:=all) (by omega) (F:=fun m z s=>q3t d all (c0.map bt) (bt w) n m z s) (fun i (s:List Str)=>s.length≤i∧∀ j,j<i→c0[j]? ≠ some w) (Q:=fun s=>∀ (i:Nat) (t:Str),c0.Nodup→c0[i]? = some w→all[i]? = some t→s=t)
  (fun m i x s hx hlt hd' hw' hI ih=>by
   obtain ⟨a,ha,ham⟩:=q1i (l:=c0) (show i<c0.length by omega)
   have ga:(c0.map bt)[i]? = some (bt a):=by rw [List.getElem?_map,ha]; rfl
   simp only [q3t,hd',cond_true,q0a,ga,hx,q04,qjd (hc a ham) hw (show 5≤n by omega),z1d (w:=w) (n:=n) hw (show i<64 by omega),q8q,hw']
   by_cases e:a=w
   ·subst e
    simp only [decide_true,cond_true]
    refine ⟨x,rfl,fun k t hnd hk ht=>?_⟩
    obtain ⟨p1,p2⟩:=List.getElem?_eq_some_iff.1 ha
    obtain ⟨q1,q2⟩:=List.getElem?_eq_some_iff.1 hk
    have:i=k:=(List.getElem_inj hnd).1 (p2.trans q2.symm)
    subst this
    rw [hx] at ht
    exact Option.some.inj ht
   ·have hno:∀ j,j<i+1→c0[j]? ≠ some w:=fun j hj=>by
     by_cases e2:j=i
     ·subst e2; rw [ha]; exact fun h=>e (Option.some.inj h)
     ·exact hI.2 j (by omega)
    simp only [e,decide_false,cond_false]
    cases w.testBit i with
    | true =>
     simp only [cond_true]
     rw [ned (by have:=hI.1; omega)]
     exact ih (s++[x]) ⟨by have:=hI.1; simp; omega,hno⟩
    | false=>exact ih s ⟨by have:=hI.1; omega,hno⟩)
  (fun m s hd' hI=>by
   obtain ⟨out,m1,m2,m3⟩:=qmu h (l:=s) (by have:=hI.1; omega) hn
   obtain ⟨r,j1⟩:=join_L (l:=out) (by have:=hI.1; omega) (fun t ht=>by
    obtain ⟨x,hx,e⟩:=(m3 t ht).2
    have:=(h.nam.len x hx).2
    rw [e] at this
    exact this) hn
   simp only [q3t,hd',cond_false,qbh,m1,q04]
   refine ⟨r,j1,fun i t _ hi _=>absurd hi (hI.2 i ?_)⟩
   have:=(List.getElem?_eq_some_iff.1 hi).1
   omega) n 0 [] (by omega) (by omega) ⟨by simp,fun j hj=>by omega⟩
 rw [Int.ofNat_zero] at this
 exact this
def cw:List Int→Nat
 | [z]=>z.toNat
 | _=>0
theorem cw_bt (w:Nat):cw (bt w)=w:=by
 by_cases h:w=0
 ·subst h; rfl
 ·rw [qqw h]; simp [cw]
def cnt (x:q0c):Nat:=(bl (cw x.Code)).length
theorem qvd {x y:q0c} {a b:Nat} (hx:x.Code=bt a) (hy:y.Code=bt b) (ha:a<4096) (hb:b<4096) {n:Nat} (hn:5000≤n):∃ r,qar n x y=some r∧(r=true→cnt y≤cnt x)∧(r=false→cnt x≤cnt y):=by
 have e1:cnt x=(bl a).length:=by rw [cnt,hx,cw_bt]
 have e2:cnt y=(bl b).length:=by rw [cnt,hy,cw_bt]
 rw [e1,e2]
 simp only [qar,hx,hy,qs3 ha (show 100≤n by omega),qs3 hb (show 100≤n by omega),q04]
 by_cases h1:((bl a).length:Int) > ((bl b).length:Int)
 ·simp only [h1,decide_true,cond_true,q04]
  exact ⟨true,rfl,fun _=>by omega,fun h=>by cases h⟩
 ·simp only [h1,decide_false,cond_false]
  by_cases h2:((bl a).length:Int)=((bl b).length:Int)
  ·have:(((bl a).length:Int) == ((bl b).length:Int))=true:=by simpa using h2
   simp only [this,cond_true,q04]
   exact ⟨_,rfl,fun _=>by omega,fun _=>by omega⟩
  ·have:(((bl a).length:Int) == ((bl b).length:Int))=false:=by simpa using h2
   simp only [this,cond_false,q04]
   exact ⟨false,rfl,fun h=>(by cases h),fun _=>by omega⟩
structure CI (nm:Nat→Option Str) (ws:List Nat) (l:List q0c):Prop where
 perm:(l.map q0c.Code).Perm (ws.map bt)
 nam:∀ w∈ws,∃ x∈l,x.Code=bt w∧nm w=some x.Name
 srt:l.Pairwise fun a b=>cnt b≤cnt a
theorem CI.len {nm:Nat→Option Str} {ws:List Nat} {l:List q0c} (h:CI nm ws l):l.length=ws.length:=by
 have:=h.perm.length_eq
 rwa [List.length_map,List.length_map] at this
theorem CI.cod {nm:Nat→Option Str} {ws:List Nat} {l:List q0c} (h:CI nm ws l):∀ x∈l,∃ w∈ws,x.Code=bt w:=fun x hx=>by
 have:=h.perm.mem_iff.1 (List.mem_map_of_mem (f:=q0c.Code) hx)
 obtain ⟨w,hw,e⟩:=List.mem_map.1 this
 exact ⟨w,hw,e.symm⟩
theorem ins_L {nm:Nat→Option Str} {ws:List Nat} {l:List q0c} (h:CI nm ws l) (hl:l.length≤300) (hws:∀ w∈ws,w<4096) {w:Nat} (hw:w<4096) {s:Str} (hs:nm w=some s) {n:Nat} (hn:5000≤n) {z27:Int} {rc:Int→List q0c→Option (List q0c×Int)} {Q:List q0c×Int→Prop}
  (hrc:∀ l',CI nm (ws++[w]) l'→∃ r,rc (IntKind.i64.wrap (z27+1)) l'=some r∧Q r) :
  ∀ (m z:Nat),z<m→z≤l.length→(∀ y∈l.drop z,cnt y≤cnt ⟨s,bt w⟩)→∃ r,q5u n z27 l rc s (bt w) m z=some r∧Q r:=by
 have fin:∀ z,z≤l.length→(∀ y∈l.drop z,cnt y≤cnt ⟨s,bt w⟩)→(∀ y∈l.take z,cnt ⟨s,bt w⟩≤cnt y)→∃ r,q7h z27 l rc s (bt w) z=some r∧Q r:=by
  intro z hz hlo hhi
  have t1:((l.drop 0).take ((z:Int)).toNat)=l.take z:=by rw [List.drop_zero,Int.toNat_natCast]
  have t2:((l.drop (0+((z:Int)).toNat)).take (l.length - ((z:Int)).toNat))=l.drop z:=by
   rw [Int.toNat_natCast,Nat.zero_add]
   exact List.take_of_length_le (by simp)
  have tl:(l.take z).length=z:=by simp; omega
  have dl:(l.drop z).length=l.length - z:=by simp
  simp only [q7h,t1,t2]
  rw [ned (by omega),ned (by rw [Int.toNat_natCast]; omega),ned (by rw [tl]; omega),ned (by rw [tl]; omega),ned (by omega),ned (by rw [Int.toNat_natCast]; omega),ned (by rw [List.length_append,tl,dl]; simp; omega)]
  refine hrc _ ⟨?_,fun v hv=>?_,?_⟩
  ·have hp:((l.take z++[q0c.mk s (bt w)])++l.drop z).Perm (l++[q0c.mk s (bt w)]):=by
    rw [List.append_assoc]
    refine (List.perm_append_comm_assoc _ _ _).trans ?_
    rw [List.take_append_drop]
    exact List.perm_append_comm
   refine (hp.map q0c.Code).trans ?_
   rw [List.map_append,List.map_append]
   exact h.perm.append_right _
  ·rcases List.mem_append.1 hv with hv | hv
   ·obtain ⟨x,hx,e1,e2⟩:=h.nam v hv
    refine ⟨x,?_,e1,e2⟩
    rw [← List.take_append_drop z l] at hx
    rcases List.mem_append.1 hx with hx | hx
    ·exact List.mem_append_left _ (List.mem_append_left _ hx)
    ·exact List.mem_append_right _ hx
   ·simp at hv; subst hv
    exact ⟨⟨s,bt v⟩,by simp,rfl,hs⟩
  ·have h1:=h.srt
   rw [← List.take_append_drop z l,List.pairwise_append] at h1
   rw [List.pairwise_append,List.pairwise_append]
   refine ⟨⟨h1.1,by simp,fun a ha b hb=>by simp at hb; subst hb; exact hhi a ha⟩,h1.2.1,fun a ha b hb=>?_⟩
   rcases List.mem_append.1 ha with ha | ha
   ·exact h1.2.2 a ha b hb
   ·simp at ha; subst ha; exact hlo b hb
 intro m
 induction m with
 | zero=>intro z hm; omega
 | succ m ih =>
  intro z hm hz hlo
  unfold q5u
  by_cases h0:z=0
  ·subst h0
   simp only [Int.ofNat_zero,Int.lt_irrefl,decide_false,cond_false,q04,show ((0:Int) > 0)=False by simp]
   have:=fin 0 (by omega) hlo (by simp)
   rwa [Int.ofNat_zero] at this
  ·have e0:decide ((z:Int) > 0)=true:=by simp; omega
   have e1:IntKind.i64.wrap ((z:Int) - 1)=((z - 1:Nat):Int):=wrn (by omega) (by omega)
   obtain ⟨y,hy,hym⟩:=q1i (l:=l) (show z - 1<l.length by omega)
   obtain ⟨v,hv,ev⟩:=h.cod y hym
   obtain ⟨r,r1,r2,r3⟩:=qvd (x:=⟨s,bt w⟩) (y:=y) rfl ev hw (hws v hv) hn
   simp only [e0,cond_true,e1,q0a,hy,q04,r1]
   cases r with
   | true =>
    simp only [cond_true]
    refine ih (z - 1) (by omega) (by omega) fun x hx=>?_
    rw [drop_cons' hy,show z - 1+1=z by omega] at hx
    rcases List.mem_cons.1 hx with rfl | hx
    ·exact r2 rfl
    ·exact hlo x hx
   | false =>
    simp only [cond_false]
    refine fin z hz hlo fun x hx=>?_
    have h1:=h.srt
    rw [← List.take_append_drop (z - 1) l,List.pairwise_append] at h1
    have:l.take z=l.take (z - 1)++[y]:=by rw [← q0k hy,show z - 1+1=z by omega]
    rw [this] at hx
    rcases List.mem_append.1 hx with hx | hx
    ·exact Nat.le_trans (r3 rfl) (h1.2.2 x hx y (by rw [drop_cons' hy]; simp))
    ·simp at hx; subst hx; exact r3 rfl
structure COK (d:List q02) (l:List q0c):Prop where
 ws:∃ (nm:Nat→Option Str) (c0 ws:List Nat),FI c0 ws∧Clsd ws∧CI nm ws l∧ws.length≤256∧0<ws.length
 dcl:∀ s,Dcl d s→∃ x∈l,x.Name=s
theorem COK.len {d:List q02} {l:List q0c} (h:COK d l):l.length≤256∧0<l.length:=by
 obtain ⟨nm,c0,ws,h1,h2,h3,h4,h5⟩:=h.ws
 have:=h3.len
 omega
theorem COK.cod {d:List q02} {l:List q0c} (h:COK d l):∀ x∈l,∃ w,x.Code=bt w∧w<4096∧w≠0:=fun x hx=>by
 obtain ⟨nm,c0,ws,h1,h2,h3,h4,h5⟩:=h.ws
 obtain ⟨w,hw,e⟩:=h3.cod x hx
 exact ⟨w,e,(h1.ok w hw).1,(h1.ok w hw).2.1⟩
theorem qza {d:List q02} (hd:d.length≤12) {n:Nat} (hn:5000≤n):∃ l e,q5g n d=some (l,e)∧(e=0→DOK d∧COK d l):=by
 obtain ⟨e,c1,c2⟩:=qvq hd hn
 simp only [q5g,c1,q04]
 by_cases he:e=0
 ·subst he
  have h:=c2 rfl
  obtain ⟨all,n1,n2⟩:=names_ok (d:=d) (by omega) hn
  have hal:all.length≤12:=by have:=n2.len; simp at this; omega
  have hall:∀ s,s∈all↔Dcl d s:=fun s=>by rw [n2.mem]; simp [Dcl,List.mem_map]
  simp only [bne_self_eq_false,cond_false,n1,q04]
  have:=qct (l:=all) (by omega) (F:=fun m z (s:List Nat)=>q4u d n all m z (s.map bt)) (fun i s=>s.length=i∧(∀ w∈s,w<4096)∧∀ (j w:Nat) (t:Str),s[j]? = some w→all[j]? = some t→∀ i:Nat,w.testBit i=true↔∃ u,all[i]? = some u∧Upw d u t) (Q:=fun r=>r.2=0→DOK d∧COK d r.1)
   (fun m i x s hx hlt hd' hw hI ih=>by
    obtain ⟨i1,i2,i3⟩:=hI
    obtain ⟨w,w1,w2,w3⟩:=z2v h hal ((hall x).1 (List.mem_of_getElem? hx)) (fun y hy=>(hall y).1 hy) hn
    simp only [q4u,hd',cond_true,q0a,hx,q04,w1,hw,List.length_map]
    rw [ned (by omega)]
    have:=ih (s++[w]) ⟨by simp; omega,fun v hv=>by
     rcases List.mem_append.1 hv with hv | hv
     ·exact i2 v hv
     ·simp at hv; subst hv; exact w2,fun j v t hj ht=>by
     by_cases e:j<s.length
     ·rw [List.getElem?_append_left e] at hj; exact i3 j v t hj ht
     ·have:j=i:=by have:=(List.getElem?_eq_some_iff.1 hj).1; simp at this; omega
      subst this
      rw [List.getElem?_append_right (by omega),i1,Nat.sub_self] at hj
      simp at hj
      subst hj
      rw [hx] at ht
      cases ht
      exact w3⟩
    rw [List.map_append] at this
    exact this)
   (fun m c0 hd' hI=>by
    obtain ⟨i1,i2,i3⟩:=hI
    have hself:∀ (j w:Nat),c0[j]? = some w→w.testBit j=true:=fun j w hj=>by
     obtain ⟨t,ht,_⟩:=q1i (l:=all) (show j<all.length by have:=(List.getElem?_eq_some_iff.1 hj).1; omega)
     exact (i3 j w t hj ht j).2 ⟨t,ht,.refl⟩
    have hdis:c0.Nodup:=by
     rw [List.Nodup,List.pairwise_iff_getElem]
     intro a b ha hb hab e
     obtain ⟨s,hs,hsm⟩:=q1i (l:=all) (show a<all.length by omega)
     obtain ⟨t,ht,htm⟩:=q1i (l:=all) (show b<all.length by omega)
     have ga:=List.getElem?_eq_getElem ha
     have gb:=List.getElem?_eq_getElem hb
     have h1:=hself a _ ga
     have h2:=hself b _ gb
     rw [e] at h1
     rw [← e] at h2
     obtain ⟨u,hu,hu2⟩:=(i3 b _ t gb ht a).1 h1
     obtain ⟨v,hv,hv2⟩:=(i3 a _ s ga hs b).1 h2
     rw [hs] at hu; cases hu
     rw [ht] at hv; cases hv
     have:=z3x h ((hall s).1 hsm) ((hall t).1 htm) hu2 hv2
     subst this
     obtain ⟨p1,p2⟩:=List.getElem?_eq_some_iff.1 hs
     obtain ⟨q1,q2⟩:=List.getElem?_eq_some_iff.1 ht
     have:=(List.getElem_inj n2.asc.nodup).1 (p2.trans q2.symm)
     omega
    have hok0:∀ a∈c0,a<4096∧a≠0:=fun a ha=>⟨i2 a ha,fun e=>by
     obtain ⟨j,hj,e2⟩:=List.mem_iff_getElem.1 ha
     have:=hself j a (by rw [List.getElem?_eq_getElem hj,e2])
     rw [e] at this
     simp at this⟩
    obtain ⟨ws,f1,f2,f3⟩:=qw4 (c0:=c0) (by omega) hdis hok0 hn
    simp only [q4u,hd',cond_false,qa4,f1,q04,List.length_map]
    by_cases h256:(ws.length:Int) > 256
    ·simp only [h256,decide_true,cond_true]; exact ⟨_,rfl,fun h=>by cases h⟩
    ·simp only [h256,decide_false,cond_false]
     have hlen:ws.length≤256:=by omega
     have:=qct (l:=ws) (by omega) (F:=fun m z (s:List q0c)=>q39 d n all (c0.map bt) (ws.map bt) m z s) (fun i s=>CI (fun w=>qd9 n d all (c0.map bt) (bt w)) (ws.take i) s) (Q:=fun r=>r.2=0→DOK d∧COK d r.1)
      (fun m' i w s hx hlt hd2 hw2 hI2 ih2=>by
       have hwm:=List.mem_of_getElem? hx
       have okw:=f2.ok w hwm
       obtain ⟨t,t1,t2⟩:=qsw h hal (c0:=c0) i1 i2 okw.1 hn
       have hx2:(ws.map bt)[i]? = some (bt w):=by rw [List.getElem?_map,hx]; rfl
       have hsl:=hI2.len
       rw [List.length_take] at hsl
       simp only [q39,List.length_map,hd2,cond_true,q0a,hx2,q04,t1]
       refine ins_L (w:=w) (s:=t) hI2 (by omega) (fun v hv=>(f2.ok v (List.mem_of_mem_take hv)).1) okw.1 t1 hn (fun l' hl'=>?_) n s.length (by omega) (by omega) (by simp)
       rw [hw2]
       rw [← q0k hx] at hl'
       exact ih2 l' hl')
      (fun m' s hd2 hI2=>by
       rw [List.take_of_length_le (Nat.le_refl _)] at hI2
       simp only [q39,List.length_map,hd2,cond_false,qa5]
       have hpos:0<ws.length:=by
        have hone:0<d.length:=by
         have:=h.one
         cases d with
         | nil=>simp at this
         | cons x d=>simp
        obtain ⟨x,hx,hxm⟩:=q1i (l:=d) hone
        have:=(hall x.Name).2 ⟨x,hxm,rfl⟩
        have:=List.length_pos_of_mem this
        obtain ⟨t,ht⟩:=f2.pre
        rw [ht,List.length_append]
        omega
       refine ⟨_,rfl,fun _=>⟨h,⟨_,c0,ws,f2,f3 hlen,hI2,hlen,hpos⟩,fun t ht=>?_⟩⟩
       obtain ⟨j,hj,e⟩:=List.mem_iff_getElem.1 ((hall t).2 ht)
       have hj':j<c0.length:=by omega
       obtain ⟨p,hp⟩:=f2.pre
       have hwm:c0[j]∈ws:=by rw [hp]; exact List.mem_append_left _ (List.getElem_mem hj')
       obtain ⟨x,hx,_,e2⟩:=hI2.nam _ hwm
       refine ⟨x,hx,?_⟩
       obtain ⟨s2,t1,t2⟩:=qsw h hal (c0:=c0) i1 i2 (f2.ok _ hwm).1 hn
       rw [t1] at e2
       rw [← Option.some.inj e2]
       exact t2 j t hdis (List.getElem?_eq_getElem hj') (by rw [List.getElem?_eq_getElem hj,e])) n 0 [] (by omega) (by omega) ⟨by simp,by simp,List.Pairwise.nil⟩
     rw [Int.ofNat_zero] at this
     exact this) n 0 [] (by omega) (by omega) ⟨rfl,by simp,fun j w t hj=>by simp at hj⟩
  rw [Int.ofNat_zero] at this
  obtain ⟨r,h1,h2⟩:=this
  exact ⟨r.1,r.2,h1,h2⟩
 ·have:(e != 0)=true:=by simpa using he
  simp only [this,cond_true]
  exact ⟨[],e,rfl,fun h=>absurd h he⟩
end Go.Proofs
end
section
namespace Go.Proofs
open Go Go.Rx Go.Vx Go.Shelf Go.Sort
set_option maxRecDepth 10000
theorem qtr {x:q02} (hx:x.Feats.length≤256) (s:Str) {n:Nat} (hn:5000≤n):∃ r,qc8 n x s=some r∧(r.2=true→∃ f∈x.Feats,f.Feat=s∧f.Value=r.1):=by
 have:=qct (l:=x.Feats) (by omega) (F:=fun m z (_:Unit)=>q4y x s m z) (fun _ _=>True) (Q:=fun r=>r.2=true→∃ f∈x.Feats,f.Feat=s∧f.Value=r.1)
  (fun m i f _ hf hlt hd' hw _ ih=>by
   simp only [q4y,hd',cond_true,q0a,hf,q04,beqD,hw]
   by_cases e:f.Feat=s
   ·simp only [e,decide_true,cond_true]
    exact ⟨_,rfl,fun _=>⟨f,List.mem_of_getElem? hf,e,rfl⟩⟩
   ·simp only [e,decide_false,cond_false]
    exact ih () trivial)
  (fun m _ hd' _=>by simp only [q4y,hd',cond_false,qac]; exact ⟨_,rfl,fun h=>by cases h⟩) n 0 () (by omega) (by omega) trivial
 rw [Int.ofNat_zero] at this
 exact this
theorem ql1 {l:List q0c} (hl:l.length≤256) (s:Str) {n:Nat} (hn:5000≤n):∃ r,q85 n l s=some r∧((∃ x∈l,x.Name=s)→∃ j:Nat,r=(j:Int)∧j<l.length):=by
 have:=qct (l:=l) (by omega) (F:=fun m z (_:Unit)=>q47 l s m z) (fun i _=>∀ x∈l.take i,x.Name≠s) (Q:=fun r=>(∃ x∈l,x.Name=s)→∃ j:Nat,r=(j:Int)∧j<l.length)
  (fun m i x _ hx hlt hd' hw hI ih=>by
   simp only [q47,hd',cond_true,q0a,hx,q04,beqD,hw]
   by_cases e:x.Name=s
   ·simp only [e,decide_true,cond_true]
    exact ⟨_,rfl,fun _=>⟨i,rfl,hlt⟩⟩
   ·simp only [e,decide_false,cond_false]
    refine ih () fun y hy=>?_
    rw [q0k hx] at hy
    rcases List.mem_append.1 hy with hy | hy
    ·exact hI y hy
    ·simp at hy; subst hy; exact e)
  (fun m _ hd' hI=>by
   rw [List.take_of_length_le (Nat.le_refl _)] at hI
   simp only [q47,hd',cond_false,q8t]
   exact ⟨_,rfl,fun ⟨x,hx,e⟩=>absurd e (hI x hx)⟩) n 0 () (by omega) (by omega) (by simp)
 rw [Int.ofNat_zero] at this
 exact this
theorem qzi {d:List q02} (hd:d.length≤12) (hf:∀ x∈d,x.Feats.length≤256) {n:Nat} (hn:5000≤n):∃ f,q7w n d=some f∧AscS f∧f.length≤3072∧∀ s∈f,∃ x∈d,∃ y∈x.Feats,y.Feat=s:=by
 have:=qct (l:=d) (by omega) (F:=fun m z s=>q2k d n m s z) (fun i s=>AscS s∧s.length≤256*i∧∀ t∈s,∃ x∈d,∃ y∈x.Feats,y.Feat=t) (Q:=fun f=>AscS f∧f.length≤3072∧∀ s∈f,∃ x∈d,∃ y∈x.Feats,y.Feat=s)
  (fun m i x s hx hlt hd' hw hI ih=>by
   obtain ⟨i1,i2,i3⟩:=hI
   have hxm:=List.mem_of_getElem? hx
   have hxf:=hf x hxm
   simp only [q2k,hd',cond_true]
   have:=qct (l:=x.Feats) (by omega) (F:=fun m' z s'=>q4x d n i (q2k d n m) m' s' z) (fun k s'=>AscS s'∧s'.length≤s.length+k∧∀ t∈s',∃ x∈d,∃ y∈x.Feats,y.Feat=t) (Q:=fun f=>AscS f∧f.length≤3072∧∀ s∈f,∃ x∈d,∃ y∈x.Feats,y.Feat=s)
    (fun m' k y s' hy hlt2 hd2 hw2 hI2 ih2=>by
     obtain ⟨j1,j2,j3⟩:=hI2
     obtain ⟨o,h1,h2,h3,h4⟩:=qmx (l:=s') (by omega) j1 y.Feat (show s'.length<n by omega)
     simp only [q4x,q0a,hx,q04,hd2,cond_true,hy,h1,hw2]
     refine ih2 o ⟨h4,by omega,fun t ht=>?_⟩
     rcases (h2 t).1 ht with rfl | ht
     ·exact ⟨x,hxm,y,List.mem_of_getElem? hy,rfl⟩
     ·exact j3 t ht)
    (fun m' s' hd2 hI2=>by
     obtain ⟨j1,j2,j3⟩:=hI2
     simp only [q4x,q0a,hx,q04,hd2,cond_false,qaa,hw]
     exact ih s' ⟨j1,by omega,j3⟩) n 0 s (by omega) (by omega) ⟨i1,by omega,i3⟩
   rw [Int.ofNat_zero] at this
   exact this)
  (fun m s hd' hI=>by
   simp only [q2k,hd',cond_false,qa9]
   exact ⟨s,rfl,hI.1,by have:=hI.2.1; omega,hI.2.2⟩) n 0 [] (by omega) (by omega) ⟨List.Pairwise.nil,by simp,by simp⟩
 rw [Int.ofNat_zero] at this
 exact this
theorem qu8 (s:Str) {n:Nat} (hn:40≤n):∃ r,q5e n s=some r:=by
 obtain ⟨r,h1,_⟩:=qsx s true hn
 exact ⟨r,by simp [q5e,h1,q04]⟩
def FeaI (d:List q02) (n:Nat) (x:q02):Prop:=∀ f∈x.Feats,q5e n f.Feat=some true∧Dcl d f.Value
theorem qkb {d:List q02} (h:DOK d) {n:Nat} (hn:5000≤n):∃ e,q4i n d=some e∧(e=0→∀ x∈d,FeaI d n x):=by
 have hd:=h.len
 obtain ⟨all,n1,n2⟩:=names_ok (d:=d) (by omega) hn
 have hal:all.length≤12:=by have:=n2.len; simp at this; omega
 have hall:∀ s,s∈all↔Dcl d s:=fun s=>by rw [n2.mem]; simp [Dcl,List.mem_map]
 have:=qct (l:=d) (by omega) (F:=fun m z (_:Unit)=>q0h d n all m z) (fun i _=>∀ x∈d.take i,FeaI d n x) (Q:=fun e=>e=0→∀ x∈d,FeaI d n x)
  (fun m i x _ hx hlt hd' hw hI ih=>by
   have hxf:=(h.siz x (List.mem_of_getElem? hx)).2
   simp only [q0h,hd',cond_true,q0a,hx,q04]
   have:=qct (l:=x.Feats) (by omega) (F:=fun m' z (_:Unit)=>q0t n all i (q0h d n all m) x m' z) (fun k _=>∀ f∈x.Feats.take k,q5e n f.Feat=some true∧Dcl d f.Value) (Q:=fun e=>e=0→∀ x∈d,FeaI d n x)
    (fun m' k f _ hf hlt2 hd2 hw2 hI2 ih2=>by
     obtain ⟨r,r1⟩:=qu8 f.Feat (n:=n) (by omega)
     simp only [q0t,hd2,cond_true,q0a,hf,q04,r1]
     cases r with
     | false=>exact ⟨1,rfl,fun h=>by cases h⟩
     | true =>
      simp only [Bool.not_true,cond_false]
      have hk:((k:Int)≤(x.Feats.length:Int)):=by omega
      have key:∀ (m3 j:Nat),k - j<m3→j≤k→∃ e,q2e n all x k (q0t n all i (q0h d n all m) x m') m3 j=some e∧(e=0→∀ x∈d,FeaI d n x):=by
       intro m3
       induction m3 with
       | zero=>intro j hm; omega
       | succ m3 ih3 =>
        intro j hm hj
        unfold q2e
        by_cases hjk:j<k
        ·obtain ⟨g,hg,_⟩:=q1i (l:=x.Feats) (show j<x.Feats.length by omega)
         have e0:decide ((j:Int)<(k:Int))=true:=by simp; omega
         have e1:IntKind.i64.wrap ((j:Int)+1)=((j+1:Nat):Int):=wrn (by omega) (by omega)
         simp only [e0,cond_true,q0a,hg,hf,q04,e1]
         cases q1l g.Feat f.Feat with
         | true=>exact ⟨4,rfl,fun h=>by cases h⟩
         | false=>exact ih3 (j+1) (by omega) (by omega)
        ·have e0:decide ((j:Int)<(k:Int))=false:=by simp; omega
         simp only [e0,cond_false,q4l,q0a,hf,q04,qb4 (l:=all) (by omega) f.Value (n:=n) (by omega),hw2]
         by_cases hm2:f.Value∈all
         ·simp only [hm2,decide_true,Bool.not_true,cond_false]
          refine ih2 () fun y hy=>?_
          rw [q0k hf] at hy
          rcases List.mem_append.1 hy with hy | hy
          ·exact hI2 y hy
          ·simp at hy; subst hy; exact ⟨r1,(hall _).1 hm2⟩
         ·simp only [hm2,decide_false,Bool.not_false,cond_true]
          exact ⟨5,rfl,fun h=>by cases h⟩
      have:=key n 0 (by omega) (by omega)
      rw [Int.ofNat_zero] at this
      exact this)
    (fun m' _ hd2 hI2=>by
     rw [List.take_of_length_le (Nat.le_refl _)] at hI2
     simp only [q0t,hd2,cond_false,q4k,hw]
     refine ih () fun y hy=>?_
     rw [q0k hx] at hy
     rcases List.mem_append.1 hy with hy | hy
     ·exact hI y hy
     ·simp at hy; subst hy; exact hI2) n 0 () (by omega) (by omega) (by simp)
   rw [Int.ofNat_zero] at this
   exact this)
  (fun m _ hd' hI=>by
   rw [List.take_of_length_le (Nat.le_refl _)] at hI
   simp only [q0h,hd',cond_false,q4j]
   exact ⟨0,rfl,fun _=>hI⟩) n 0 () (by omega) (by omega) (by simp)
 rw [Int.ofNat_zero] at this
 simp only [q4i,n1,q04]
 exact this
theorem qsk {d:List q02} (h:DOK d) (s:Str) {n:Nat} (hn:5000≤n):∃ r,qc7 n d s=some r:=by
 have hd:=h.len
 have:=qct (l:=d) (by omega) (F:=fun m z t=>q3b d s n m t z) (fun i t=>AscS t∧t.length≤i) (Q:=fun _=>True)
  (fun m i x t hx hlt hd' hw hI ih=>by
   obtain ⟨i1,i2⟩:=hI
   obtain ⟨r,r1,_⟩:=qtr (h.siz x (List.mem_of_getElem? hx)).2 s hn
   simp only [q3b,hd',cond_true,q0a,hx,q04,r1,q7j,hw]
   cases r.2 with
   | true =>
    obtain ⟨o,h1,h2,h3,h4⟩:=qmx (l:=t) (by omega) i1 x.Name (show t.length<n by omega)
    simp only [cond_true,h1,q04]
    exact ih o ⟨h4,by omega⟩
   | false=>exact ih t ⟨i1,by omega⟩)
  (fun m t hd' hI=>by
   obtain ⟨out,m1,m2,m3⟩:=qmu h (l:=t) (by have:=hI.2; omega) hn
   simp only [q3b,hd',cond_false,qab,m1,q04]
   by_cases e:(out.length:Int)=1
   ·obtain ⟨x,hx,_⟩:=q1i (l:=out) (show 0<out.length by omega)
    have h0:q11 out 0=some x:=by rw [← hx]; exact q0a 0
    simp only [e,bne_self_eq_false,cond_false,h0,q04]
    exact ⟨_,rfl,trivial⟩
   ·have:((out.length:Int) != 1)=true:=by simpa using e
    simp only [this,cond_true]
    exact ⟨_,rfl,trivial⟩) n 0 [] (by omega) (by omega) ⟨List.Pairwise.nil,by simp⟩
 rw [Int.ofNat_zero] at this
 obtain ⟨r,h1,_⟩:=this
 exact ⟨r,h1⟩
theorem qe4 {d:List q02} {l:List q0c} (h:COK d l) {i j:Nat} (hi:i<l.length) (hj:j<l.length) {n:Nat} (hn:5000≤n):∃ b,q44 n l i j=some b:=by
 obtain ⟨x,hx,hxm⟩:=q1i hi
 obtain ⟨y,hy,hym⟩:=q1i hj
 obtain ⟨a,a1,a2,_⟩:=h.cod x hxm
 obtain ⟨b,b1,b2,_⟩:=h.cod y hym
 simp only [q44,q0a,hx,hy,q04,a1,b1,qlj b2 a2 (show 5≤n by omega)]
 exact ⟨_,rfl⟩
theorem qiw {d:List q02} (h:DOK d) {l:List q0c} (hl:COK d l) (hv:∀ x∈d,∀ f∈x.Feats,Dcl d f.Value) {t:Nat} (ht:t<l.length) (s:Str) {n:Nat} (hn:5000≤n):∃ w b,q59 n d l t s=some (bt w,b)∧w<4096:=by
 have hd:=h.len
 have hll:=hl.len
 obtain ⟨x0,hx0,hxm0⟩:=q1i (l:=l) hll.2
 obtain ⟨w0,a1,a2,_⟩:=hl.cod x0 hxm0
 have:=qct (l:=d) (by omega) (F:=fun m z (s':Bool×Nat)=>q22 d l t s n m s'.1 (bt s'.2) z) (fun _ s'=>s'.2<4096) (Q:=fun r=>∃ w b,r=(bt w,b)∧w<4096)
  (fun m i x s' hx hlt hd' hw hI ih=>by
   have hxm:=List.mem_of_getElem? hx
   obtain ⟨r,r1,r2⟩:=qtr (h.siz x hxm).2 s hn
   simp only [q22,hd',cond_true,q0a,hx,q04,r1,hw]
   cases hr:r.2 with
   | false=>simp only [Bool.not_false,cond_true,q04]; exact ih s' hI
   | true =>
    obtain ⟨p,p1,p2⟩:=ql1 (l:=l) (by omega) x.Name hn
    obtain ⟨j,rfl,hj⟩:=p2 (hl.dcl _ ⟨x,hxm,rfl⟩)
    obtain ⟨b,b1⟩:=qe4 hl hj ht hn
    simp only [Bool.not_true,cond_false,p1,q04,b1]
    cases b with
    | false=>simp only [Bool.not_false,cond_true]; exact ih s' hI
    | true =>
     obtain ⟨f,hf,_,e2⟩:=r2 hr
     obtain ⟨q,q1,q2⟩:=ql1 (l:=l) (by omega) r.1 hn
     obtain ⟨k,rfl,hk⟩:=q2 (hl.dcl _ (e2 ▸ hv x hxm f hf))
     obtain ⟨y,hy,hym⟩:=q1i hk
     obtain ⟨v,v1,v2,_⟩:=hl.cod y hym
     simp only [Bool.not_true,cond_false,q1,q04,q0a,hy,v1,z0s hI v2 (show 5≤n by omega)]
     exact ih (true,s'.2 &&& v) (Nat.lt_of_le_of_lt Nat.and_le_left hI))
  (fun m s' hd' hI=>by
   simp only [q22,hd',cond_false,q65]
   exact ⟨_,rfl,s'.2,s'.1,rfl,hI⟩) n 0 (false,w0) (by omega) (by omega) a2
 rw [Int.ofNat_zero] at this
 obtain ⟨r,h1,w,b,rfl,h2⟩:=this
 have h0:q11 l 0=some x0:=by rw [← hx0]; exact q0a 0
 exact ⟨w,b,by simp only [q59,h0,q04,a1]; exact h1,h2⟩
structure qyj (d:List q02) (n:Nat) (l:List q0c) (f:List Str):Prop where
 dok:DOK d
 cod:q5g n d=some (l,0)
 cok:COK d l
 fea:q7w n d=some f
 asc:AscS f
 len:f.length≤64
 val:∀ x∈d,FeaI d n x
 mem:∀ s∈f,∃ x∈d,∃ y∈x.Feats,y.Feat=s
theorem qoz {d:List q02} (hd:d.length≤12) {n:Nat} (hn:5000≤n):∃ e,q6k n d=some e∧(e=0→∃ l f,qyj d n l f):=by
 obtain ⟨l,e,c1,c2⟩:=qza hd hn
 simp only [q6k,c1,q04]
 by_cases he:e=0
 ·subst he
  obtain ⟨h,hl⟩:=c2 rfl
  have hll:=hl.len
  obtain ⟨f,f1,f2,f3,f4⟩:=qzi hd (fun x hx=>(h.siz x hx).2) hn
  simp only [bne_self_eq_false,cond_false,f1,q04]
  by_cases h64:(f.length:Int) > 64
  ·simp only [h64,decide_true,cond_true]; exact ⟨7,rfl,fun h=>by cases h⟩
  ·obtain ⟨e2,d1,d2⟩:=qkb h hn
   simp only [h64,decide_false,cond_false,d1,q04]
   by_cases he2:e2=0
   ·subst he2
    have hv:=d2 rfl
    have hok:qyj d n l f:=⟨h,c1,hl,f1,f2,by omega,hv,f4⟩
    simp only [bne_self_eq_false,cond_false]
    have:=qct (l:=f) (by omega) (F:=fun m z (_:Unit)=>q4v d n (l,0) f m z) (fun _ _=>True) (Q:=fun e=>e=0→∃ l f,qyj d n l f)
     (fun m i s _ hs hlt hd' hw _ ih=>by
      obtain ⟨r,r1⟩:=qsk h s hn
      simp only [q4v,hd',cond_true,q0a,hs,q04,r1,hw]
      cases r.2 with
      | false=>exact ⟨10,rfl,fun h=>by cases h⟩
      | true=>exact ih () trivial)
     (fun m _ hd' _=>by
      simp only [q4v,hd',cond_false,qa6]
      have:=qct (l:=l) (by omega) (F:=fun m z (_:Unit)=>q2j d n (l,0) f m z) (fun _ _=>True) (Q:=fun e=>e=0→∃ l f,qyj d n l f)
       (fun m t _ _ _ hlt2 hd2 hw2 _ ih2=>by
        simp only [q2j,hd2,cond_true]
        have:=qct (l:=f) (by omega) (F:=fun m' z (_:Unit)=>q4w d n (l,0) f t (q2j d n (l,0) f m) m' z) (fun _ _=>True) (Q:=fun e=>e=0→∃ l f,qyj d n l f)
         (fun m' i s _ hs hlt3 hd3 hw3 _ ih3=>by
          obtain ⟨w,b,i1,_⟩:=qiw h hl (fun x hx y hy=>(hv x hx y hy).2) hlt2 s hn
          simp only [q4w,hd3,cond_true,q0a,hs,q04,i1,hw3]
          cases b with
          | false=>exact ih3 () trivial
          | true =>
           simp only [cond_true,q04]
           cases (((bt w).length:Int) == 0) with
           | true=>exact ⟨11,rfl,fun h=>by cases h⟩
           | false=>exact ih3 () trivial)
         (fun m' _ hd3 _=>by
          simp only [q4w,hd3,cond_false,qa8,hw2]
          exact ih2 () trivial) n 0 () (by omega) (by omega) trivial
        rw [Int.ofNat_zero] at this
        exact this)
       (fun m _ hd2 _=>by
        simp only [q2j,hd2,cond_false,qa7]
        exact ⟨0,rfl,fun _=>⟨l,f,hok⟩⟩) n 0 () (by omega) (by omega) trivial
      rw [Int.ofNat_zero] at this
      exact this) n 0 () (by omega) (by omega) trivial
    rw [Int.ofNat_zero] at this
    exact this
   ·have:(e2 != 0)=true:=by simpa using he2
    simp only [this,cond_true]
    exact ⟨e2,rfl,fun h=>absurd h he2⟩
 ·have:(e != 0)=true:=by simpa using he
  simp only [this,cond_true]
  exact ⟨e,rfl,fun h=>absurd h he⟩
theorem qzk {d:List q02} {l:List q0c} (hl:COK d l) {w n:Nat} (hn:5000≤n):∃ r,qd7 n l (bt w)=some r:=by
 have hll:=hl.len
 have:=qct (l:=l) (by omega) (F:=fun m z (_:Unit)=>q5h l n (bt w) m z) (fun _ _=>True) (Q:=fun _=>True)
  (fun m i x _ hx hlt hd' hw _ ih=>by
   obtain ⟨a,a1,_⟩:=hl.cod x (List.mem_of_getElem? hx)
   simp only [q5h,hd',cond_true,q0a,hx,q04,a1,qtf (a:=a) (b:=w) (n:=n) (by omega),hw]
   cases decide (a=w) with
   | true=>exact ⟨_,rfl,trivial⟩
   | false=>exact ih () trivial)
  (fun m _ hd' _=>by simp only [q5h,hd',cond_false,qbf]; exact ⟨_,rfl,trivial⟩) n 0 () (by omega) (by omega) trivial
 rw [Int.ofNat_zero] at this
 obtain ⟨r,h1,_⟩:=this
 exact ⟨r,by simp only [qd7,z3i (w:=w) (n:=n) (by omega),q04]; exact h1⟩
theorem qyf {d:List q02} (hd:d.length≤12) {n:Nat} (hn:5000≤n):∃ v e,q84 n d=some (v,e)∧(e=0→∃ l f,qyj d n l f∧v.length=l.length):=by
 obtain ⟨e,c1,c2⟩:=qoz hd hn
 simp only [q84,c1,q04]
 by_cases he:e=0
 ·subst he
  obtain ⟨l,f,h⟩:=c2 rfl
  have hll:=h.cok.len
  have hfl:=h.len
  simp only [bne_self_eq_false,cond_false,h.cod,h.fea,q04]
  have:=qct (l:=l) (by omega) (F:=fun m z s=>q1s d n (l,0) f m z s) (fun i s=>s.length=i) (Q:=fun r=>r.2=0→∃ l f,qyj d n l f∧r.1.length=l.length)
   (fun m t _ s _ hlt hd' hw hI ih=>by
    simp only [q1s,hd',cond_true]
    have:=qct (l:=f) (by omega) (F:=fun m' z s'=>q2q d n (l,0) f t s (q1s d n (l,0) f m) m' z s') (fun i s'=>s'.length≤i) (Q:=fun r=>r.2=0→∃ l f,qyj d n l f∧r.1.length=l.length)
     (fun m' i x s' hx hlt2 hd2 hw2 hI2 ih2=>by
      obtain ⟨w,b,i1,_⟩:=qiw h.dok h.cok (fun x hx y hy=>(h.val x hx y hy).2) hlt x hn
      simp only [q2q,hd2,cond_true,q0a,hx,q04,i1,q6l,hw2]
      cases b with
      | true =>
       obtain ⟨r,r1⟩:=qzk h.cok (w:=w) hn
       simp only [cond_true,r1,q04]
       rw [ned (by omega)]
       exact ih2 _ (by simp; omega)
      | false=>exact ih2 s' (by omega))
     (fun m' s' hd2 hI2=>by
      simp only [q2q,hd2,cond_false,q8s,hw]
      rw [ned (by omega)]
      exact ih _ (by simp; omega)) n 0 [] (by omega) (by omega) (by simp)
    rw [Int.ofNat_zero] at this
    exact this)
   (fun m s hd' hI=>by
    simp only [q1s,hd',cond_false,q8r]
    exact ⟨_,rfl,fun _=>⟨l,f,h,hI⟩⟩) n 0 [] (by omega) (by omega) (by simp)
  rw [Int.ofNat_zero] at this
  obtain ⟨r,h1,h2⟩:=this
  exact ⟨r.1,r.2,h1,h2⟩
 ·have:(e != 0)=true:=by simpa using he
  simp only [this,cond_true]
  exact ⟨[],e,rfl,fun h=>absurd h he⟩
theorem quv {d:List q02} {l:List q0c} (h:COK d l) {t:Nat} (ht:t<l.length) {n:Nat} (hn:5000≤n):∃ r,qco n l t=some r:=by
 have hll:=h.len
 have:=qct (l:=l) (by omega) (F:=fun m z s=>q18 l t n m z s) (fun i s=>s.length≤i) (Q:=fun _=>True)
  (fun m k _ s _ hlt hd' hw hI ih=>by
   obtain ⟨b,b1⟩:=qe4 h hlt ht hn
   simp only [q18,hd',cond_true,b1,q04,hw]
   have go:∃ r,q3f l t n k s (q18 l t n m) n true 0=some r∧True:=by
    have:=qct (l:=l) (by omega) (F:=fun m' z b=>q3f l t n k s (q18 l t n m) m' b z) (fun _ _=>True) (Q:=fun _=>True)
     (fun m' i _ b _ hlt2 hd2 hw2 _ ih2=>by
      obtain ⟨b1,g1⟩:=qe4 h hlt hlt2 hn
      obtain ⟨b2,g2⟩:=qe4 h hlt2 ht hn
      simp only [q3f,hd2,cond_true,hw2,g1,g2,q04]
      cases b with
      | false=>exact ih2 false trivial
      | true =>
       cases ((i:Int) == (t:Int)) with
       | true=>exact ih2 true trivial
       | false =>
        cases ((i:Int) == (k:Int)) with
        | true=>exact ih2 true trivial
        | false =>
         cases b1 with
         | false=>exact ih2 true trivial
         | true=>exact ih2 _ trivial)
     (fun m' b hd2 _=>by
      simp only [q3f,hd2,cond_false,q8n,q6g,hw]
      cases b with
      | true =>
       simp only [cond_true]
       rw [ned (by omega)]
       exact ih _ (by simp; omega)
      | false=>exact ih s (by omega)) n 0 true (by omega) (by omega) trivial
    rw [Int.ofNat_zero] at this
    exact this
   cases ((k:Int) == (t:Int)) with
   | true=>simp only [cond_true,q04]; exact ih s (by omega)
   | false =>
    simp only [cond_false,q04]
    cases b with
    | false=>simp only [Bool.not_false,cond_true]; exact ih s (by omega)
    | true=>simp only [Bool.not_true,cond_false]; exact go)
  (fun m s hd' hI=>by simp only [q18,hd',cond_false,q8m]; exact ⟨_,rfl,trivial⟩) n 0 [] (by omega) (by omega) (by simp)
 rw [Int.ofNat_zero] at this
 obtain ⟨r,h1,_⟩:=this
 exact ⟨r,h1⟩
theorem qqz {d:List q02} {n:Nat} (hn:5000≤n) {l:List q0c} {f:List Str} (h:qyj d n l f) (hc:q6k n d=some 0):∃ r,q7i n d=some (r,0)∧r.map q29.Name=f:=by
 have hll:=h.cok.len
 have hfl:=h.len
 have:=qct (l:=f) (by omega) (F:=fun m z s=>q30 d n (l,0) f m z s) (fun i s=>s.map q29.Name=f.take i) (Q:=fun r=>r.2=0∧r.1.map q29.Name=f)
  (fun m i x s hx hlt hd' hw hI ih=>by
   obtain ⟨r,r1⟩:=qsk h.dok x hn
   obtain ⟨q,q1,_⟩:=ql1 (l:=l) (by omega) r.1 hn
   have hsl:s.length=i:=by have:=congrArg List.length hI; simp at this; omega
   simp only [q30,hd',cond_true,q0a,hx,q04,r1,q1,hw]
   rw [ned (by omega)]
   exact ih _ (by rw [List.map_append,hI,q0k hx]; rfl))
  (fun m s hd' hI=>by
   rw [List.take_of_length_le (Nat.le_refl _)] at hI
   simp only [q30,hd',cond_false,q6x]
   exact ⟨_,rfl,rfl,hI⟩) n 0 [] (by omega) (by omega) (by simp)
 rw [Int.ofNat_zero] at this
 obtain ⟨r,h1,h2,h3⟩:=this
 refine ⟨r.1,?_,h3⟩
 simp only [q7i,hc,q04,bne_self_eq_false,cond_false,h.cod,h.fea,h1]
 rw [← h2]
structure HOK (d:List q02) (n:Nat) (h:q0n):Prop where
 ex:∃ l f,qyj d n l f∧h.Types.map qde.Code=l.map q0c.Code∧h.Feats.map q29.Name=f
theorem qu4 {d:List q02} (hd:d.length≤12) {n:Nat} (hn:5000≤n):∃ h e,q3u n d=some (h,e)∧(e=0→HOK d n h)∧(e≠0→h=⟨[],[]⟩):=by
 obtain ⟨v,e,v1,v2⟩:=qyf hd hn
 simp only [q3u,v1,q04]
 by_cases he:e=0
 ·subst he
  obtain ⟨l,f,h,hv⟩:=v2 rfl
  have hll:=h.cok.len
  have hc:q6k n d=some 0:=by
   obtain ⟨e,c1,c2⟩:=qoz hd hn
   by_cases h0:e=0
   ·rw [c1,h0]
   ·have:(e != 0)=true:=by simpa using h0
    simp only [q84,c1,q04,this,cond_true,Option.some.injEq,Prod.mk.injEq] at v1
    exact absurd v1.2 h0
  obtain ⟨fs,g1,g2⟩:=qqz hn h hc
  simp only [bne_self_eq_false,cond_false,h.cod,q04]
  have:=qct (l:=l) (by omega) (F:=fun m z s=>q3l d n (v,0) (l,0) m z s) (fun i s=>s.map qde.Code=(l.take i).map q0c.Code) (Q:=fun r=>r.2=0∧HOK d n r.1)
   (fun m i x s hx hlt hd' hw hI ih=>by
    obtain ⟨r,r1⟩:=quv h.cok hlt hn
    obtain ⟨y,hy,_⟩:=q1i (l:=v) (show i<v.length by omega)
    have hsl:s.length=i:=by have:=congrArg List.length hI; simp at this; omega
    simp only [q3l,hd',cond_true,q0a,hx,hy,q04,r1,hw]
    rw [ned (by omega)]
    exact ih _ (by rw [List.map_append,hI,q0k hx,List.map_append]; rfl))
   (fun m s hd' hI=>by
    rw [List.take_of_length_le (Nat.le_refl _)] at hI
    simp only [q3l,hd',cond_false,q7q,g1,q04]
    exact ⟨_,rfl,rfl,⟨l,f,h,hI,g2⟩⟩) n 0 [] (by omega) (by omega) (by simp)
  rw [Int.ofNat_zero] at this
  obtain ⟨r,h1,h2,h3⟩:=this
  exact ⟨r.1,r.2,h1,fun _=>h3,fun h=>absurd h2 h⟩
 ·have:(e != 0)=true:=by simpa using he
  simp only [this,cond_true]
  exact ⟨_,e,rfl,fun h=>absurd h he,fun _=>rfl⟩
end Go.Proofs
end
section
namespace Go.Proofs
open Go Go.Rx Go.Vx
set_option maxRecDepth 10000
theorem ck_L2 (p1:q0n) (z:Int) {rc:Int→Option Int} (x:q0d):∀ (m:Nat) (k:Int),q5w p1 z rc x m k=q40 p1 z rc x m k
 | 0,_=>rfl
 | m+1,k=>by
  unfold q5w q40
  simp only [ck_L2 p1 z x m,qad,q7b]
theorem ck_L1 {p1:q0n} {f:GFS} {n:Nat} {r:GFS×Int} (hk:q5v f n r=q34 f n r):∀ (m:Nat) (z:Int),q3c p1 f n r m z=q25 p1 f n r m z
 | 0,_=>rfl
 | m+1,z=>by
  have:q3c p1 f n r m=q25 p1 f n r m:=funext (ck_L1 hk m)
  unfold q3c q25
  simp only [hk,ck_L2,this]
theorem ct_L2 {p1:q0n} {z:Int} {rc:Int→Option Int} {x:q0d} (hx:x.Arcs.length≤12) (hr:∃ r,rc (IntKind.i64.wrap (z+1))=some r):∀ (m k:Nat),x.Arcs.length - k<m→k≤x.Arcs.length→∃ r,q40 p1 z rc x m k=some r
 | 0,k,hm,_=>by omega
 | m+1,k,hm,hk=>by
  unfold q40
  by_cases hlt:k<x.Arcs.length
  ·obtain ⟨a,ha,_⟩:=q1i hlt
   simp only [dlt hlt,cond_true,q0a,ha,q04,wr1 hlt (show x.Arcs.length≤9223372036854775807 by omega)]
   by_cases h:a.Feat ≥ (p1.Feats.length:Int)
   ·simp only [h,decide_true,cond_true]; exact ⟨_,rfl⟩
   ·simp only [h,decide_false,cond_false]; exact ct_L2 hx hr m (k+1) (by omega) (by omega)
  ·simp only [qfm hlt,cond_false,q7b]; exact hr
theorem ct_L1 {p1:q0n} {f:GFS} {n:Nat} {r3:GFS×Int} (hs:Small f 12) (hn:12<n) (hk:∃ r,q34 f n r3=some r):∀ (m i:Nat),f.Nodes.length - i<m→i≤f.Nodes.length→∃ r,q25 p1 f n r3 m i=some r
 | 0,i,hm,_=>by omega
 | m+1,i,hm,hi=>by
  have hnl:=hs.nodes
  unfold q25
  by_cases hlt:i<f.Nodes.length
  ·obtain ⟨x,hx,hxm⟩:=q1i hlt
   have hxl:=hs.arcs x hxm
   simp only [dlt hlt,cond_true,q0a,hx,q04]
   by_cases h:x.Typex ≥ (p1.Types.length:Int)
   ·simp only [h,decide_true,cond_true]; exact ⟨_,rfl⟩
   ·simp only [h,decide_false,cond_false]
    have:=ct_L1 (p1:=p1) hs hn hk m (i+1) (by omega) (by omega)
    rw [← wr1 hlt (show f.Nodes.length≤9223372036854775807 by omega)] at this
    have:=ct_L2 (p1:=p1) (z:=(i:Int)) (x:=x) hxl this n 0 (by omega) (by omega)
    exact this
  ·simp only [qfm hlt,cond_false]; exact hk
theorem qz8 {f:GFS} (hs:Small f 12) (h:q0n) {n:Nat} (hn:3000000≤n):∃ r,q96 n h f=some r∧q9g n h f=some r:=by
 have h1:=qys hs (by omega) (n:=n) (show 2*12+4≤n by omega)
 have h2:=qrk hs (by omega) (n:=n) (show 2*12+4≤n by omega)
 by_cases e:qsa f=0
 ·rw [if_pos e] at h1 h2
  obtain ⟨g1,g2,g3⟩:=qpa.1 e
  have hsm:=hs.canon g3 (r:=0) ⟨by omega,by omega⟩
  have q1:=eqG_ok (n:=n) (k:=12) (by omega) (by omega) (g:=⟨(q67 f 0).Nodes⟩) hs
  have q2:=z0a (f:=f) (g:=⟨(q67 f 0).Nodes⟩) (n:=n) (hs.up (by omega)) (hsm.up (by omega)) hn
  have hk:q5v f n (q67 f 0,0)=q34 f n (q67 f 0,0):=by
   simp only [q5v,q34,q1,q2]
  have ht:∃ r,q34 f n (q67 f 0,0)=some r:=by
   simp only [q34,q1,q04]
   cases (ccG f ⟨(q67 f 0).Nodes⟩ == 0)
   ·exact ⟨_,rfl⟩
   ·exact ⟨_,rfl⟩
  obtain ⟨r,hr⟩:=ct_L1 (p1:=h) hs (by omega) ht n 0 (by have:=hs.nodes; omega) (by omega)
  rw [Int.ofNat_zero] at hr
  refine ⟨r,?_,?_⟩
  ·simp only [q96,h1,q04]
   exact hr
  ·simp only [q9g,h2,q04]
   exact (ck_L1 hk n 0).trans hr
 ·rw [if_neg e] at h1 h2
  have e':(qsa f != 0)=true:=by simp [e]
  exact ⟨qsa f,by simp only [q96,h1,q04,e',cond_true],by simp only [q9g,h2,q04,e',cond_true]⟩
theorem pre_ok (m:Nat):q05 (q6y (m+200)) (fun d=>q05 (q3u (m+200) d) fun r=>some r.2)=some 0:=by kernel_rfl
theorem pre_n {n:Nat} (h:200≤n):∃ d r,q6y n=some d∧q3u n d=some r:=by
 have:=pre_ok (n - 200)
 rw [show n - 200+200=n by omega] at this
 cases e1:q6y n with
 | none=>rw [e1] at this; cases this
 | some d =>
  rw [e1,q04] at this
  cases e2:q3u n d with
  | none=>rw [e2] at this; cases this
  | some r=>exact ⟨d,r,rfl,e2⟩
theorem qu3 (d:List q02) (f:GFS) {n:Nat} (hn:3000000≤n):q6t n d f=some true:=by
 have hex:=ex_n (show 60≤n by omega)
 obtain ⟨b,hb,hsm⟩:=qzu f (show 20≤n by omega)
 have J:∀ ty fe,Small f 12→q2s f n ty fe=some true:=fun ty fe hs=>by
  obtain ⟨r,h1,h2⟩:=qz8 hs ⟨ty,fe⟩ hn
  simp only [q2s,h1,h2,q04,beq_self_eq_true,cond_true,hex]
 simp only [q6t]
 by_cases h1:(d.length:Int) > 12
 ·simp only [h1,decide_true,cond_true,q04,hex]
 ·simp only [h1,decide_false,cond_false,q04,hb]
  cases b with
  | false=>simp only [Bool.not_false,cond_true,hex,q04]
  | true =>
   obtain ⟨h,e,e1,_⟩:=qu4 (d:=d) (by omega) (show 5000≤n by omega)
   obtain ⟨p,q,e2,e3⟩:=pre_n (show 200≤n by omega)
   simp only [Bool.not_true,cond_false,e1,q04]
   cases he:(e != 0) with
   | false=>simp only [cond_false]; exact J _ _ (hsm rfl)
   | true=>simp only [cond_true,e2,e3,q04]; exact J _ _ (hsm rfl)
end Go.Proofs
end
