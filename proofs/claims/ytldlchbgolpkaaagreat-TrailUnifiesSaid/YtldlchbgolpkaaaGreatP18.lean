/-
  Texts of the walk: K4u T6.
-/
import Derived.Test.YtldlchbgolpkaaaGreatP17
set_option linter.unusedSimpArgs false
set_option linter.unusedVariables false
section
namespace Go.Proofs
open Go Go.Rx Go.Vx Go.Shelf Go.Sort
set_option maxRecDepth 10000
variable {d:List q01}
variable {n:Nat}
theorem z5n (h:DOK d) {all:List Str} (hal:all.length≤12) {s:Str} (hs:Dcl d s) (ha:∀ x∈all,Dcl d x) (hn:5000≤n):∃ w,qee n d all s=some (bt w)∧w<4096∧∀ i,w.testBit i=true↔∃ t,all[i]? = some t∧Upw d t s:=by
 obtain ⟨low,b1,b2,b3,b4⟩:=z1j h hs hn
 have:=qdw (l:=all) (by omega) (F:=fun m z (s:List Nat)=>q4h all n low m z (s.map fun (i:Nat)=>(i:Int))) (fun i s=>s.length≤i∧∀ j,j∈s↔j<i∧∃ t,all[j]? = some t∧t∈low) (Q:=fun r=>∃ w,r=bt w∧w<4096∧∀ i,w.testBit i=true↔∃ t,all[i]? = some t∧Upw d t s)
  (fun m i x s' hx hlt hd' hw hI ih=>by
   obtain ⟨i1,i2⟩:=hI
   simp only [q4h,hd',zC,q07,hx,q02,qc6 (l:=low) (by omega) x (n:=n) (by omega),q9k,hw,yA]
   by_cases hm:x∈low
   ·simp only [hm,yC,zC]
    rw [ned (by omega)]
    have:=ih (s'++[i]) ⟨by simp; omega,fun j=>by
     rw [yD,i2,List.mem_singleton]
     constructor
     ·rintro (⟨h1,h2⟩ | rfl)
      ·exact ⟨by omega,h2⟩
      ·exact ⟨by omega,x,hx,hm⟩
     ·rintro ⟨h1,h2⟩
      by_cases e:j=i
      ·exact .inr e
      ·exact .inl ⟨by omega,h2⟩⟩
    rw [List.map_append] at this
    exact this
   ·simp only [hm,yB,zD]
    exact ih s' ⟨by omega,fun j=>by
     rw [i2]
     constructor
     ·rintro ⟨h1,h2⟩; exact ⟨by omega,h2⟩
     ·rintro ⟨h1,t,h2,h3⟩
      refine ⟨?_,t,h2,h3⟩
      have:j≠i:=fun e=>by subst e; rw [hx] at h2; cases h2; exact hm h3
      omega⟩)
  (fun m s' hd' hI=>by
   obtain ⟨i1,i2⟩:=hI
   have h12:∀ i∈s',i<12:=fun i hi=>by have:=((i2 i).1 hi).1; omega
   simp only [q4h,hd',zD,qcj,of_ok (l:=s') (by omega) h12 hn,q02]
   refine ⟨_,rfl,mk12 s',rfl,z68 s' 0 h12 (by omega),fun i=>?_⟩
   rw [mk12,z4r]
   simp only [Nat.zero_testBit,Bool.false_or,decide_eq_true_eq]
   rw [i2]
   constructor
   ·rintro ⟨_,t,h1,h2⟩; exact ⟨t,h1,((b4 t).1 h2).2⟩
   ·rintro ⟨t,h1,h2⟩
    exact ⟨(zG.1 h1).1,t,h1,(b4 t).2 ⟨ha t (zX h1),h2⟩⟩) n 0 [] (by omega) (by omega) ⟨by simp,fun j=>by simp⟩
 obtain ⟨r,h1,w,rfl,h2,h3⟩:=this
 rw [zV] at h1
 exact ⟨w,by simp only [qee,b1,q02]; exact h1,h2,h3⟩
structure FI (c0 ws:List Nat):Prop where
 pre:∃ t,ws=c0++t
 nod:ws.Nodup
 ok:∀ a∈ws,a<4096∧a≠0∧∃ b∈c0,a &&& b=a
 len:ws.length≤257
def Clo (ws:List Nat) (i k:Nat):Prop:=∀ i' k' a b,k'<i'→(i'<i∨(i'=i∧k'<k))→ws[i']? = some a→ws[k']? = some b→a &&& b=0∨a &&& b∈ws
variable {ws:List Nat}
theorem Clo.app {t:List Nat} {i k:Nat} (h:Clo ws i k) (hi:i<ws.length):Clo (ws++t) i k:=fun i' k' a b h1 h2 h3 h4=>by
 have e1:i'<ws.length:=by omega
 rw [List.getElem?_append_left e1] at h3
 rw [List.getElem?_append_left (by omega)] at h4
 rcases h i' k' a b h1 h2 h3 h4 with h5 | h5
 ·exact .inl h5
 ·exact .inr (List.mem_append_left _ h5)
theorem qur {c0:List Nat} {n:Nat} (hn:5000≤n) {i:Nat} {rc:Int→List (List Int)→Option (List (List Int))} {Q:List (List Int)→Prop} (hi256:i≤256) (hrc:∀ ws',FI c0 ws'→i<ws'.length→(ws'.length≤256→Clo ws' (i+1) 0)→∃ r,rc ((i+1:Nat):Int) (ws'.map bt)=some r∧Q r) :
  ∀ (m k:Nat) (ws:List Nat),i - k<m→k≤i→FI c0 ws→i<ws.length→(ws.length≤256→Clo ws i k)→∃ r,q3w n i rc m k (ws.map bt)=some r∧Q r
 | 0,k,ws,hm,_,_,_,_=>by omega
 | m+1,k,ws,hm,hk,hf,hi,hc=>by
  have hl:=hf.len
  have hwi:IntKind.i64.wrap ((i:Int)+1)=((i+1:Nat):Int):=wrn (by omega) (by omega)
  unfold q3w
  by_cases hlt:k<i
  ·have e0:decide ((k:Int)<(i:Int))=true:=by simp; omega
   simp only [e0,zC,yA]
   by_cases h256:ws.length≤256
   ·obtain ⟨a,ha,ham⟩:=q1j hi
    obtain ⟨b,hb,hbm⟩:=q1j (show k<ws.length by omega)
    have e1:decide ((ws.length:Int)≤256)=true:=by simp; omega
    have ga:(ws.map bt)[i]? = some (bt a):=by rw [List.getElem?_map,ha]; rfl
    have gb:(ws.map bt)[k]? = some (bt b):=by rw [List.getElem?_map,hb]; rfl
    have hwk:IntKind.i64.wrap ((k:Int)+1)=((k+1:Nat):Int):=wrn (by omega) (by omega)
    have oka:=hf.ok a ham
    have okb:=hf.ok b hbm
    simp only [e1,q02,zC,q07,ga,gb,z3w oka.1 okb.1 (show 5≤n by omega),in_ok (ws:=ws) (by omega) (b:=a &&& b) hn,q7g,hwk]
    have hcs:∀ t,(a &&& b=0∨a &&& b∈ws++t)→Clo (ws++t) i (k+1):=fun t ht i' k' x y h1 h2 h3 h4=>by
     by_cases e:i'=i∧k'=k
     ·obtain ⟨rfl,rfl⟩:=e
      rw [List.getElem?_append_left hi,ha] at h3
      rw [List.getElem?_append_left (by omega),hb] at h4
      cases h3; cases h4
      exact ht
     ·exact (hc h256).app hi i' k' x y h1 (by omega) h3 h4
    by_cases hz:a &&& b=0
    ·have e2:decide (((bt (a &&& b)).length:Int) > 0)=false:=by rw [hz]; simp [z5k]
     simp only [e2,zD,q02]
     refine qur hn hi256 hrc m (k+1) ws (by omega) (by omega) hf hi fun _=>?_
     have:=hcs [] (.inl hz)
     rwa [List.append_nil] at this
    ·have e2:decide (((bt (a &&& b)).length:Int) > 0)=true:=by rw [qnt hz]; simp
     simp only [e2,zC,q02]
     by_cases hm':a &&& b∈ws
     ·simp only [hm',yC,Bool.not_true,zD]
      refine qur hn hi256 hrc m (k+1) ws (by omega) (by omega) hf hi fun _=>?_
      have:=hcs [] (.inr (by simpa using hm'))
      rwa [List.append_nil] at this
     ·simp only [hm',yB,Bool.not_false,zC]
      rw [ned (by omega)]
      have hf':FI c0 (ws++[a &&& b]):=by
       obtain ⟨t,ht⟩:=hf.pre
       refine ⟨⟨t++[a &&& b],by rw [ht,zT]⟩,?_,fun c hc=>?_,by simp; omega⟩
       ·rw [List.nodup_append]
        exact ⟨hf.nod,by simp,fun x hx y hy e=>by simp at hy; subst hy; subst e; exact hm' hx⟩
       ·rcases yD.1 hc with hc | hc
        ·exact hf.ok c hc
        ·simp at hc
         subst hc
         obtain ⟨g,hg,eg⟩:=oka.2.2
         refine ⟨Nat.lt_of_le_of_lt Nat.and_le_left oka.1,hz,g,hg,?_⟩
         rw [Nat.and_assoc,Nat.and_comm b g,← Nat.and_assoc,eg]
      have:=qur hn hi256 hrc m (k+1) (ws++[a &&& b]) (by omega) (by omega) hf' (by simp; omega) fun _=>hcs [a &&& b] (.inr (by simp))
      rw [List.map_append] at this
      exact this
   ·have e1:decide ((ws.length:Int)≤256)=false:=by simp; omega
    simp only [e1,q02,zD,q7i,hwi]
    exact hrc ws hf hi fun h=>absurd h h256
  ·have e0:decide ((k:Int)<(i:Int))=false:=by simp; omega
   simp only [e0,zD,q02,q7i,hwi]
   refine hrc ws hf hi fun h i' k' a b h1 h2 h3 h4=>hc h i' k' a b h1 (by omega) h3 h4
theorem z48 {c0:List Nat} {n:Nat} (hn:5000≤n):∀ (m i:Nat) (ws:List Nat),258 - i≤m→i≤257→FI c0 ws→i≤ws.length→(ws.length≤256→Clo ws i 0) →
  ∃ r,q2r n m i (ws.map bt)=some r∧∃ ws',r=ws'.map bt∧FI c0 ws'∧(ws'.length≤256→Clo ws' ws'.length 0)
 | 0,i,ws,hm,_,_,_,_=>by omega
 | m+1,i,ws,hm,hi,hf,hil,hc=>by
  have hl:=hf.len
  unfold q2r
  simp only [yA]
  by_cases hlt:i<ws.length
  ·by_cases h256:ws.length≤256
   ·have e1:decide ((ws.length:Int)≤256)=true:=by simp; omega
    simp only [dlt hlt,zC,e1,q02]
    have:=qur (c0:=c0) hn (i:=i) (rc:=q2r n m) (Q:=fun r=>∃ ws',r=ws'.map bt∧FI c0 ws'∧(ws'.length≤256→Clo ws' ws'.length 0)) (by omega) (fun ws' f1 f2 f3=>z48 hn m (i+1) ws' (by omega) (by omega) f1 (by omega) f3) n 0 ws (by omega) (by omega) hf hlt hc
    rw [zV] at this
    exact this
   ·have e1:decide ((ws.length:Int)≤256)=false:=by simp; omega
    simp only [dlt hlt,zC,e1,q02,zD,q7h]
    exact ⟨_,rfl,ws,rfl,hf,fun h=>absurd h h256⟩
  ·simp only [qfw hlt,zD,q02,q7h]
   have:i=ws.length:=by omega
   exact ⟨_,rfl,ws,rfl,hf,this ▸ hc⟩
def Clsd (ws:List Nat):Prop:=∀ a∈ws,∀ b∈ws,a &&& b≠0→a &&& b∈ws
theorem Clo.all (h:Clo ws ws.length 0):Clsd ws:=fun a ha b hb hne=>by
 obtain ⟨i,hi,rfl⟩:=List.mem_iff_getElem.1 ha
 obtain ⟨k,hk,rfl⟩:=List.mem_iff_getElem.1 hb
 by_cases e:i=k
 ·subst e; rw [Nat.and_self]; exact ha
 ·by_cases hlt:k<i
  ·exact (h i k _ _ hlt (.inl hi) (List.getElem?_eq_getElem hi) (List.getElem?_eq_getElem hk)).resolve_left hne
  ·rw [Nat.and_comm] at hne ⊢
   exact (h k i _ _ (by omega) (.inl hk) (List.getElem?_eq_getElem hk) (List.getElem?_eq_getElem hi)).resolve_left hne
theorem qyc {c0:List Nat} (hl:c0.length≤12) (hn0:c0.Nodup) (hc:∀ a∈c0,a<4096∧a≠0) (hn:5000≤n):∃ ws,qbl n (c0.map bt)=some (ws.map bt)∧FI c0 ws∧(ws.length≤256→Clsd ws):=by
 obtain ⟨r,h1,ws,rfl,h2,h3⟩:=z48 (c0:=c0) hn n 0 c0 (by omega) (by omega) ⟨⟨[],by simp⟩,hn0,fun a ha=>⟨(hc a ha).1,(hc a ha).2,a,ha,Nat.and_self a⟩,by omega⟩ (by omega) (fun _ i' k' a b h1 h2=>by omega)
 rw [zV] at h1
 refine ⟨ws,?_,h2,fun h=>(h3 h).all⟩
 rw [qbl,ned (by rw [yA]; omega)]
 exact h1
theorem join_L {l:List Str} (hl:l.length≤12) (hs:∀ s∈l,s.length≤32) (hn:5000≤n):∃ s,q3s l n [] 0=some s:=by
 have:=qdw (l:=l) (by omega) (F:=fun m z s=>q3s l m s z) (fun i s=>s.length≤33*i) (Q:=fun _=>True)
  (fun m i x s hx hlt hd' hw hI ih=>by
   have hxl:=hs x (zX hx)
   simp only [q3s,hd',zC,q9l,q07,hx,q02,hw]
   cases decide ((i:Int) > 0) with
   | true =>
    simp only [zC]
    rw [ned (by show s.length+1≤_; omega),ned (by rw [zU]; show s.length+1+x.length≤_; omega)]
    exact ih _ (by rw [zU,zU]; show s.length+1+x.length≤_; omega)
   | false =>
    simp only [zD]
    rw [ned (by omega)]
    exact ih _ (by rw [zU]; omega))
  (fun m s hd' hI=>by
   simp only [q3s,hd',zD,qcl]
   exact ⟨s,rfl,trivial⟩) n 0 [] (by omega) (by omega) (by simp)
 obtain ⟨s,h1,_⟩:=this
 exact ⟨s,h1⟩
theorem qvb (h:DOK d) {all:List Str} (hal:all.length≤12) {c0:List Nat} (hc0:c0.length=all.length) (hc:∀ a∈c0,a<4096) {w:Nat} (hw:w<4096) (hn:5000≤n) :
  ∃ s,qef n d all (c0.map bt) (bt w)=some s∧∀ (i:Nat) (t:Str),c0.Nodup→c0[i]? = some w→all[i]? = some t→s=t:=by
 have:=qdw (l:=all) (by omega) (F:=fun m z s=>q4i d all (c0.map bt) (bt w) n m z s) (fun i (s:List Str)=>s.length≤i∧∀ j,j<i→c0[j]? ≠ some w) (Q:=fun s=>∀ (i:Nat) (t:Str),c0.Nodup→c0[i]? = some w→all[i]? = some t→s=t)
  (fun m i x s hx hlt hd' hw' hI ih=>by
   obtain ⟨a,ha,ham⟩:=q1j (l:=c0) (show i<c0.length by omega)
   have ga:(c0.map bt)[i]? = some (bt a):=by rw [List.getElem?_map,ha]; rfl
   simp only [q4i,hd',zC,q07,ga,hx,q02,qlp (hc a ham) hw (show 5≤n by omega),z4g (w:=w) (n:=n) hw (show i<64 by omega),q9m,hw']
   by_cases e:a=w
   ·subst e
    simp only [yC,zC]
    refine ⟨x,rfl,fun k t hnd hk ht=>?_⟩
    obtain ⟨p1,p2⟩:=zG.1 ha
    obtain ⟨q1,q2⟩:=zG.1 hk
    have:i=k:=(List.getElem_inj hnd).1 (p2.trans q2.symm)
    subst this
    rw [hx] at ht
    exact Option.some.inj ht
   ·have hno:∀ j,j<i+1→c0[j]? ≠ some w:=fun j hj=>by
     by_cases e2:j=i
     ·subst e2; rw [ha]; exact fun h=>e (Option.some.inj h)
     ·exact hI.2 j (by omega)
    simp only [e,yB,zD]
    cases w.testBit i with
    | true =>
     simp only [zC]
     rw [ned (by have:=hI.1; omega)]
     exact ih (s++[x]) ⟨by have:=hI.1; simp; omega,hno⟩
    | false=>exact ih s ⟨by have:=hI.1; omega,hno⟩)
  (fun m s hd' hI=>by
   obtain ⟨out,m1,m2,m3⟩:=qop h (l:=s) (by have:=hI.1; omega) hn
   obtain ⟨r,j1⟩:=join_L (l:=out) (by have:=hI.1; omega) (fun t ht=>by
    obtain ⟨x,hx,e⟩:=(m3 t ht).2
    have:=(h.nam.len x hx).2
    rw [e] at this
    exact this) hn
   simp only [q4i,hd',zD,qck,m1,q02]
   refine ⟨r,j1,fun i t _ hi _=>absurd hi (hI.2 i ?_)⟩
   have:=(zG.1 hi).1
   omega) n 0 [] (by omega) (by omega) ⟨by simp,fun j hj=>by omega⟩
 rw [zV] at this
 exact this
def cw:List Int→Nat
 | [z]=>z.toNat
 | _=>0
theorem z1x (w:Nat):cw (bt w)=w:=by
 by_cases h:w=0
 ·subst h; rfl
 ·rw [qnt h]; simp [cw]
def cnt (x:q0l):Nat:=(bl (cw x.Code)).length
theorem qxp {x y:q0l} {a b:Nat} (hx:x.Code=bt a) (hy:y.Code=bt b) (ha:a<4096) (hb:b<4096) (hn:5000≤n):∃ r,qbk n x y=some r∧(r=true→cnt y≤cnt x)∧(r=false→cnt x≤cnt y):=by
 have e1:cnt x=(bl a).length:=by rw [cnt,hx,z1x]
 have e2:cnt y=(bl b).length:=by rw [cnt,hy,z1x]
 rw [e1,e2]
 simp only [qbk,hx,hy,qul ha (show 100≤n by omega),qul hb (show 100≤n by omega),q02]
 by_cases h1:((bl a).length:Int) > ((bl b).length:Int)
 ·simp only [h1,yC,zC,q02]
  exact ⟨true,rfl,fun _=>by omega,fun h=>by cases h⟩
 ·simp only [h1,yB,zD]
  by_cases h2:((bl a).length:Int)=((bl b).length:Int)
  ·have:(((bl a).length:Int) == ((bl b).length:Int))=true:=by simpa using h2
   simp only [this,zC,q02]
   exact ⟨_,rfl,fun _=>by omega,fun _=>by omega⟩
  ·have:(((bl a).length:Int) == ((bl b).length:Int))=false:=by simpa using h2
   simp only [this,zD,q02]
   exact ⟨false,rfl,fun h=>(by cases h),fun _=>by omega⟩
structure CI (nm:Nat→Option Str) (ws:List Nat) (l:List q0l):Prop where
 perm:(l.map q0l.Code).Perm (ws.map bt)
 nam:∀ w∈ws,∃ x∈l,x.Code=bt w∧nm w=some x.Name
 srt:l.Pairwise fun a b=>cnt b≤cnt a
variable {nm:Nat→Option Str}
variable {l:List q0l}
theorem CI.len (h:CI nm ws l):l.length=ws.length:=by
 have:=h.perm.length_eq
 rwa [yA,yA] at this
theorem CI.cod (h:CI nm ws l):∀ x∈l,∃ w∈ws,x.Code=bt w:=fun x hx=>by
 have:=h.perm.mem_iff.1 (List.mem_map_of_mem (f:=q0l.Code) hx)
 obtain ⟨w,hw,e⟩:=List.mem_map.1 this
 exact ⟨w,hw,e.symm⟩
theorem ins_L (h:CI nm ws l) (hl:l.length≤300) (hws:∀ w∈ws,w<4096) {w:Nat} (hw:w<4096) {s:Str} (hs:nm w=some s) (hn:5000≤n) {z27:Int} {rc:Int→List q0l→Option (List q0l×Int)} {Q:List q0l×Int→Prop}
  (hrc:∀ l',CI nm (ws++[w]) l'→∃ r,rc (IntKind.i64.wrap (z27+1)) l'=some r∧Q r) :
  ∀ (m z:Nat),z<m→z≤l.length→(∀ y∈l.drop z,cnt y≤cnt ⟨s,bt w⟩)→∃ r,q6v n z27 l rc s (bt w) m z=some r∧Q r:=by
 have fin:∀ z,z≤l.length→(∀ y∈l.drop z,cnt y≤cnt ⟨s,bt w⟩)→(∀ y∈l.take z,cnt ⟨s,bt w⟩≤cnt y)→∃ r,q8b z27 l rc s (bt w) z=some r∧Q r:=by
  intro z hz hlo hhi
  have t1:((l.drop 0).take ((z:Int)).toNat)=l.take z:=by rw [List.drop_zero,zZ]
  have t2:((l.drop (0+((z:Int)).toNat)).take (l.length - ((z:Int)).toNat))=l.drop z:=by
   rw [zZ,Nat.zero_add]
   exact zW (by simp)
  have tl:(l.take z).length=z:=by simp; omega
  have dl:(l.drop z).length=l.length - z:=by simp
  simp only [q8b,t1,t2]
  rw [ned (by omega),ned (by rw [zZ]; omega),ned (by rw [tl]; omega),ned (by rw [tl]; omega),ned (by omega),ned (by rw [zZ]; omega),ned (by rw [zU,tl,dl]; simp; omega)]
  refine hrc _ ⟨?_,fun v hv=>?_,?_⟩
  ·have hp:((l.take z++[q0l.mk s (bt w)])++l.drop z).Perm (l++[q0l.mk s (bt w)]):=by
    rw [zT]
    refine (List.perm_append_comm_assoc _ _ _).trans ?_
    rw [List.take_append_drop]
    exact List.perm_append_comm
   refine (hp.map q0l.Code).trans ?_
   rw [List.map_append,List.map_append]
   exact h.perm.append_right _
  ·rcases yD.1 hv with hv | hv
   ·obtain ⟨x,hx,e1,e2⟩:=h.nam v hv
    refine ⟨x,?_,e1,e2⟩
    rw [← List.take_append_drop z l] at hx
    rcases yD.1 hx with hx | hx
    ·exact List.mem_append_left _ (List.mem_append_left _ hx)
    ·exact List.mem_append_right _ hx
   ·simp at hv; subst hv
    exact ⟨⟨s,bt v⟩,by simp,rfl,hs⟩
  ·have h1:=h.srt
   rw [← List.take_append_drop z l,List.pairwise_append] at h1
   rw [List.pairwise_append,List.pairwise_append]
   refine ⟨⟨h1.1,by simp,fun a ha b hb=>by simp at hb; subst hb; exact hhi a ha⟩,h1.2.1,fun a ha b hb=>?_⟩
   rcases yD.1 ha with ha | ha
   ·exact h1.2.2 a ha b hb
   ·simp at ha; subst ha; exact hlo b hb
 intro m
 induction m with
 | zero=>intro z hm; omega
 | succ m ih =>
  intro z hm hz hlo
  unfold q6v
  by_cases h0:z=0
  ·subst h0
   simp only [zV,Int.lt_irrefl,yB,zD,q02,show ((0:Int) > 0)=False by simp]
   have:=fin 0 (by omega) hlo (by simp)
   rwa [zV] at this
  ·have e0:decide ((z:Int) > 0)=true:=by simp; omega
   have e1:IntKind.i64.wrap ((z:Int) - 1)=((z - 1:Nat):Int):=wrn (by omega) (by omega)
   obtain ⟨y,hy,hym⟩:=q1j (l:=l) (show z - 1<l.length by omega)
   obtain ⟨v,hv,ev⟩:=h.cod y hym
   obtain ⟨r,r1,r2,r3⟩:=qxp (x:=⟨s,bt w⟩) (y:=y) rfl ev hw (hws v hv) hn
   simp only [e0,zC,e1,q07,hy,q02,r1]
   cases r with
   | true =>
    simp only [zC]
    refine ih (z - 1) (by omega) (by omega) fun x hx=>?_
    rw [drop_cons' hy,show z - 1+1=z by omega] at hx
    rcases zI.1 hx with rfl | hx
    ·exact r2 rfl
    ·exact hlo x hx
   | false =>
    simp only [zD]
    refine fin z hz hlo fun x hx=>?_
    have h1:=h.srt
    rw [← List.take_append_drop (z - 1) l,List.pairwise_append] at h1
    have:l.take z=l.take (z - 1)++[y]:=by rw [← q0r hy,show z - 1+1=z by omega]
    rw [this] at hx
    rcases yD.1 hx with hx | hx
    ·exact Nat.le_trans (r3 rfl) (h1.2.2 x hx y (by rw [drop_cons' hy]; simp))
    ·simp at hx; subst hx; exact r3 rfl
structure COK (d:List q01) (l:List q0l):Prop where
 ws:∃ (nm:Nat→Option Str) (c0 ws:List Nat),FI c0 ws∧Clsd ws∧CI nm ws l∧ws.length≤256∧0<ws.length
 dcl:∀ s,Dcl d s→∃ x∈l,x.Name=s
theorem COK.len {d:List q01} {l:List q0l} (h:COK d l):l.length≤256∧0<l.length:=by
 obtain ⟨nm,c0,ws,h1,h2,h3,h4,h5⟩:=h.ws
 have:=h3.len
 omega
theorem COK.cod {d:List q01} {l:List q0l} (h:COK d l):∀ x∈l,∃ w,x.Code=bt w∧w<4096∧w≠0:=fun x hx=>by
 obtain ⟨nm,c0,ws,h1,h2,h3,h4,h5⟩:=h.ws
 obtain ⟨w,hw,e⟩:=h3.cod x hx
 exact ⟨w,e,(h1.ok w hw).1,(h1.ok w hw).2.1⟩
theorem z1t (hd:d.length≤12) (hn:5000≤n):∃ l e,q6i n d=some (l,e)∧(e=0→DOK d∧COK d l):=by
 obtain ⟨e,c1,c2⟩:=qy0 hd hn
 simp only [q6i,c1,q02]
 by_cases he:e=0
 ·subst he
  have h:=c2 rfl
  obtain ⟨all,n1,n2⟩:=names_ok (d:=d) (by omega) hn
  have hal:all.length≤12:=by have:=n2.len; simp at this; omega
  have hall:∀ s,s∈all↔Dcl d s:=fun s=>by rw [n2.mem]; simp [Dcl,List.mem_map]
  simp only [bne_self_eq_false,zD,n1,q02]
  have:=qdw (l:=all) (by omega) (F:=fun m z (s:List Nat)=>q5s d n all m z (s.map bt)) (fun i s=>s.length=i∧(∀ w∈s,w<4096)∧∀ (j w:Nat) (t:Str),s[j]? = some w→all[j]? = some t→∀ i:Nat,w.testBit i=true↔∃ u,all[i]? = some u∧Upw d u t) (Q:=fun r=>r.2=0→DOK d∧COK d r.1)
   (fun m i x s hx hlt hd' hw hI ih=>by
    obtain ⟨i1,i2,i3⟩:=hI
    obtain ⟨w,w1,w2,w3⟩:=z5n h hal ((hall x).1 (zX hx)) (fun y hy=>(hall y).1 hy) hn
    simp only [q5s,hd',zC,q07,hx,q02,w1,hw,yA]
    rw [ned (by omega)]
    have:=ih (s++[w]) ⟨by simp; omega,fun v hv=>by
     rcases yD.1 hv with hv | hv
     ·exact i2 v hv
     ·simp at hv; subst hv; exact w2,fun j v t hj ht=>by
     by_cases e:j<s.length
     ·rw [List.getElem?_append_left e] at hj; exact i3 j v t hj ht
     ·have:j=i:=by have:=(zG.1 hj).1; simp at this; omega
      subst this
      rw [List.getElem?_append_right (by omega),i1,Nat.sub_self] at hj
      simp at hj
      subst hj
      rw [hx] at ht
      cases ht
      exact w3⟩
    rw [List.map_append] at this
    exact this)
   (fun m c0 hd' hI=>by
    obtain ⟨i1,i2,i3⟩:=hI
    have hself:∀ (j w:Nat),c0[j]? = some w→w.testBit j=true:=fun j w hj=>by
     obtain ⟨t,ht,_⟩:=q1j (l:=all) (show j<all.length by have:=(zG.1 hj).1; omega)
     exact (i3 j w t hj ht j).2 ⟨t,ht,.refl⟩
    have hdis:c0.Nodup:=by
     rw [List.Nodup,List.pairwise_iff_getElem]
     intro a b ha hb hab e
     obtain ⟨s,hs,hsm⟩:=q1j (l:=all) (show a<all.length by omega)
     obtain ⟨t,ht,htm⟩:=q1j (l:=all) (show b<all.length by omega)
     have ga:=List.getElem?_eq_getElem ha
     have gb:=List.getElem?_eq_getElem hb
     have h1:=hself a _ ga
     have h2:=hself b _ gb
     rw [e] at h1
     rw [← e] at h2
     obtain ⟨u,hu,hu2⟩:=(i3 b _ t gb ht a).1 h1
     obtain ⟨v,hv,hv2⟩:=(i3 a _ s ga hs b).1 h2
     rw [hs] at hu; cases hu
     rw [ht] at hv; cases hv
     have:=z6x h ((hall s).1 hsm) ((hall t).1 htm) hu2 hv2
     subst this
     obtain ⟨p1,p2⟩:=zG.1 hs
     obtain ⟨q1,q2⟩:=zG.1 ht
     have:=(List.getElem_inj n2.asc.nodup).1 (p2.trans q2.symm)
     omega
    have hok0:∀ a∈c0,a<4096∧a≠0:=fun a ha=>⟨i2 a ha,fun e=>by
     obtain ⟨j,hj,e2⟩:=List.mem_iff_getElem.1 ha
     have:=hself j a (by rw [List.getElem?_eq_getElem hj,e2])
     rw [e] at this
     simp at this⟩
    obtain ⟨ws,f1,f2,f3⟩:=qyc (c0:=c0) (by omega) hdis hok0 hn
    simp only [q5s,hd',zD,qb2,f1,q02,yA]
    by_cases h256:(ws.length:Int) > 256
    ·simp only [h256,yC,zC]; exact ⟨_,rfl,fun h=>by cases h⟩
    ·simp only [h256,yB,zD]
     have hlen:ws.length≤256:=by omega
     have:=qdw (l:=ws) (by omega) (F:=fun m z (s:List q0l)=>q3r d n all (c0.map bt) (ws.map bt) m z s) (fun i s=>CI (fun w=>qef n d all (c0.map bt) (bt w)) (ws.take i) s) (Q:=fun r=>r.2=0→DOK d∧COK d r.1)
      (fun m' i w s hx hlt hd2 hw2 hI2 ih2=>by
       have hwm:=zX hx
       have okw:=f2.ok w hwm
       obtain ⟨t,t1,t2⟩:=qvb h hal (c0:=c0) i1 i2 okw.1 hn
       have hx2:(ws.map bt)[i]? = some (bt w):=by rw [List.getElem?_map,hx]; rfl
       have hsl:=hI2.len
       rw [List.length_take] at hsl
       simp only [q3r,yA,hd2,zC,q07,hx2,q02,t1]
       refine ins_L (w:=w) (s:=t) hI2 (by omega) (fun v hv=>(f2.ok v (List.mem_of_mem_take hv)).1) okw.1 t1 hn (fun l' hl'=>?_) n s.length (by omega) (by omega) (by simp)
       rw [hw2]
       rw [← q0r hx] at hl'
       exact ih2 l' hl')
      (fun m' s hd2 hI2=>by
       rw [zW (zF _)] at hI2
       simp only [q3r,yA,hd2,zD,qb3]
       have hpos:0<ws.length:=by
        have hone:0<d.length:=by
         have:=h.one
         cases d with
         | nil=>simp at this
         | cons x d=>simp
        obtain ⟨x,hx,hxm⟩:=q1j (l:=d) hone
        have:=(hall x.Name).2 ⟨x,hxm,rfl⟩
        have:=List.length_pos_of_mem this
        obtain ⟨t,ht⟩:=f2.pre
        rw [ht,zU]
        omega
       refine ⟨_,rfl,fun _=>⟨h,⟨_,c0,ws,f2,f3 hlen,hI2,hlen,hpos⟩,fun t ht=>?_⟩⟩
       obtain ⟨j,hj,e⟩:=List.mem_iff_getElem.1 ((hall t).2 ht)
       have hj':j<c0.length:=by omega
       obtain ⟨p,hp⟩:=f2.pre
       have hwm:c0[j]∈ws:=by rw [hp]; exact List.mem_append_left _ (List.getElem_mem hj')
       obtain ⟨x,hx,_,e2⟩:=hI2.nam _ hwm
       refine ⟨x,hx,?_⟩
       obtain ⟨s2,t1,t2⟩:=qvb h hal (c0:=c0) i1 i2 (f2.ok _ hwm).1 hn
       rw [t1] at e2
       rw [← Option.some.inj e2]
       exact t2 j t hdis (List.getElem?_eq_getElem hj') (by rw [List.getElem?_eq_getElem hj,e])) n 0 [] (by omega) (by omega) ⟨by simp,by simp,List.Pairwise.nil⟩
     rw [zV] at this
     exact this) n 0 [] (by omega) (by omega) ⟨rfl,by simp,fun j w t hj=>by simp at hj⟩
  rw [zV] at this
  obtain ⟨r,h1,h2⟩:=this
  exact ⟨r.1,r.2,h1,h2⟩
 ·have:(e != 0)=true:=by simpa using he
  simp only [this,zC]
  exact ⟨[],e,rfl,fun h=>absurd h he⟩
variable {n:Nat}
theorem qw6 {x:q01} (hx:x.Feats.length≤256) (s:Str) (hn:5000≤n):∃ r,qd9 n x s=some r∧(r.2=true→∃ f∈x.Feats,f.Feat=s∧f.Value=r.1):=by
 have:=qdw (l:=x.Feats) (by omega) (F:=fun m z (_:Unit)=>q5w x s m z) (fun _ _=>True) (Q:=fun r=>r.2=true→∃ f∈x.Feats,f.Feat=s∧f.Value=r.1)
  (fun m i f _ hf hlt hd' hw _ ih=>by
   simp only [q5w,hd',zC,q07,hf,q02,beqD,hw]
   by_cases e:f.Feat=s
   ·simp only [e,yC,zC]
    exact ⟨_,rfl,fun _=>⟨f,zX hf,e,rfl⟩⟩
   ·simp only [e,yB,zD]
    exact ih () trivial)
  (fun m _ hd' _=>by simp only [q5w,hd',zD,qba]; exact ⟨_,rfl,fun h=>by cases h⟩) n 0 () (by omega) (by omega) trivial
 rw [zV] at this
 exact this
variable {l:List q0l}
theorem qn0 (hl:l.length≤256) (s:Str) (hn:5000≤n):∃ r,q94 n l s=some r∧((∃ x∈l,x.Name=s)→∃ j:Nat,r=(j:Int)∧j<l.length):=by
 have:=qdw (l:=l) (by omega) (F:=fun m z (_:Unit)=>q4y l s m z) (fun i _=>∀ x∈l.take i,x.Name≠s) (Q:=fun r=>(∃ x∈l,x.Name=s)→∃ j:Nat,r=(j:Int)∧j<l.length)
  (fun m i x _ hx hlt hd' hw hI ih=>by
   simp only [q4y,hd',zC,q07,hx,q02,beqD,hw]
   by_cases e:x.Name=s
   ·simp only [e,yC,zC]
    exact ⟨_,rfl,fun _=>⟨i,rfl,hlt⟩⟩
   ·simp only [e,yB,zD]
    refine ih () fun y hy=>?_
    rw [q0r hx] at hy
    rcases yD.1 hy with hy | hy
    ·exact hI y hy
    ·simp at hy; subst hy; exact e)
  (fun m _ hd' hI=>by
   rw [zW (zF _)] at hI
   simp only [q4y,hd',zD,q9p]
   exact ⟨_,rfl,fun ⟨x,hx,e⟩=>absurd e (hI x hx)⟩) n 0 () (by omega) (by omega) (by simp)
 rw [zV] at this
 exact this
variable {d:List q01}
theorem z2b (hd:d.length≤12) (hf:∀ x∈d,x.Feats.length≤256) (hn:5000≤n):∃ f,q8w n d=some f∧AscS f∧f.length≤3072∧∀ s∈f,∃ x∈d,∃ y∈x.Feats,y.Feat=s:=by
 have:=qdw (l:=d) (by omega) (F:=fun m z s=>q37 d n m s z) (fun i s=>AscS s∧s.length≤256*i∧∀ t∈s,∃ x∈d,∃ y∈x.Feats,y.Feat=t) (Q:=fun f=>AscS f∧f.length≤3072∧∀ s∈f,∃ x∈d,∃ y∈x.Feats,y.Feat=s)
  (fun m i x s hx hlt hd' hw hI ih=>by
   obtain ⟨i1,i2,i3⟩:=hI
   have hxm:=zX hx
   have hxf:=hf x hxm
   simp only [q37,hd',zC]
   have:=qdw (l:=x.Feats) (by omega) (F:=fun m' z s'=>q5v d n i (q37 d n m) m' s' z) (fun k s'=>AscS s'∧s'.length≤s.length+k∧∀ t∈s',∃ x∈d,∃ y∈x.Feats,y.Feat=t) (Q:=fun f=>AscS f∧f.length≤3072∧∀ s∈f,∃ x∈d,∃ y∈x.Feats,y.Feat=s)
    (fun m' k y s' hy hlt2 hd2 hw2 hI2 ih2=>by
     obtain ⟨j1,j2,j3⟩:=hI2
     obtain ⟨o,h1,h2,h3,h4⟩:=qou (l:=s') (by omega) j1 y.Feat (show s'.length<n by omega)
     simp only [q5v,q07,hx,q02,hd2,zC,hy,h1,hw2]
     refine ih2 o ⟨h4,by omega,fun t ht=>?_⟩
     rcases (h2 t).1 ht with rfl | ht
     ·exact ⟨x,hxm,y,zX hy,rfl⟩
     ·exact j3 t ht)
    (fun m' s' hd2 hI2=>by
     obtain ⟨j1,j2,j3⟩:=hI2
     simp only [q5v,q07,hx,q02,hd2,zD,qb8,hw]
     exact ih s' ⟨j1,by omega,j3⟩) n 0 s (by omega) (by omega) ⟨i1,by omega,i3⟩
   rw [zV] at this
   exact this)
  (fun m s hd' hI=>by
   simp only [q37,hd',zD,qb7]
   exact ⟨s,rfl,hI.1,by have:=hI.2.1; omega,hI.2.2⟩) n 0 [] (by omega) (by omega) ⟨List.Pairwise.nil,by simp,by simp⟩
 rw [zV] at this
 exact this
theorem qwp (s:Str) (hn:40≤n):∃ r,q6g n s=some r:=by
 obtain ⟨r,h1,_⟩:=qvc s true hn
 exact ⟨r,by simp [q6g,h1,q02]⟩
def FeaI (d:List q01) (n:Nat) (x:q01):Prop:=∀ f∈x.Feats,q6g n f.Feat=some true∧Dcl d f.Value
theorem qmd (h:DOK d) (hn:5000≤n):∃ e,q5d n d=some e∧(e=0→∀ x∈d,FeaI d n x):=by
 have hd:=h.len
 obtain ⟨all,n1,n2⟩:=names_ok (d:=d) (by omega) hn
 have hal:all.length≤12:=by have:=n2.len; simp at this; omega
 have hall:∀ s,s∈all↔Dcl d s:=fun s=>by rw [n2.mem]; simp [Dcl,List.mem_map]
 have:=qdw (l:=d) (by omega) (F:=fun m z (_:Unit)=>q0p d n all m z) (fun i _=>∀ x∈d.take i,FeaI d n x) (Q:=fun e=>e=0→∀ x∈d,FeaI d n x)
  (fun m i x _ hx hlt hd' hw hI ih=>by
   have hxf:=(h.siz x (zX hx)).2
   simp only [q0p,hd',zC,q07,hx,q02]
   have:=qdw (l:=x.Feats) (by omega) (F:=fun m' z (_:Unit)=>q16 n all i (q0p d n all m) x m' z) (fun k _=>∀ f∈x.Feats.take k,q6g n f.Feat=some true∧Dcl d f.Value) (Q:=fun e=>e=0→∀ x∈d,FeaI d n x)
    (fun m' k f _ hf hlt2 hd2 hw2 hI2 ih2=>by
     obtain ⟨r,r1⟩:=qwp f.Feat (n:=n) (by omega)
     simp only [q16,hd2,zC,q07,hf,q02,r1]
     cases r with
     | false=>exact ⟨1,rfl,fun h=>by cases h⟩
     | true =>
      simp only [Bool.not_true,zD]
      have hk:((k:Int)≤(x.Feats.length:Int)):=by omega
      have key:∀ (m3 j:Nat),k - j<m3→j≤k→∃ e,q2w n all x k (q16 n all i (q0p d n all m) x m') m3 j=some e∧(e=0→∀ x∈d,FeaI d n x):=by
       intro m3
       induction m3 with
       | zero=>intro j hm; omega
       | succ m3 ih3 =>
        intro j hm hj
        unfold q2w
        by_cases hjk:j<k
        ·obtain ⟨g,hg,_⟩:=q1j (l:=x.Feats) (show j<x.Feats.length by omega)
         have e0:decide ((j:Int)<(k:Int))=true:=by simp; omega
         have e1:IntKind.i64.wrap ((j:Int)+1)=((j+1:Nat):Int):=wrn (by omega) (by omega)
         simp only [e0,zC,q07,hg,hf,q02,e1]
         cases q22 g.Feat f.Feat with
         | true=>exact ⟨4,rfl,fun h=>by cases h⟩
         | false=>exact ih3 (j+1) (by omega) (by omega)
        ·have e0:decide ((j:Int)<(k:Int))=false:=by simp; omega
         simp only [e0,zD,q5g,q07,hf,q02,qc6 (l:=all) (by omega) f.Value (n:=n) (by omega),hw2]
         by_cases hm2:f.Value∈all
         ·simp only [hm2,yC,Bool.not_true,zD]
          refine ih2 () fun y hy=>?_
          rw [q0r hf] at hy
          rcases yD.1 hy with hy | hy
          ·exact hI2 y hy
          ·simp at hy; subst hy; exact ⟨r1,(hall _).1 hm2⟩
         ·simp only [hm2,yB,Bool.not_false,zC]
          exact ⟨5,rfl,fun h=>by cases h⟩
      have:=key n 0 (by omega) (by omega)
      rw [zV] at this
      exact this)
    (fun m' _ hd2 hI2=>by
     rw [zW (zF _)] at hI2
     simp only [q16,hd2,zD,q5f,hw]
     refine ih () fun y hy=>?_
     rw [q0r hx] at hy
     rcases yD.1 hy with hy | hy
     ·exact hI y hy
     ·simp at hy; subst hy; exact hI2) n 0 () (by omega) (by omega) (by simp)
   rw [zV] at this
   exact this)
  (fun m _ hd' hI=>by
   rw [zW (zF _)] at hI
   simp only [q0p,hd',zD,q5e]
   exact ⟨0,rfl,fun _=>hI⟩) n 0 () (by omega) (by omega) (by simp)
 rw [zV] at this
 simp only [q5d,n1,q02]
 exact this
theorem quy (h:DOK d) (s:Str) (hn:5000≤n):∃ r,qd8 n d s=some r:=by
 have hd:=h.len
 have:=qdw (l:=d) (by omega) (F:=fun m z t=>q3t d s n m t z) (fun i t=>AscS t∧t.length≤i) (Q:=fun _=>True)
  (fun m i x t hx hlt hd' hw hI ih=>by
   obtain ⟨i1,i2⟩:=hI
   obtain ⟨r,r1,_⟩:=qw6 (h.siz x (zX hx)).2 s hn
   simp only [q3t,hd',zC,q07,hx,q02,r1,q8d,hw]
   cases r.2 with
   | true =>
    obtain ⟨o,h1,h2,h3,h4⟩:=qou (l:=t) (by omega) i1 x.Name (show t.length<n by omega)
    simp only [zC,h1,q02]
    exact ih o ⟨h4,by omega⟩
   | false=>exact ih t ⟨i1,by omega⟩)
  (fun m t hd' hI=>by
   obtain ⟨out,m1,m2,m3⟩:=qop h (l:=t) (by have:=hI.2; omega) hn
   simp only [q3t,hd',zD,qb9,m1,q02]
   by_cases e:(out.length:Int)=1
   ·obtain ⟨x,hx,_⟩:=q1j (l:=out) (show 0<out.length by omega)
    have h0:idxO out 0=some x:=by rw [← hx]; exact q07 0
    simp only [e,bne_self_eq_false,zD,h0,q02]
    exact ⟨_,rfl,trivial⟩
   ·have:((out.length:Int) != 1)=true:=by simpa using e
    simp only [this,zC]
    exact ⟨_,rfl,trivial⟩) n 0 [] (by omega) (by omega) ⟨List.Pairwise.nil,by simp⟩
 rw [zV] at this
 obtain ⟨r,h1,_⟩:=this
 exact ⟨r,h1⟩
theorem qfd (h:COK d l) {i j:Nat} (hi:i<l.length) (hj:j<l.length) (hn:5000≤n):∃ b,q4s n l i j=some b:=by
 obtain ⟨x,hx,hxm⟩:=q1j hi
 obtain ⟨y,hy,hym⟩:=q1j hj
 obtain ⟨a,a1,a2,_⟩:=h.cod x hxm
 obtain ⟨b,b1,b2,_⟩:=h.cod y hym
 simp only [q4s,q07,hx,hy,q02,a1,b1,qnk b2 a2 (show 5≤n by omega)]
 exact ⟨_,rfl⟩
theorem ql1 (h:DOK d) (hl:COK d l) (hv:∀ x∈d,∀ f∈x.Feats,Dcl d f.Value) {t:Nat} (ht:t<l.length) (s:Str) (hn:5000≤n):∃ w b,q69 n d l t s=some (bt w,b)∧w<4096:=by
 have hd:=h.len
 have hll:=hl.len
 obtain ⟨x0,hx0,hxm0⟩:=q1j (l:=l) hll.2
 obtain ⟨w0,a1,a2,_⟩:=hl.cod x0 hxm0
 have:=qdw (l:=d) (by omega) (F:=fun m z (s':Bool×Nat)=>q2j d l t s n m s'.1 (bt s'.2) z) (fun _ s'=>s'.2<4096) (Q:=fun r=>∃ w b,r=(bt w,b)∧w<4096)
  (fun m i x s' hx hlt hd' hw hI ih=>by
   have hxm:=zX hx
   obtain ⟨r,r1,r2⟩:=qw6 (h.siz x hxm).2 s hn
   simp only [q2j,hd',zC,q07,hx,q02,r1,hw]
   cases hr:r.2 with
   | false=>simp only [Bool.not_false,zC,q02]; exact ih s' hI
   | true =>
    obtain ⟨p,p1,p2⟩:=qn0 (l:=l) (by omega) x.Name hn
    obtain ⟨j,rfl,hj⟩:=p2 (hl.dcl _ ⟨x,hxm,rfl⟩)
    obtain ⟨b,b1⟩:=qfd hl hj ht hn
    simp only [Bool.not_true,zD,p1,q02,b1]
    cases b with
    | false=>simp only [Bool.not_false,zC]; exact ih s' hI
    | true =>
     obtain ⟨f,hf,_,e2⟩:=r2 hr
     obtain ⟨q,q1,q2⟩:=qn0 (l:=l) (by omega) r.1 hn
     obtain ⟨k,rfl,hk⟩:=q2 (hl.dcl _ (e2 ▸ hv x hxm f hf))
     obtain ⟨y,hy,hym⟩:=q1j hk
     obtain ⟨v,v1,v2,_⟩:=hl.cod y hym
     simp only [Bool.not_true,zD,q1,q02,q07,hy,v1,z3w hI v2 (show 5≤n by omega)]
     exact ih (true,s'.2 &&& v) (Nat.lt_of_le_of_lt Nat.and_le_left hI))
  (fun m s' hd' hI=>by
   simp only [q2j,hd',zD,q75]
   exact ⟨_,rfl,s'.2,s'.1,rfl,hI⟩) n 0 (false,w0) (by omega) (by omega) a2
 rw [zV] at this
 obtain ⟨r,h1,w,b,rfl,h2⟩:=this
 have h0:idxO l 0=some x0:=by rw [← hx0]; exact q07 0
 exact ⟨w,b,by simp only [q69,h0,q02,a1]; exact h1,h2⟩
structure z0w (d:List q01) (n:Nat) (l:List q0l) (f:List Str):Prop where
 dok:DOK d
 cod:q6i n d=some (l,0)
 cok:COK d l
 fea:q8w n d=some f
 asc:AscS f
 len:f.length≤64
 val:∀ x∈d,FeaI d n x
 mem:∀ s∈f,∃ x∈d,∃ y∈x.Feats,y.Feat=s
theorem qr2 (hd:d.length≤12) (hn:5000≤n):∃ e,q7j n d=some e∧(e=0→∃ l f,z0w d n l f):=by
 obtain ⟨l,e,c1,c2⟩:=z1t hd hn
 simp only [q7j,c1,q02]
 by_cases he:e=0
 ·subst he
  obtain ⟨h,hl⟩:=c2 rfl
  have hll:=hl.len
  obtain ⟨f,f1,f2,f3,f4⟩:=z2b hd (fun x hx=>(h.siz x hx).2) hn
  simp only [bne_self_eq_false,zD,f1,q02]
  by_cases h64:(f.length:Int) > 64
  ·simp only [h64,yC,zC]; exact ⟨7,rfl,fun h=>by cases h⟩
  ·obtain ⟨e2,d1,d2⟩:=qmd h hn
   simp only [h64,yB,zD,d1,q02]
   by_cases he2:e2=0
   ·subst he2
    have hv:=d2 rfl
    have hok:z0w d n l f:=⟨h,c1,hl,f1,f2,by omega,hv,f4⟩
    simp only [bne_self_eq_false,zD]
    have:=qdw (l:=f) (by omega) (F:=fun m z (_:Unit)=>q5t d n (l,0) f m z) (fun _ _=>True) (Q:=fun e=>e=0→∃ l f,z0w d n l f)
     (fun m i s _ hs hlt hd' hw _ ih=>by
      obtain ⟨r,r1⟩:=quy h s hn
      simp only [q5t,hd',zC,q07,hs,q02,r1,hw]
      cases r.2 with
      | false=>exact ⟨10,rfl,fun h=>by cases h⟩
      | true=>exact ih () trivial)
     (fun m _ hd' _=>by
      simp only [q5t,hd',zD,qb4]
      have:=qdw (l:=l) (by omega) (F:=fun m z (_:Unit)=>q36 d n (l,0) f m z) (fun _ _=>True) (Q:=fun e=>e=0→∃ l f,z0w d n l f)
       (fun m t _ _ _ hlt2 hd2 hw2 _ ih2=>by
        simp only [q36,hd2,zC]
        have:=qdw (l:=f) (by omega) (F:=fun m' z (_:Unit)=>q5u d n (l,0) f t (q36 d n (l,0) f m) m' z) (fun _ _=>True) (Q:=fun e=>e=0→∃ l f,z0w d n l f)
         (fun m' i s _ hs hlt3 hd3 hw3 _ ih3=>by
          obtain ⟨w,b,i1,_⟩:=ql1 h hl (fun x hx y hy=>(hv x hx y hy).2) hlt2 s hn
          simp only [q5u,hd3,zC,q07,hs,q02,i1,hw3]
          cases b with
          | false=>exact ih3 () trivial
          | true =>
           simp only [zC,q02]
           cases (((bt w).length:Int) == 0) with
           | true=>exact ⟨11,rfl,fun h=>by cases h⟩
           | false=>exact ih3 () trivial)
         (fun m' _ hd3 _=>by
          simp only [q5u,hd3,zD,qb6,hw2]
          exact ih2 () trivial) n 0 () (by omega) (by omega) trivial
        rw [zV] at this
        exact this)
       (fun m _ hd2 _=>by
        simp only [q36,hd2,zD,qb5]
        exact ⟨0,rfl,fun _=>⟨l,f,hok⟩⟩) n 0 () (by omega) (by omega) trivial
      rw [zV] at this
      exact this) n 0 () (by omega) (by omega) trivial
    rw [zV] at this
    exact this
   ·have:(e2 != 0)=true:=by simpa using he2
    simp only [this,zC]
    exact ⟨e2,rfl,fun h=>absurd h he2⟩
 ·have:(e != 0)=true:=by simpa using he
  simp only [this,zC]
  exact ⟨e,rfl,fun h=>absurd h he⟩
theorem z2d (hl:COK d l) {w:Nat} (hn:5000≤n):∃ r,qed n l (bt w)=some r:=by
 have hll:=hl.len
 have:=qdw (l:=l) (by omega) (F:=fun m z (_:Unit)=>q6j l n (bt w) m z) (fun _ _=>True) (Q:=fun _=>True)
  (fun m i x _ hx hlt hd' hw _ ih=>by
   obtain ⟨a,a1,_⟩:=hl.cod x (zX hx)
   simp only [q6j,hd',zC,q07,hx,q02,a1,qvw (a:=a) (b:=w) (n:=n) (by omega),hw]
   cases decide (a=w) with
   | true=>exact ⟨_,rfl,trivial⟩
   | false=>exact ih () trivial)
  (fun m _ hd' _=>by simp only [q6j,hd',zD,qci]; exact ⟨_,rfl,trivial⟩) n 0 () (by omega) (by omega) trivial
 rw [zV] at this
 obtain ⟨r,h1,_⟩:=this
 exact ⟨r,by simp only [qed,z6c (w:=w) (n:=n) (by omega),q02]; exact h1⟩
theorem z0s (hd:d.length≤12) (hn:5000≤n):∃ v e,q93 n d=some (v,e)∧(e=0→∃ l f,z0w d n l f∧v.length=l.length):=by
 obtain ⟨e,c1,c2⟩:=qr2 hd hn
 simp only [q93,c1,q02]
 by_cases he:e=0
 ·subst he
  obtain ⟨l,f,h⟩:=c2 rfl
  have hll:=h.cok.len
  have hfl:=h.len
  simp only [bne_self_eq_false,zD,h.cod,h.fea,q02]
  have:=qdw (l:=l) (by omega) (F:=fun m z s=>q27 d n (l,0) f m z s) (fun i s=>s.length=i) (Q:=fun r=>r.2=0→∃ l f,z0w d n l f∧r.1.length=l.length)
   (fun m t _ s _ hlt hd' hw hI ih=>by
    simp only [q27,hd',zC]
    have:=qdw (l:=f) (by omega) (F:=fun m' z s'=>q39 d n (l,0) f t s (q27 d n (l,0) f m) m' z s') (fun i s'=>s'.length≤i) (Q:=fun r=>r.2=0→∃ l f,z0w d n l f∧r.1.length=l.length)
     (fun m' i x s' hx hlt2 hd2 hw2 hI2 ih2=>by
      obtain ⟨w,b,i1,_⟩:=ql1 h.dok h.cok (fun x hx y hy=>(h.val x hx y hy).2) hlt x hn
      simp only [q39,hd2,zC,q07,hx,q02,i1,q7k,hw2]
      cases b with
      | true =>
       obtain ⟨r,r1⟩:=z2d h.cok (w:=w) hn
       simp only [zC,r1,q02]
       rw [ned (by omega)]
       exact ih2 _ (by simp; omega)
      | false=>exact ih2 s' (by omega))
     (fun m' s' hd2 hI2=>by
      simp only [q39,hd2,zD,q9o,hw]
      rw [ned (by omega)]
      exact ih _ (by simp; omega)) n 0 [] (by omega) (by omega) (by simp)
    rw [zV] at this
    exact this)
   (fun m s hd' hI=>by
    simp only [q27,hd',zD,q9n]
    exact ⟨_,rfl,fun _=>⟨l,f,h,hI⟩⟩) n 0 [] (by omega) (by omega) (by simp)
  rw [zV] at this
  obtain ⟨r,h1,h2⟩:=this
  exact ⟨r.1,r.2,h1,h2⟩
 ·have:(e != 0)=true:=by simpa using he
  simp only [this,zC]
  exact ⟨[],e,rfl,fun h=>absurd h he⟩
theorem qx7 (h:COK d l) {t:Nat} (ht:t<l.length) (hn:5000≤n):∃ r,qdr n l t=some r:=by
 have hll:=h.len
 have:=qdw (l:=l) (by omega) (F:=fun m z s=>q1m l t n m z s) (fun i s=>s.length≤i) (Q:=fun _=>True)
  (fun m k _ s _ hlt hd' hw hI ih=>by
   obtain ⟨b,b1⟩:=qfd h hlt ht hn
   simp only [q1m,hd',zC,b1,q02,hw]
   have go:∃ r,q3v l t n k s (q1m l t n m) n true 0=some r∧True:=by
    have:=qdw (l:=l) (by omega) (F:=fun m' z b=>q3v l t n k s (q1m l t n m) m' b z) (fun _ _=>True) (Q:=fun _=>True)
     (fun m' i _ b _ hlt2 hd2 hw2 _ ih2=>by
      obtain ⟨b1,g1⟩:=qfd h hlt hlt2 hn
      obtain ⟨b2,g2⟩:=qfd h hlt2 ht hn
      simp only [q3v,hd2,zC,hw2,g1,g2,q02]
      cases b with
      | false=>exact ih2 false trivial
      | true =>
       cases ((i:Int) == (t:Int)) with
       | true=>exact ih2 true trivial
       | false =>
        cases ((i:Int) == (k:Int)) with
        | true=>exact ih2 true trivial
        | false =>
         cases b1 with
         | false=>exact ih2 true trivial
         | true=>exact ih2 _ trivial)
     (fun m' b hd2 _=>by
      simp only [q3v,hd2,zD,q9j,q7f,hw]
      cases b with
      | true =>
       simp only [zC]
       rw [ned (by omega)]
       exact ih _ (by simp; omega)
      | false=>exact ih s (by omega)) n 0 true (by omega) (by omega) trivial
    rw [zV] at this
    exact this
   cases ((k:Int) == (t:Int)) with
   | true=>simp only [zC,q02]; exact ih s (by omega)
   | false =>
    simp only [zD,q02]
    cases b with
    | false=>simp only [Bool.not_false,zC]; exact ih s (by omega)
    | true=>simp only [Bool.not_true,zD]; exact go)
  (fun m s hd' hI=>by simp only [q1m,hd',zD,q9i]; exact ⟨_,rfl,trivial⟩) n 0 [] (by omega) (by omega) (by simp)
 rw [zV] at this
 obtain ⟨r,h1,_⟩:=this
 exact ⟨r,h1⟩
theorem qtf (hn:5000≤n) {f:List Str} (h:z0w d n l f) (hc:q7j n d=some 0):∃ r,q8c n d=some (r,0)∧r.map q0b.Name=f:=by
 have hll:=h.cok.len
 have hfl:=h.len
 have:=qdw (l:=f) (by omega) (F:=fun m z s=>q3k d n (l,0) f m z s) (fun i s=>s.map q0b.Name=f.take i) (Q:=fun r=>r.2=0∧r.1.map q0b.Name=f)
  (fun m i x s hx hlt hd' hw hI ih=>by
   obtain ⟨r,r1⟩:=quy h.dok x hn
   obtain ⟨q,q1,_⟩:=qn0 (l:=l) (by omega) r.1 hn
   have hsl:s.length=i:=by have:=congrArg List.length hI; simp at this; omega
   simp only [q3k,hd',zC,q07,hx,q02,r1,q1,hw]
   rw [ned (by omega)]
   exact ih _ (by rw [List.map_append,hI,q0r hx]; rfl))
  (fun m s hd' hI=>by
   rw [zW (zF _)] at hI
   simp only [q3k,hd',zD,q7r]
   exact ⟨_,rfl,rfl,hI⟩) n 0 [] (by omega) (by omega) (by simp)
 rw [zV] at this
 obtain ⟨r,h1,h2,h3⟩:=this
 refine ⟨r.1,?_,h3⟩
 simp only [q8c,hc,q02,bne_self_eq_false,zD,h.cod,h.fea,h1]
 rw [← h2]
structure HOK (d:List q01) (n:Nat) (h:q09):Prop where
 ex:∃ l f,z0w d n l f∧h.Types.map q1c.Code=l.map q0l.Code∧h.Feats.map q0b.Name=f
theorem qwk (hd:d.length≤12) (hn:5000≤n):∃ h e,q4j n d=some (h,e)∧(e=0→HOK d n h)∧(e≠0→h=⟨[],[]⟩):=by
 obtain ⟨v,e,v1,v2⟩:=z0s hd hn
 simp only [q4j,v1,q02]
 by_cases he:e=0
 ·subst he
  obtain ⟨l,f,h,hv⟩:=v2 rfl
  have hll:=h.cok.len
  have hc:q7j n d=some 0:=by
   obtain ⟨e,c1,c2⟩:=qr2 hd hn
   by_cases h0:e=0
   ·rw [c1,h0]
   ·have:(e != 0)=true:=by simpa using h0
    simp only [q93,c1,q02,this,zC,zA,zB] at v1
    exact absurd v1.2 h0
  obtain ⟨fs,g1,g2⟩:=qtf hn h hc
  simp only [bne_self_eq_false,zD,h.cod,q02]
  have:=qdw (l:=l) (by omega) (F:=fun m z s=>q4b d n (v,0) (l,0) m z s) (fun i s=>s.map q1c.Code=(l.take i).map q0l.Code) (Q:=fun r=>r.2=0∧HOK d n r.1)
   (fun m i x s hx hlt hd' hw hI ih=>by
    obtain ⟨r,r1⟩:=qx7 h.cok hlt hn
    obtain ⟨y,hy,_⟩:=q1j (l:=v) (show i<v.length by omega)
    have hsl:s.length=i:=by have:=congrArg List.length hI; simp at this; omega
    simp only [q4b,hd',zC,q07,hx,hy,q02,r1,hw]
    rw [ned (by omega)]
    exact ih _ (by rw [List.map_append,hI,q0r hx,List.map_append]; rfl))
   (fun m s hd' hI=>by
    rw [zW (zF _)] at hI
    simp only [q4b,hd',zD,q8p,g1,q02]
    exact ⟨_,rfl,rfl,⟨l,f,h,hI,g2⟩⟩) n 0 [] (by omega) (by omega) (by simp)
  rw [zV] at this
  obtain ⟨r,h1,h2,h3⟩:=this
  exact ⟨r.1,r.2,h1,fun _=>h3,fun h=>absurd h2 h⟩
 ·have:(e != 0)=true:=by simpa using he
  simp only [this,zC]
  exact ⟨_,e,rfl,fun h=>absurd h he,fun _=>rfl⟩
end Go.Proofs
end
section
namespace Go.Proofs
open Go Go.Rx Go.Vx
set_option maxRecDepth 10000
structure qt0 (h:q09) (ws:List Nat):Prop where
 cod:h.Types.map q1c.Code=ws.map bt
 ok:∀ w∈ws,w≠0∧w<4611686018427387904
 nod:ws.Nodup
 cls:Clsd ws
 len:ws.length≤1000
 pos:0<ws.length
 fl:h.Feats.length≤1000
variable {h:q09}
variable {ws:List Nat}
theorem qt0.tl (hh:qt0 h ws):h.Types.length=ws.length:=by have:=congrArg List.length hh.cod; simpa using this
theorem qt0.at {h:q09} {ws:List Nat} (hh:qt0 h ws) {i:Nat} {w:Nat} (hi:ws[i]? = some w):∃ t,h.Types[i]? = some t∧t.Code=bt w:=by
 have h1:(h.Types.map q1c.Code)[i]? = some (bt w):=by rw [hh.cod,List.getElem?_map,hi]; rfl
 rw [List.getElem?_map] at h1
 cases e:h.Types[i]? with
 | none=>rw [e] at h1; cases h1
 | some t=>rw [e] at h1; exact ⟨t,rfl,Option.some.inj h1⟩
variable {n:Nat}
theorem z1k (w:Nat) (hn:5≤n):qeo n [(w:Int)]=some (bt w):=by
 obtain ⟨k,rfl⟩:=Nat.exists_eq_add_of_le' hn
 have e0:IntKind.i64.wrap ((1:Int) - 1)=0:=wr (z:=0) (by omega) (by omega)
 have e1:idxO [(w:Int)] 0=some (w:Int):=rfl
 have c0:qmc [(w:Int)] 0 0=some []:=rfl
 have c1:qmc [(w:Int)] 0 1=some [(w:Int)]:=rfl
 have e2:decide ((1:Int) > 0)=true:=rfl
 have e3:decide ((0:Int) > 0)=false:=rfl
 show q5m [(w:Int)] (k+5) 1=_
 rw [q5m,e2,zC,e0,e1,q02,q02]
 by_cases hw:w=0
 ·have:((w:Int) == 0)=true:=by simp [hw]
  rw [this,zC,q5m,e3,zD,q02,zD,q85,c0,hw]; rfl
 ·have:((w:Int) == 0)=false:=by simp [hw]
  rw [this,zD,q85,c1,qnt hw]; rfl
variable {a:Nat}
variable {b:Nat}
theorem z5g (ha:a≠0∧a<4611686018427387904) (hb:b≠0∧b<4611686018427387904) (hn:5≤n):qif n (bt a) (bt b)=some (bt (a &&& b)):=by
 obtain ⟨k,rfl⟩:=Nat.exists_eq_add_of_le' hn
 have h1:=andN (a:=a) (b:=b) (by omega) (by omega)
 have h2:=z1k (a &&& b) (n:=k+5) (by omega)
 rw [qnt ha.1,qnt hb.1]
 have e:qif (k+5) [(a:Int)] [(b:Int)]=qcx [(a:Int)] [(b:Int)] (k+5) [qxk .u64 (a:Int) (b:Int)]:=rfl
 rw [e,h1,qcx,h2]
 rfl
theorem qxs (ha:a≠0∧a<4611686018427387904) (hb:b≠0∧b<4611686018427387904) (hn:5≤n):qa7 n (bt a) (bt b)=some (decide (a &&& b=a)):=by
 obtain ⟨k,rfl⟩:=Nat.exists_eq_add_of_le' hn
 obtain ⟨c,h1,h2⟩:=notN (a:=a) (b:=b) (by omega) (by omega)
 rw [qnt ha.1,qnt hb.1]
 have e:qa7 (k+5) [(a:Int)] [(b:Int)]=cond ((qfr .u64 (a:Int) (b:Int)) != 0) (some false) (some true):=rfl
 rw [e,h1]
 by_cases hc:c=0
 ·have:=h2.1 hc; simp [hc,this]
 ·have:¬ a &&& b=a:=fun q=>hc (h2.2 q)
  have h3:((c:Int) != 0)=true:=by simpa using hc
  simp [this,h3]
theorem beq_ok (ha:a≠0∧a<4611686018427387904) (hb:b≠0∧b<4611686018427387904) (hn:5≤n):qe3 n (bt a) (bt b)=some (decide (a=b)):=by
 rw [qe3,qxs ha hb hn,qxs hb ha hn]
 by_cases h:a &&& b=a
 ·by_cases h':b &&& a=b
  ·have:a=b:=by rw [← h,Nat.and_comm,h']
   simp [h,h',this,q02]
  ·have:a≠b:=fun e=>h' (by rw [← e,Nat.and_self])
   simp [h,h',this,q02]
 ·have:a≠b:=fun e=>h (by rw [← e,Nat.and_self])
  simp [h,this,q02]
theorem z4h {h:q09} {ws:List Nat} (hh:qt0 h ws) {c:Nat} (hc:c∈ws) {n:Nat} (hn:5≤n):∀ (m i:Nat),ws.length - i<m→i≤ws.length→(∀ (k:Nat),k<i→ws[k]? ≠ some c)→∃ k:Nat,q17 h.Types (bt c) (qa8 n) m (i:Int)=some (k:Int)∧ws[k]? = some c
 | 0,i,hm,_,_=>by omega
 | m+1,i,hm,hi,hno=>by
  have hl:=hh.tl
  have hln:=hh.len
  obtain ⟨q,hq⟩:=List.mem_iff_getElem?.1 hc
  have hq1:=(zG.1 hq).1
  have hlt:i<ws.length:=by
   rcases Nat.lt_or_ge q i with h1 | h1
   ·exact absurd hq (hno q h1)
   ·omega
  obtain ⟨w,hw,hwm⟩:=q1j hlt
  obtain ⟨t,ht,he⟩:=hh.at hw
  have h1:=beq_ok (hh.ok w hwm) (hh.ok c hc) hn
  simp only [q17,hl,dlt hlt,zC,q07,ht,q02,qa8,he,h1]
  by_cases e:w=c
  ·simp only [e,yC,zC]; exact ⟨i,rfl,by rw [hw,e]⟩
  ·simp only [e,yB,zD,wr1 hlt (show ws.length≤9223372036854775807 by omega)]
   exact z4h hh hc hn m (i+1) (by omega) (by omega) (fun k hk=>by
    by_cases e2:k=i
    ·subst e2; rw [hw]; intro q; exact e (Option.some.inj q)
    ·exact hno k (by omega))
theorem z67 (hh:qt0 h ws) {i j:Nat} (hi:ws[i]? = some a) (hj:ws[j]? = some b) (hn:2000≤n) :
  (a &&& b=0→q4v n h (i:Int) (j:Int)=some (0,false))∧(a &&& b≠0→∃ k:Nat,q4v n h (i:Int) (j:Int)=some ((k:Int),true)∧ws[k]? = some (a &&& b)):=by
 obtain ⟨t,ht,he⟩:=hh.at hi
 obtain ⟨t',ht',he'⟩:=hh.at hj
 have ham:=zX hi
 have hbm:=zX hj
 have h1:=z5g (hh.ok a ham) (hh.ok b hbm) (n:=n) (by omega)
 simp only [q4v,q07,ht,ht',q02,he,he',h1]
 constructor
 ·intro h0
  rw [h0]; rfl
 ·intro h0
  have h2:=hh.cls a ham b hbm h0
  obtain ⟨k,h3,h4⟩:=z4h hh h2 (n:=n) (by omega) n 0 (by have:=hh.len; omega) (by omega) (fun k hk=>by omega)
  rw [zV] at h3
  have e1:(((bt (a &&& b)).length:Int) == 0)=false:=by rw [qnt h0]; rfl
  have e2:decide ((k:Int)<0)=false:=by simp
  simp only [e1,zD,q32,h3,q02,e2]
  exact ⟨k,rfl,h4⟩
def cdw (ws:List Nat) (t:Int):Nat:=(ws[t.toNat]?).getD 0
theorem z3z {t:Int} (h:0≤t∧t<(ws.length:Int)):ws[t.toNat]? = some (cdw ws t):=by
 have:t.toNat<ws.length:=by omega
 rw [cdw,List.getElem?_eq_getElem this]; rfl
theorem meetI (hh:qt0 h ws) {s t:Int} (hs:0≤s∧s<(ws.length:Int)) (ht:0≤t∧t<(ws.length:Int)) (hn:2000≤n) :
  ∃ r,q4v n h s t=some r∧(r.2=false→cdw ws s &&& cdw ws t=0)∧(r.2=true→(0≤r.1∧r.1<(ws.length:Int))∧cdw ws r.1=cdw ws s &&& cdw ws t):=by
 obtain ⟨h1,h2⟩:=z67 hh (z3z hs) (z3z ht) hn
 rw [show ((s.toNat:Nat):Int)=s by omega,show ((t.toNat:Nat):Int)=t by omega] at h1 h2
 by_cases e:cdw ws s &&& cdw ws t=0
 ·exact ⟨_,h1 e,fun _=>e,fun q=>by cases q⟩
 ·obtain ⟨k,h3,h4⟩:=h2 e
  refine ⟨_,h3,(fun q=>by cases q),fun _=>⟨?_,?_⟩⟩
  ·have:=(zG.1 h4).1
   constructor
   ·exact Int.natCast_nonneg _
   ·show (k:Int)<_; omega
  ·show cdw ws (k:Int)=_
   rw [cdw,zZ,h4]; rfl
def celN (c:List q0d) (i:Nat):q0d:=(c[i]?).getD ⟨-1,0,[]⟩
def qhb (mt:Int→Int→Option Int):Nat→List (Int×Int)→List q0d→(Nat→Nat)→(Nat→Nat)→Bool×List q0d×(Nat→Nat)×(Nat→Nat)
 | 0,_,c,rep,d=>(true,c,rep,d)
 | _+1,[],c,rep,d=>(true,c,rep,d)
 | k+1,p::W,c,rep,d =>
  if rep p.1.toNat=rep p.2.toNat then qhb mt k W c rep d else
  match mt (celN c (rep p.1.toNat)).kind (celN c (rep p.2.toNat)).kind with
  | none=>(false,c,rep,d)
  | some t=>qhb mt k ((prs (celN c (rep p.1.toNat)).arcs (celN c (rep p.2.toNat)).arcs).reverse++W) (qxd c (rep p.1.toNat) (rep p.2.toNat) t (q8x (celN c (rep p.1.toNat)).arcs (celN c (rep p.2.toNat)).arcs)) (qny rep (rep p.1.toNat) (rep p.2.toNat)) (qwl rep d (rep p.2.toNat))
def mtO (n:Nat) (h:q09) (s t:Int):Option Int:=match q4v n h s t with
 | some (r,true)=>some r
 | _=>none
def z3p (N:Nat) (p:Int×Int):Prop:=(0≤p.1∧p.1<(N:Int))∧(0≤p.2∧p.2<(N:Int))
theorem qjt.celN {N D:Nat} {FB TB:Int} {cells:List q0d} {rep d:Nat→Nat} (h:qjt N D FB TB cells rep d) {i:Nat} (hi:i<N):cells[i]? = some (celN cells i):=by
 have h1:=h.len
 rw [Go.Proofs.celN,List.getElem?_eq_getElem (by omega)]; rfl
variable {N:Nat}
variable {FB:Int}
theorem prs_in {a b:List q0f} (ha:qbz N FB a) (hb:qbz N FB b):∀ p∈prs a b,z3p N p:=fun p hp=>by
 obtain ⟨x,hx,y,hy,_,rfl⟩:=z6h hp
 exact ⟨(ha.ok x hx).2.2,(hb.ok y hy).2.2⟩
structure Rnd (N D:Nat) (FB TB:Int) (W:List (Int×Int)) (c:List q0d) (rep d:Nat→Nat):Prop where
 hp:qjt N D FB TB c rep d
 wi:∀ p∈W,z3p N p
variable {D:Nat}
variable {TB:Int}
variable {W:List (Int×Int)}
variable {p:Int×Int}
variable {c:List q0d}
variable {rep:Nat→Nat}
variable {d:Nat→Nat}
theorem Rnd.skip (h:Rnd N D FB TB (p::W) c rep d):Rnd N D FB TB W c rep d:=⟨h.hp,fun q hq=>h.wi q (List.mem_cons_of_mem _ hq)⟩
structure Two (N:Nat) (FB TB:Int) (c:List q0d) (rep:Nat→Nat) (m n:Nat):Prop where
 hm:m<N
 hn:n<N
 em:rep m=m
 en:rep n=n
 cm:c[m]? = some (celN c m)
 cn:c[n]? = some (celN c n)
 am:qbz N FB (celN c m).arcs
 an:qbz N FB (celN c n).arcs
 km:0≤(celN c m).kind∧(celN c m).kind<TB
 kn:0≤(celN c n).kind∧(celN c n).kind<TB
theorem Rnd.two (h:Rnd N D FB TB (p::W) c rep d):Two N FB TB c rep (rep p.1.toNat) (rep p.2.toNat):=by
 obtain ⟨h1,h2⟩:=h.wi p (by simp)
 have l1:=h.hp.rok.lt p.1.toNat (by omega)
 have l2:=h.hp.rok.lt p.2.toNat (by omega)
 have c1:=h.hp.celN l1
 have c2:=h.hp.celN l2
 exact ⟨l1,l2,h.hp.rok.idem _ (by omega),h.hp.rok.idem _ (by omega),c1,c2,h.hp.ar _ _ c1,h.hp.ar _ _ c2,h.hp.kd _ _ c1,h.hp.kd _ _ c2⟩
theorem Rnd.next (h:Rnd N D FB TB (p::W) c rep d) (hne:rep p.1.toNat≠rep p.2.toNat) {t:Int} (ht:0≤t∧t<TB) :
  Rnd N (D+1) FB TB ((prs (celN c (rep p.1.toNat)).arcs (celN c (rep p.2.toNat)).arcs).reverse++W) (qxd c (rep p.1.toNat) (rep p.2.toNat) t (q8x (celN c (rep p.1.toNat)).arcs (celN c (rep p.2.toNat)).arcs)) (qny rep (rep p.1.toNat) (rep p.2.toNat)) (qwl rep d (rep p.2.toNat)):=by
 have T:=h.two
 have hM:=qe9 _ _ T.am.up T.an.up
 refine ⟨h.hp.mrg T.hm T.hn T.em T.en hne (hM.ok T.am T.an) ht,fun q hq=>?_⟩
 rcases yD.1 hq with hq | hq
 ·exact prs_in T.am T.an q (List.mem_reverse.1 hq)
 ·exact h.wi q (List.mem_cons_of_mem _ hq)
theorem Two.tot {N:Nat} {FB TB:Int} {c:List q0d} {rep:Nat→Nat} {m n:Nat} (T:Two N FB TB c rep m n) (hne:m≠n) (t:Int) (W:List (Int×Int)):((prs (celN c m).arcs (celN c n).arcs).reverse++W).length+tot (qxd c m n t (q8x (celN c m).arcs (celN c n).arcs))=W.length+tot c:=by
 have:=z6w T.cm T.cn hne t (qe9 _ _ T.am.up T.an.up)
 simp only [zU,List.length_reverse]
 omega
def stk (W:List (Int×Int)):List q20:=(W.map pk).reverse
theorem qw3 (p:Int×Int) (W:List (Int×Int)):stk (p::W)=stk W++[pk p]:=by simp [stk]
theorem z0m (W:List (Int×Int)) (l:List (Int×Int)):stk W++l.map pk=stk (l.reverse++W):=by simp [stk]
theorem qqj (W:List (Int×Int)):(stk W).length=W.length:=by simp [stk]
variable {α:Type}
theorem qzv (l:List α) (x:α) (hl:l.length≤1000000000):decide (((l++[x]).length:Int) > 0)=true∧IntKind.i64.wrap (((l++[x]).length:Int) - 1)=(l.length:Int)∧idxO (l++[x]) (l.length:Int)=some x∧(l++[x]).take l.length=l:=by
 refine ⟨by simp,?_,?_,by simp⟩
 ·simp only [zU,zO,zS]
  exact wrn (by omega) (by omega)
 ·rw [q07]; simp
theorem cut1 (x:α) (l:List α):qmc (x::l) 1 ((x::l).length:Int)=some l:=by
 rw [qmc,if_pos (by simp only [zO]; omega)]
 have:(((x::l).length:Int) - 1).toNat=l.length:=by simp only [zO]; omega
 simp [this]
theorem z2l (x:α) (l:List α):idxO (x::l) 0=some x:=by
 have:(0:Int)=((0:Nat):Int):=rfl
 rw [this,q07]; rfl
theorem qkb {p1 p2:Int} {P T:List Int} {A:List (List q0f)} {r:Int×Bool}:∀ (m:Nat) (x y both:List q0f) (W:List q20),x.length+y.length<m→UpA x→UpA y→both.length+x.length+y.length≤1000000→W.length+x.length≤1000000 →
  q0i p1 p2 P T A r m x y both W=q2g p1 p2 P T A r (both++q8x x y) (W++(prs x y).map pk)
 | 0,x,y,both,W,hm,_,_,_,_=>by omega
 | m+1,[],[],both,W,hm,hx,hy,hb,hw=>by
  have e:decide ((([]:List q0f).length:Int) > 0)=false:=rfl
  simp only [q0i,e,zD,q02,q8x,qzw,List.append_nil,List.map_nil]
 | m+1,x::a,[],both,W,hm,hx,hy,hb,hw=>by
  have e1:decide (((x::a).length:Int) > 0)=true:=by simp only [zO,decide_eq_true_eq]; omega
  have e2:((([]:List q0f).length:Int) == 0)=true:=rfl
  simp only [zO,zS] at hm hb hw
  have ih:=qkb (p1:=p1) (p2:=p2) (P:=P) (T:=T) (A:=A) (r:=r) m a [] (both++[x]) W (by simp only [zS]; omega) (List.pairwise_cons.1 hx).2 hy (by simp only [zU,zO,zS]; omega) (by omega)
  simp only [q0i,e1,e2,zC,q02,z2l,cut1,q1d]
  rw [needO,if_pos (by omega),ih]
  have e3:q8x (x::a) []=x::q8x a []:=by
   rw [q8x]
   ·cases a<;>rw [q8x]; intro h; cases h
   ·intro h; cases h
  rw [e3,qn4,qn4]; simp
 | m+1,[],y::b,both,W,hm,hx,hy,hb,hw=>by
  have e1:decide ((([]:List q0f).length:Int) > 0)=false:=rfl
  have e2:decide (((y::b).length:Int) > 0)=true:=by simp only [zO,decide_eq_true_eq]; omega
  have e3:(((y::b).length:Int) == 0)=false:=by simp only [zO,beq_eq_false_iff_ne]; omega
  have e4:((([]:List q0f).length:Int) == 0)=true:=rfl
  simp only [zO,zS] at hm hb hw
  have ih:=qkb (p1:=p1) (p2:=p2) (P:=P) (T:=T) (A:=A) (r:=r) m [] b (both++[y]) W (by simp only [zS]; omega) hx (List.pairwise_cons.1 hy).2 (by simp only [zU,zO,zS]; omega) (by simp only [zS]; omega)
  simp only [q0i,e1,e2,e3,e4,zC,zD,q02,z2l,cut1,q1s,q1d]
  rw [needO,if_pos (by omega),ih]
  simp [q8x,qzw]
 | m+1,x::a,y::b,both,W,hm,hx,hy,hb,hw=>by
  have e1:decide (((x::a).length:Int) > 0)=true:=by simp only [zO,decide_eq_true_eq]; omega
  have e3:(((y::b).length:Int) == 0)=false:=by simp only [zO,beq_eq_false_iff_ne]; omega
  have e5:(((x::a).length:Int) == 0)=false:=by simp only [zO,beq_eq_false_iff_ne]; omega
  simp only [zO] at hm hb hw
  have hx':=(List.pairwise_cons.1 hx).2
  have hy':=(List.pairwise_cons.1 hy).2
  simp only [q0i,e1,e3,e5,zC,zD,q02,z2l,cut1,q1s,q1d]
  rw [q8x]
  by_cases h1:x.Feat<y.Feat
  ·have ih:=qkb (p1:=p1) (p2:=p2) (P:=P) (T:=T) (A:=A) (r:=r) m a (y::b) (both++[x]) W (by simp only [zO]; omega) hx' hy (by simp only [zU,zO,zS]; omega) (by omega)
   simp only [h1,yC,zC,if_true]
   rw [needO,if_pos (by omega),ih,prs_lt hy h1]; simp
  ·by_cases h2:y.Feat<x.Feat
   ·have ih:=qkb (p1:=p1) (p2:=p2) (P:=P) (T:=T) (A:=A) (r:=r) m (x::a) b (both++[y]) W (by simp only [zO]; omega) hx hy' (by simp only [zU,zO,zS]; omega) (by simp only [zO]; omega)
    simp only [h1,h2,yC,yB,zC,zD,if_true,if_false]
    rw [needO,if_pos (by omega),ih,prs_gt hx h2]; simp
   ·have e:x.Feat=y.Feat:=by omega
    have ih:=qkb (p1:=p1) (p2:=p2) (P:=P) (T:=T) (A:=A) (r:=r) m a b (both++[x]) (W++[⟨x.To,y.To⟩]) (by omega) hx' hy' (by simp only [zU,zO,zS]; omega) (by simp only [zU,zO,zS]; omega)
    simp only [h1,h2,yB,zD,if_false]
    rw [needO,if_pos (by omega),needO,if_pos (by omega),ih,prs_eq hy e]; simp [pk]
theorem qzc {h:q09} {ws:List Nat} (hh:qt0 h ws) {s t:Int} (hs:0≤s∧s<(ws.length:Int)) (ht:0≤t∧t<(ws.length:Int)) {n:Nat} (hn:2000≤n) :
  (mtO n h s t=none∧(∃ r,q4v n h s t=some r∧r.2=false)∧cdw ws s &&& cdw ws t=0)∨(∃ r,mtO n h s t=some r∧q4v n h s t=some (r,true)∧(0≤r∧r<(ws.length:Int))∧cdw ws r=cdw ws s &&& cdw ws t):=by
 obtain ⟨⟨r,b⟩,h1,h2,h3⟩:=meetI hh hs ht hn
 cases b with
 | false=>exact .inl ⟨by rw [mtO,h1],⟨_,h1,rfl⟩,h2 rfl⟩
 | true=>exact .inr ⟨r,by rw [mtO,h1],h1,(h3 rfl).1,(h3 rfl).2⟩
theorem qu7 {mt:Int→Int→Option Int} {N:Nat} {FB TB:Int} (hmt:∀ s t r,(0≤s∧s<TB)→(0≤t∧t<TB)→mt s t=some r→0≤r∧r<TB):∀ (k:Nat) (W:List (Int×Int)) (c:List q0d) (rep d:Nat→Nat) (D:Nat),Rnd N D FB TB W c rep d→W.length+tot c<k →
  ∃ D',D'+tot (qhb mt k W c rep d).2.1≤D+W.length+tot c∧qjt N D' FB TB (qhb mt k W c rep d).2.1 (qhb mt k W c rep d).2.2.1 (qhb mt k W c rep d).2.2.2
 | 0,W,c,rep,d,D,h,hk=>by omega
 | k+1,[],c,rep,d,D,h,hk=>⟨D,by simp [qhb],h.hp⟩
 | k+1,p::W,c,rep,d,D,h,hk=>by
  simp only [zO] at hk ⊢
  unfold qhb
  by_cases e:rep p.1.toNat=rep p.2.toNat
  ·rw [if_pos e]
   obtain ⟨D',h1,h2⟩:=qu7 hmt k W c rep d D h.skip (by omega)
   exact ⟨D',by omega,h2⟩
  ·rw [if_neg e]
   have T:=h.two
   cases hm:mt (celN c (rep p.1.toNat)).kind (celN c (rep p.2.toNat)).kind with
   | none=>exact ⟨D,by simp,h.hp⟩
   | some t =>
    have ht:=hmt _ _ _ T.km T.kn hm
    have hT:=T.tot e t W
    obtain ⟨D',h1,h2⟩:=qu7 hmt k _ _ _ _ (D+1) (h.next e ht) (by omega)
    exact ⟨D',by simp only; omega,h2⟩
theorem quc {p7:List q08} (hp:p7.length≤1000000) {N:Nat}:∀ (m:Nat) (tl:List q08) (c:List q0d),tl.length<m→tl.length≤1000000→c.length=N→(∀ x∈tl,0≤x.atx∧x.atx<(N:Int))→q29 (p7.length:Int) m c (p7++tl)=some (bkL tl c,p7)
 | 0,tl,c,hm,_,_,_=>by omega
 | m+1,tl,c,hm,hl,hc,ht=>by
  unfold q29
  rcases List.eq_nil_or_concat tl with e | ⟨tl,x,e⟩
  ·subst e
   have:decide (((p7++[]).length:Int) > (p7.length:Int))=false:=by simp
   rw [this,zD,q5j,List.append_nil]; rfl
  ·rw [List.concat_eq_append] at e
   subst e
   rw [← zT]
   simp only [zU,zO,zS] at hm hl
   obtain ⟨h1,h2,h3,h4⟩:=qzv (p7++tl) x (by simp only [zU]; omega)
   have hx:=ht x (by simp)
   have h5:decide (((p7++tl++[x]).length:Int) > (p7.length:Int))=true:=by simp; omega
   obtain ⟨y,hy,_⟩:=q1j (l:=c) (show x.atx.toNat<c.length by omega)
   have h6:idxO c x.atx=some y:=by rw [show x.atx=((x.atx.toNat:Nat):Int) by omega,q07]; exact hy
   rw [h5,zC,h2,h3,q02,h6,q02,needO,if_pos (by simp only [zU,zO,zS]; omega),needO,if_pos (by simp only [zU,zO,zS,zZ]; omega),zZ,h4,Nat.zero_add,qp7]
   exact quc hp m tl _ (by omega) (by omega) (by simp [hc]) (fun z hz=>ht z (List.mem_append_left _ hz))
theorem bk_mrg {N:Nat} {FB TB:Int} {c:List q0d} {rep:Nat→Nat} {m n:Nat} (T:Two N FB TB c rep m n) (hne:m≠n) (t:Int) (o:List q0f) (tl:List q08):bkL ((tl++[⟨(m:Int),celN c m⟩])++[⟨(n:Int),celN c n⟩]) (qxd c m n t o)=bkL tl c:=by
 rw [qp7,qp7]
 have h1:(c.set m ⟨-1,t,o⟩)[n]? = some (celN c n):=by rw [List.getElem?_set_ne hne]; exact T.cn
 simp only [zZ,qxd]
 rw [qvy h1,qvy T.cm]
theorem qys {h:q09} {ws:List Nat} (hh:qt0 h ws) {N:Nat} {FB:Int} (hF:FB≤1000000000) {n:Nat} (hn:100000≤n) {p7:List q08} (hp7:p7.length≤100000) (p9:List q1e) (c0:List q0d):∀ (k:Nat) (W:List (Int×Int)) (c:List q0d) (rep d:Nat→Nat) (D:Nat) (tl:List q08) (t:Nat),
  Rnd N D FB ws.length W c rep d→W.length+tot c<k→D+W.length+tot c≤1000→(∀ x∈tl,0≤x.atx∧x.atx<(N:Int))→bkL tl c=c0→tl.length+2*(W.length+tot c)≤90000 →
  ((qhb (mtO n h) k W c rep d).1=true→∃ tl' t',q13 h.Types h.Feats p7 p9 n k (stk W) c (p7++tl) t=some (true,(qhb (mtO n h) k W c rep d).2.1,p7++tl',t')∧bkL tl' (qhb (mtO n h) k W c rep d).2.1=c0∧(∀ x∈tl',0≤x.atx∧x.atx<(N:Int))∧tl'.length+2*tot (qhb (mtO n h) k W c rep d).2.1≤tl.length+2*(W.length+tot c)) ∧
  ((qhb (mtO n h) k W c rep d).1=false→∃ t',q13 h.Types h.Feats p7 p9 n k (stk W) c (p7++tl) t=some (false,c0,p7,t'))
 | 0,W,c,rep,d,D,tl,t,hr,hk,_,_,_,_=>by omega
 | k+1,[],c,rep,d,D,tl,t,hr,hk,hD,hat,hbk,htl=>by
  have e:decide (((stk []).length:Int) > 0)=false:=rfl
  simp only [qhb,q13,e,zD,q56]
  exact ⟨fun _=>⟨tl,t,rfl,hbk,hat,by simp⟩,fun q=>by cases q⟩
 | k+1,p::W,c,rep,d,D,tl,t,hr,hk,hD,hat,hbk,htl=>by
  simp only [zO] at hk hD htl
  obtain ⟨hp1,hp2⟩:=hr.wi p (by simp)
  obtain ⟨h1,h2,h3,h4⟩:=qzv (stk W) (pk p) (by rw [qqj]; omega)
  have f1:=qph hr.hp (n:=n) (by omega) hp1 h.Types h.Feats (p7++tl) p9
  have f2:=qph hr.hp (n:=n) (by omega) hp2 h.Types h.Feats (p7++tl) p9
  have hlen:=qqj W
  rw [qw3]
  unfold q13
  simp only [h1,h2,h3,zC,q02,zZ,h4]
  rw [needO,if_pos (by simp only [zU,zO,zS]; omega),needO,if_pos (by simp only [zU,zO,zS]; omega)]
  simp only [pk,f1,f2,q02]
  unfold qhb
  by_cases e:rep p.1.toNat=rep p.2.toNat
  ·have e1:(rI rep p.1 == rI rep p.2)=true:=by simp [rI,e]
   simp only [e1,zC]
   rw [if_pos e]
   have:=qys hh hF hn hp7 p9 c0 k W c rep d D tl t hr.skip (by omega) (by omega) hat hbk (by omega)
   refine ⟨fun q=>?_,this.2⟩
   obtain ⟨tl',t',r1,r2,r3,r4⟩:=this.1 q
   exact ⟨tl',t',r1,r2,r3,by simp only [zO]; omega⟩
  ·have e1:(rI rep p.1 == rI rep p.2)=false:=by simp only [rI,beq_eq_false_iff_ne]; omega
   have T:=hr.two
   have i1:idxO c (rI rep p.1)=some (celN c (rep p.1.toNat)):=by rw [rI,q07]; exact T.cm
   have i2:idxO c (rI rep p.2)=some (celN c (rep p.2.toNat)):=by rw [rI,q07]; exact T.cn
   simp only [e1,zD,i1,i2,q02]
   rw [if_neg e]
   have hcl:=hr.hp.len
   rcases qzc hh T.km T.kn (n:=n) (by omega) with ⟨m1,⟨⟨q1,q2⟩,m2,m3⟩,_⟩ | ⟨r,m1,m2,m3,_⟩
   ·simp only at m3
    subst m3
    have hb:=quc (p7:=p7) (by omega) n tl c (by omega) (by omega) hcl hat
    have hm2:q4v n (q09.mk h.Types h.Feats) (celN c (rep p.1.toNat)).kind (celN c (rep p.2.toNat)).kind=some (q1,false):=m2
    simp only [m1,hm2,q02,Bool.not_false,zC,q44,hb,hbk]
    exact ⟨(fun q=>by cases q),fun _=>⟨t,rfl⟩⟩
   ·have hm2:q4v n (q09.mk h.Types h.Feats) (celN c (rep p.1.toNat)).kind (celN c (rep p.2.toNat)).kind=some (r,true):=m2
    have ta:=qi6 T.cm
    have tb:=qi6 T.cn
    obtain ⟨o,j1,j2⟩:=qpj T.am T.an hF (by omega) (by omega) (n:=n) (by omega) n 0 (celN c (rep p.1.toNat)).arcs (by omega) (by omega) (IsM.nilr T.am.up)
    rw [zV,List.take_zero,qn4,List.map_nil] at j1
    have j3:=j2.uniq (qe9 _ _ T.am.up T.an.up)
    have jc:q6r n (celN c (rep p.1.toNat)).arcs=some (celN c (rep p.1.toNat)).arcs:=by
     rw [q6r]
     cases hL:(celN c (rep p.1.toNat)).arcs with
     | nil=>first | rfl | (simp [bothL,hL])
     | cons x l=>rw [bothL]; simp only [zC,zD]; rw [hL] at ta; rw [needO,if_pos (by omega)]
    have jj:qbu n (celN c (rep p.1.toNat)).arcs (celN c (rep p.2.toNat)).arcs=some (o,(prs (celN c (rep p.1.toNat)).arcs (celN c (rep p.2.toNat)).arcs).map pk):=by
     rw [qbu,jc,q02,j1]
    have e2:(c.set (0+(rI rep p.1).toNat) (q0d.mk (-1) r o))[rep p.2.toNat]? = some (celN c (rep p.2.toNat)):=by
     rw [rI,zZ,Nat.zero_add,List.getElem?_set_ne e]; exact T.cn
    have i3:idxO (c.set (0+(rI rep p.1).toNat) (q0d.mk (-1) r o)) (rI rep p.2)=some (celN c (rep p.2.toNat)):=by
     rw [show rI rep p.2=((rep p.2.toNat:Nat):Int) from rfl,q07]; exact e2
    simp only [m1,hm2,q02,Bool.not_true,zD,jj,q7y,q7z,i1]
    rw [needO,if_pos (by simp only [zU]; omega)]
    simp only [q02,i3]
    rw [needO,if_pos (by simp only [zU,zO,zS]; omega)]
    have hpl:=qpu (celN c (rep p.1.toNat)).arcs (celN c (rep p.2.toNat)).arcs
    simp only [q02]
    rw [needO,if_pos (by simp only [yA]; omega)]
    have hT:=T.tot e r W
    have ih:=qys hh hF hn hp7 p9 c0 k _ _ _ _ (D+1) ((tl++[⟨rI rep p.1,celN c (rep p.1.toNat)⟩])++[⟨rI rep p.2,celN c (rep p.2.toNat)⟩]) (t+1+1) (hr.next e m3) (by omega) (by omega)
     (fun x hx=>by
      simp only [yD,zI,List.not_mem_nil,or_false] at hx
      rcases hx with (hx | hx) | hx
      ·exact hat x hx
      ·subst hx; exact hr.hp.rI hp1
      ·subst hx; exact hr.hp.rI hp2)
     ((bk_mrg T e r _ tl).trans hbk) (by simp only [zU,zO,zS]; simp only [zU] at hT; omega)
    have ea:p7++tl++[⟨rI rep p.1,celN c (rep p.1.toNat)⟩]++[⟨rI rep p.2,celN c (rep p.2.toNat)⟩]=p7++((tl++[⟨rI rep p.1,celN c (rep p.1.toNat)⟩])++[⟨rI rep p.2,celN c (rep p.2.toNat)⟩]):=by simp
    have ec:(c.set (0+(rI rep p.1).toNat) (q0d.mk (-1) r o)).set (0+(rI rep p.2).toNat) (q0d.mk (rI rep p.1) 0 [])=qxd c (rep p.1.toNat) (rep p.2.toNat) r (q8x (celN c (rep p.1.toNat)).arcs (celN c (rep p.2.toNat)).arcs):=by
     simp [qxd,rI,j3]
    rw [ea,ec,z0m]
    refine ⟨fun q=>?_,ih.2⟩
    obtain ⟨tl',t',r1,r2,r3,r4⟩:=ih.1 q
    refine ⟨tl',t',r1,r2,r3,?_⟩
    simp only [zU,zO,zS] at r4 hT ⊢
    omega
theorem qtd {h:q09} {ws:List Nat} (hh:qt0 h ws) {N:Nat} {FB:Int} {n:Nat} (hn:100000≤n):∀ (k:Nat) (W:List (Int×Int)) (c:List q0d) (rep d:Nat→Nat) (D:Nat) (P T:List Int) (A:List (List q0f)),
  Rnd N D FB ws.length W c rep d→Cls N c P T A rep d→W.length+tot c<k→D+W.length+tot c≤1000 →
  ∃ P' T' A',q12 h.Types h.Feats n k (stk W) P T A=some ((qhb (mtO n h) k W c rep d).1,P',T',A')∧((qhb (mtO n h) k W c rep d).1=true→Cls N (qhb (mtO n h) k W c rep d).2.1 P' T' A' (qhb (mtO n h) k W c rep d).2.2.1 (qhb (mtO n h) k W c rep d).2.2.2)
 | 0,W,c,rep,d,D,P,T,A,hr,hc,hk,_=>by omega
 | k+1,[],c,rep,d,D,P,T,A,hr,hc,hk,hD=>by
  have e:decide (((stk []).length:Int) > 0)=false:=rfl
  simp only [qhb,q12,e,zD,q47]
  exact ⟨P,T,A,rfl,fun _=>hc⟩
 | k+1,p::W,c,rep,d,D,P,T,A,hr,hc,hk,hD=>by
  simp only [zO] at hk hD
  obtain ⟨hp1,hp2⟩:=hr.wi p (by simp)
  obtain ⟨h1,h2,h3,h4⟩:=qzv (stk W) (pk p) (by rw [qqj]; omega)
  obtain ⟨P1,f1,hc1⟩:=qpb hr.hp hc (n:=n) (by omega) hp1 h.Types h.Feats T A
  obtain ⟨P2,f2,hc2⟩:=qpb hr.hp hc1 (n:=n) (by omega) hp2 h.Types h.Feats T A
  have hlen:=qqj W
  rw [qw3]
  unfold q12
  simp only [h1,h2,h3,zC,q02,zZ,h4]
  rw [needO,if_pos (by simp only [zU,zO,zS]; omega),needO,if_pos (by simp only [zU,zO,zS]; omega)]
  simp only [pk,f1,f2,q02]
  unfold qhb
  by_cases e:rep p.1.toNat=rep p.2.toNat
  ·have e1:(rI rep p.1 != rI rep p.2)=false:=by simp [rI,e]
   simp only [e1,zD]
   rw [if_pos e]
   exact qtd hh hn k W c rep d D P2 T A hr.skip hc2 (by omega) (by omega)
  ·have e1:(rI rep p.1 != rI rep p.2)=true:=by simp only [rI,bne_iff_ne]; omega
   have Tw:=hr.two
   obtain ⟨t1,a1⟩:=hc2.same _ _ Tw.cm Tw.em
   obtain ⟨t2,a2⟩:=hc2.same _ _ Tw.cn Tw.en
   have i1:idxO T (rI rep p.1)=some (celN c (rep p.1.toNat)).kind:=by rw [rI,q07]; exact t1
   have i2:idxO T (rI rep p.2)=some (celN c (rep p.2.toNat)).kind:=by rw [rI,q07]; exact t2
   have i3:idxO A (rI rep p.1)=some (celN c (rep p.1.toNat)).arcs:=by rw [rI,q07]; exact a1
   have i4:idxO A (rI rep p.2)=some (celN c (rep p.2.toNat)).arcs:=by rw [rI,q07]; exact a2
   obtain ⟨z,hz,_⟩:=q1j (l:=P2) (show rep p.2.toNat<P2.length by rw [hc2.lp]; exact Tw.hn)
   have i5:idxO P2 (rI rep p.2)=some z:=by rw [rI,q07]; exact hz
   simp only [e1,zC,q4n,i1,i2,q02]
   rw [if_neg e]
   rcases qzc hh Tw.km Tw.kn (n:=n) (by omega) with ⟨m1,⟨⟨q1,q2⟩,m2,m3⟩,_⟩ | ⟨r,m1,m2,m3,_⟩
   ·simp only at m3
    subst m3
    have hm2:q4v n (q09.mk h.Types h.Feats) (celN c (rep p.1.toNat)).kind (celN c (rep p.2.toNat)).kind=some (q1,false):=m2
    simp only [m1,hm2,q02,Bool.not_false,zC]
    exact ⟨_,_,_,rfl,fun q=>by cases q⟩
   ·have hm2:q4v n (q09.mk h.Types h.Feats) (celN c (rep p.1.toNat)).kind (celN c (rep p.2.toNat)).kind=some (r,true):=m2
    have ta:=qi6 Tw.cm
    have tb:=qi6 Tw.cn
    have hmg:=qkb (p1:=rI rep p.1) (p2:=rI rep p.2) (P:=P2) (T:=T) (A:=A) (r:=(r,true)) n (celN c (rep p.1.toNat)).arcs (celN c (rep p.2.toNat)).arcs [] (stk W) (by omega) Tw.am.up Tw.an.up (by simp only [zS]; omega) (by omega)
    simp only [m1,hm2,q02,Bool.not_true,zD,i3,i4,i5,hmg,q2g,List.nil_append]
    have hT:=Tw.tot e r W
    rw [z0m]
    have hcm:=Cls.mrg hr.hp hc2 Tw.hm Tw.hn Tw.em Tw.en e r (q8x (celN c (rep p.1.toNat)).arcs (celN c (rep p.2.toNat)).arcs)
    have ih:=qtd hh hn k _ _ _ _ (D+1) _ _ _ (hr.next e m3) hcm (by omega) (by omega)
    simpa only [rI,zZ,Nat.zero_add] using ih
theorem qyu {N D B:Nat} {FB TB:Int} {cells:List q0d} {rep d:Nat→Nat} (h:qjt N D FB TB cells rep d) (hB:tot cells≤B) (hB2:B≤1000) (hN:N≤1000) (hD:D≤1000) (p2:List q1c) (p3:List q0b) (p9:List q08) (p11:List q1e):∀ (n:Nat) (s:List Int×List q0j) (v:Int) (w:qem Int Int) (t:Nat),Sn N B s→(0≤v∧v<(N:Int))→Rep w s.1→N - s.1.length+1001<n →
  ∃ w' t',q21 n v p2 p3 w s.2 t cells p9 p11=some ((vis cells rep n s v).1,w',(vis cells rep n s v).2.2,t')∧Rep w' (vis cells rep n s v).2.1
 | 0,s,v,w,t,hs,hv,hw,hn=>by omega
 | n+1,s,v,w,t,hs,hv,hw,hn=>by
  have hf:=qph h (n:=n) (by omega) hv p2 p3 p9 p11
  have hr:=h.rI hv
  have hle:=hs.le
  show ∃ w' t',q55 n (q21 n) v p2 p3 w s.2 t cells p9 p11=_∧_
  simp only [q55,hf,q02,hw.mget]
  unfold vis
  by_cases hm:rI rep v∈s.1
  ·simp only [hm,if_true,Option.isSome_some,zC,Option.getD_some]
   exact ⟨w,t,rfl,hw⟩
  ·have hc:=h.cel hr
   have hci:idxO cells (rI rep v)=some (qfk cells (rI rep v)):=by
    rw [show rI rep v=(((rI rep v).toNat:Nat):Int) by omega,q07]
    exact hc
   have har:=h.ar _ _ hc
   have hta:=qi6 hc
   have hs1:=hs.snoc hr hm (qfk cells (rI rep v)).kind
   have hl1:=hs1.le
   simp only [zU,zO,zS] at hl1
   have hlen:=hs.len
   simp only [hm,if_false,Option.isSome_none,zD,hci,q02]
   rw [needO,if_pos (by omega)]
   have hto:∀ a∈(qfk cells (rI rep v)).arcs,0≤a.To∧a.To<(N:Int):=fun a ha=>(har.ok a ha).2.2
   have key:∀ (m i:Nat) (acc:List q0f) (s':List Int×List q0j) (w:qem Int Int) (t:Nat),(qfk cells (rI rep v)).arcs.length - i<m→i≤(qfk cells (rI rep v)).arcs.length→acc.length=i→Sn N B s'→s.1.length+1≤s'.1.length→Rep w s'.1 →
     ∃ w' t',q2e p2 p3 s.2 cells p9 p11 (qfk cells (rI rep v)) (q21 n) m (i:Int) acc w s'.2 t=q3b s.2 (qlm (vis cells rep n) ((qfk cells (rI rep v)).arcs.drop i) s' acc).1 w' (qlm (vis cells rep n) ((qfk cells (rI rep v)).arcs.drop i) s' acc).2.2 t'∧Rep w' (qlm (vis cells rep n) ((qfk cells (rI rep v)).arcs.drop i) s' acc).2.1∧Sn N B (qlm (vis cells rep n) ((qfk cells (rI rep v)).arcs.drop i) s' acc).2∧s.1.length+1≤(qlm (vis cells rep n) ((qfk cells (rI rep v)).arcs.drop i) s' acc).2.1.length:=by
    intro m
    induction m with
    | zero=>intro i acc s' w t hm; omega
    | succ m ih =>
     intro i acc s' w t hm hi ha hs' hl' hw'
     unfold q2e
     by_cases hlt:i<(qfk cells (rI rep v)).arcs.length
     ·obtain ⟨a,hga,ham⟩:=q1j hlt
      have hat:=hto a ham
      have hle':=hs'.le
      obtain ⟨w1,t1,g1,g2⟩:=qyu h hB hB2 hN hD p2 p3 p9 p11 n s' a.To w t hs' hat hw' (by omega)
      obtain ⟨q1,q2,q3⟩:=qw8 h hB n s' a.To hs' hat (by omega)
      simp only [dlt hlt,zC,q07,hga,q02,g1,wr1 hlt (show (qfk cells (rI rep v)).arcs.length≤9223372036854775807 by omega)]
      rw [needO,if_pos (by omega),drop_cons' hga,qlm]
      exact ih (i+1) _ _ w1 t1 (by omega) (by omega) (by simp [ha]) q1 (by omega) g2
     ·rw [drop_nil' hlt]
      simp only [qfw hlt,zD,qlm]
      exact ⟨w,t,rfl,hw',hs',hl'⟩
   obtain ⟨w1,t1,g1,g2,g3,g4⟩:=key n 0 [] (s.1++[rI rep v],s.2++[⟨(qfk cells (rI rep v)).kind,[]⟩]) (qv7 (fun a b=>a == b) w (rI rep v) (s.2.length:Int)) (t+1) (by omega) (by omega) rfl hs1 (by simp) (by rw [hlen]; exact hw.snoc hm)
   rw [zV] at g1
   rw [List.drop_zero] at g1 g2 g3 g4
   rw [g1]
   refine ⟨w1,t1,?_,g2⟩
   obtain ⟨x,hx,_⟩:=q1j (l:=(qlm (vis cells rep n) (qfk cells (rI rep v)).arcs (s.1++[rI rep v],s.2++[⟨(qfk cells (rI rep v)).kind,[]⟩]) []).2.2) (show s.2.length<_ by have:=g3.len; omega)
   simp only [q3b,q07,hx,q02,Nat.zero_add,zZ,z0d,← hlen,zM,Option.getD_some]
structure Num (N:Nat) (w:List Int) (o:List Int):Prop where
 len:w.length=N
 get:∀ x:Int,0≤x→x<(N:Int)→w[x.toNat]? = some (if x∈o then (o.idxOf x:Int) else -1)
variable {N:Nat}
variable {v:Int}
theorem Num.snoc {w o:List Int} (h:Num N w o) (hv:0≤v∧v<(N:Int)) (hn:v ∉ o):Num N (w.set v.toNat (o.length:Int)) (o++[v]):=⟨by simp [h.len],fun x h1 h2=>by
 rw [List.getElem?_set]
 by_cases e:v.toNat=x.toNat
 ·have:v=x:=by omega
  subst this
  rw [if_pos rfl,if_pos (by have:=h.len; omega)]
  simp [List.idxOf_append,hn]
 ·have hne:x≠v:=fun q=>e (by rw [q])
  rw [if_neg e,h.get x h1 h2]
  by_cases hx:x∈o
  ·simp [hx,List.idxOf_append]
  ·simp [hx,hne]⟩
theorem qy4 {N D B:Nat} {FB TB:Int} {cells:List q0d} {rep d:Nat→Nat} (h:qjt N D FB TB cells rep d) (hB:tot cells≤B) (hB2:B≤1000) (hN:N≤1000) (hD:D≤1000) {T:List Int} {A:List (List q0f)} (p2:List q1c) (p3:List q0b):∀ (n:Nat) (s:List Int×List q0j) (v:Int) (w:List Int) (t:Nat) (P:List Int),Sn N B s→(0≤v∧v<(N:Int))→Num N w s.1→Cls N cells P T A rep d→N - s.1.length+1001<n →
  ∃ w' t' P',q19 n v N p2 p3 w s.2 t P T A=some ((vis cells rep n s v).1,w',(vis cells rep n s v).2.2,t',P')∧Num N w' (vis cells rep n s v).2.1∧Cls N cells P' T A rep d
 | 0,s,v,w,t,P,hs,hv,hw,hcl,hn=>by omega
 | n+1,s,v,w,t,P,hs,hv,hw,hcl,hn=>by
  obtain ⟨P1,hf,hc1⟩:=qpb h hcl (n:=n) (by omega) hv p2 p3 T A
  have hr:=h.rI hv
  have hle:=hs.le
  have hg:=hw.get _ hr.1 hr.2
  have hx0:qnw w 0 N (rI rep v)=some (if rI rep v∈s.1 then (s.1.idxOf (rI rep v):Int) else -1):=by
   rw [qnw,if_pos hr,Nat.zero_add]; exact hg
  show ∃ w' t' P',q3h n (q19 n) v N p2 p3 w s.2 t P T A=_∧_
  simp only [q3h,hf,q02,hx0]
  unfold vis
  by_cases hm:rI rep v∈s.1
  ·have:decide ((s.1.idxOf (rI rep v):Int) ≥ 0)=true:=by simp
   simp only [hm,if_true,this,zC]
   exact ⟨w,t,P1,rfl,hw,hc1⟩
  ·have hneg:decide ((-1:Int) ≥ 0)=false:=rfl
   have hc:=h.cel hr
   have hrt:rep (rI rep v).toNat=(rI rep v).toNat:=by rw [rI,zZ]; exact h.rok.idem _ (by omega)
   obtain ⟨t1,a1⟩:=hc1.same _ _ hc hrt
   have i1:idxO T (rI rep v)=some (qfk cells (rI rep v)).kind:=by
    rw [show rI rep v=(((rI rep v).toNat:Nat):Int) by omega,q07]; exact t1
   have i2:idxO A (rI rep v)=some (qfk cells (rI rep v)).arcs:=by
    rw [show rI rep v=(((rI rep v).toNat:Nat):Int) by omega,q07]; exact a1
   have har:=h.ar _ _ hc
   have hta:=qi6 hc
   have hs1:=hs.snoc hr hm (qfk cells (rI rep v)).kind
   have hl1:=hs1.le
   simp only [zU,zO,zS] at hl1
   have hlen:=hs.len
   simp only [hm,if_false,hneg,zD,i1,i2,q02]
   rw [needO,if_pos (by omega)]
   have hto:∀ a∈(qfk cells (rI rep v)).arcs,0≤a.To∧a.To<(N:Int):=fun a ha=>(har.ok a ha).2.2
   have key:∀ (m i:Nat) (acc:List q0f) (s':List Int×List q0j) (w:List Int) (t:Nat) (P:List Int),(qfk cells (rI rep v)).arcs.length - i<m→i≤(qfk cells (rI rep v)).arcs.length→acc.length=i→Sn N B s'→s.1.length+1≤s'.1.length→Num N w s'.1→Cls N cells P T A rep d →
     ∃ w' t' P',q1n N p2 p3 s.2 T A (qfk cells (rI rep v)).arcs (q19 n) m (i:Int) acc w s'.2 t P=q2a s.2 (qlm (vis cells rep n) ((qfk cells (rI rep v)).arcs.drop i) s' acc).1 w' (qlm (vis cells rep n) ((qfk cells (rI rep v)).arcs.drop i) s' acc).2.2 t' P'∧Num N w' (qlm (vis cells rep n) ((qfk cells (rI rep v)).arcs.drop i) s' acc).2.1∧Cls N cells P' T A rep d∧Sn N B (qlm (vis cells rep n) ((qfk cells (rI rep v)).arcs.drop i) s' acc).2∧s.1.length+1≤(qlm (vis cells rep n) ((qfk cells (rI rep v)).arcs.drop i) s' acc).2.1.length:=by
    intro m
    induction m with
    | zero=>intro i acc s' w t P hm; omega
    | succ m ih =>
     intro i acc s' w t P hm hi ha hs' hl' hw' hcl'
     unfold q1n
     by_cases hlt:i<(qfk cells (rI rep v)).arcs.length
     ·obtain ⟨a,hga,ham⟩:=q1j hlt
      have hat:=hto a ham
      have hle':=hs'.le
      obtain ⟨w1,t1,P1,g1,g2,g3⟩:=qy4 h hB hB2 hN hD p2 p3 n s' a.To w t P hs' hat hw' hcl' (by omega)
      obtain ⟨q1,q2,q3⟩:=qw8 h hB n s' a.To hs' hat (by omega)
      simp only [dlt hlt,zC,q07,hga,q02,g1,wr1 hlt (show (qfk cells (rI rep v)).arcs.length≤9223372036854775807 by omega)]
      rw [needO,if_pos (by omega),drop_cons' hga,qlm]
      exact ih (i+1) _ _ w1 t1 P1 (by omega) (by omega) (by simp [ha]) q1 (by omega) g2 g3
     ·rw [drop_nil' hlt]
      simp only [qfw hlt,zD,qlm]
      exact ⟨w,t,P,rfl,hw',hcl',hs',hl'⟩
   obtain ⟨w1,t1,P3,g1,g2,g5,g3,g4⟩:=key n 0 [] (s.1++[rI rep v],s.2++[⟨(qfk cells (rI rep v)).kind,[]⟩]) (w.set (rI rep v).toNat (s.2.length:Int)) (t+1) P1 (by omega) (by omega) rfl hs1 (by simp) (by rw [hlen]; exact hw.snoc hr hm) hc1
   rw [zV] at g1
   rw [List.drop_zero] at g1 g2 g3 g4
   rw [g1]
   refine ⟨w1,t1,P3,?_,g2,g5⟩
   obtain ⟨x,hx,_⟩:=q1j (l:=(qlm (vis cells rep n) (qfk cells (rI rep v)).arcs (s.1++[rI rep v],s.2++[⟨(qfk cells (rI rep v)).kind,[]⟩]) []).2.2) (show s.2.length<_ by have:=g3.len; omega)
   simp only [q2a,q07,hx,q02,Nat.zero_add,zZ,z0d,← hlen,zM,Option.getD_some]
def rdG (n:Nat) (cells:List q0d) (rep:Nat→Nat) (v:Int):GFS:=⟨(vis cells rep n ([],[]) v).2.2⟩
variable {D:Nat}
variable {FB:Int}
variable {TB:Int}
variable {cells:List q0d}
variable {rep:Nat→Nat}
variable {d:Nat→Nat}
variable {n:Nat}
theorem qvo {B:Nat} (h:qjt N D FB TB cells rep d) (hB:tot cells≤1000) (hN:N≤1000) (hn:3000≤n) (hv:0≤v∧v<(N:Int)):Small (rdG n cells rep v) 1000:=by
 obtain ⟨h1,_,_⟩:=qw8 h hB n ([],[]) v (Sn.nil N 1000) hv (by simp; omega)
 have h2:=h1.le
 have h3:=h1.len
 exact ⟨by show (vis cells rep n ([],[]) v).2.2.length≤1000; omega,h1.sm⟩
theorem qi1 (h:qjt N D FB TB cells rep d) (hB:tot cells≤1000) (hN:N≤1000) (hD:D≤1000) (hn:3000≤n) (hv:0≤v∧v<(N:Int)) (p2:List q1c) (p3:List q0b) (p9:List q08) (p11:List q1e) :
  q1i n v p2 p3 cells p9 p11=some (rdG n cells rep v,true):=by
 have hl:=h.len
 obtain ⟨w',t',g1,_⟩:=qyu h hB (by omega) hN hD p2 p3 p9 p11 n ([],[]) v qxc 0 (Sn.nil N 1000) hv Rep.nil (by simp; omega)
 have e1:decide (v<0)=false:=by simp; omega
 have e2:decide (v ≥ (cells.length:Int))=false:=by simp; omega
 simp only [q1i,e1,e2,zD,q02,g1,rdG]
theorem z4i {p1:Int} {p2:List q1c} {p3:List q0b} {P T:List Int} {A:List (List q0f)} {n N:Nat} (hP:P.length=N) (hN:N≤1000000):∀ (m i:Nat),N - i<m→i≤N→q1z p1 p2 p3 P T A n m (i:Int) (List.replicate i (-1)++List.replicate (N - i) 0)=q2t p1 p2 p3 P T A n (List.replicate N (-1))
 | 0,i,hm,_=>by omega
 | m+1,i,hm,hi=>by
  unfold q1z
  rw [hP,zZ]
  by_cases hlt:i<N
  ·have e0:N - i=(N - (i+1))+1:=by omega
   have e1:qnw (List.replicate i (-1:Int)++List.replicate (N - i) 0) 0 N (i:Int)=some 0:=by
    rw [qnw,if_pos (by omega),Nat.zero_add,zZ,List.getElem?_append_right (by simp),e0]
    simp
   have e2:(List.replicate i (-1:Int)++List.replicate (N - i) 0).set (i:Int).toNat (-1)=List.replicate (i+1) (-1)++List.replicate (N - (i+1)) 0:=by
    rw [e0,List.replicate_succ,zZ]
    have:=z54 (List.replicate i (-1:Int)) (List.replicate (N - (i+1)) 0) 0 (-1)
    rw [List.length_replicate] at this
    rw [this,List.replicate_succ',zT]; rfl
   simp only [dlt hlt,zC,e1,q02,e2,wr1 hlt (show N≤9223372036854775807 by omega)]
   exact z4i hP hN m (i+1) (by omega) (by omega)
  ·have:i=N:=by omega
   subst this
   simp only [qfw hlt,zD,Nat.sub_self,List.replicate_zero,List.append_nil]
theorem z2j (h:qjt N D FB TB cells rep d) (hB:tot cells≤1000) (hN:N≤1000) (hD:D≤1000) {P T:List Int} {A:List (List q0f)} (hc:Cls N cells P T A rep d) (hn:3000≤n) (hv:0≤v∧v<(N:Int)) (p2:List q1c) (p3:List q0b) :
  ∃ P',q3i n v p2 p3 P T A=some (rdG n cells rep v,P'):=by
 have hl:=hc.lp
 have hnum:Num N (List.replicate N (-1)) []:=⟨by simp,fun x h1 h2=>by
  rw [List.getElem?_replicate,if_pos (by omega)]; simp⟩
 obtain ⟨w',t',P',g1,_⟩:=qy4 h hB (by omega) hN hD p2 p3 n ([],[]) v _ 0 P (Sn.nil N 1000) hv hnum hc (by simp; omega)
 have h0:=z4i (p1:=v) (p2:=p2) (p3:=p3) (T:=T) (A:=A) (n:=n) hl (by omega) n 0 (by omega) (by omega)
 rw [zV,Nat.sub_zero,List.replicate_zero,List.nil_append] at h0
 refine ⟨P',?_⟩
 rw [q3i,needO,if_pos (by rw [hl]; simp; omega),hl,zZ,h0,q2t,hl,zZ,g1]
 rfl
def qnn (n:Nat) (cells:List q0d) (rep:Nat→Nat) (N:Nat):List GFS:=(List.range N).map fun (i:Nat)=>rdG n cells rep (i:Int)
theorem z59 {N D:Nat} {FB TB:Int} {cells:List q0d} {rep d:Nat→Nat} (h:qjt N D FB TB cells rep d) (hB:tot cells≤1000) (hN:N≤1000) (hD:D≤1000) {n:Nat} (hn:3000≤n) (p2:List q1c) (p3:List q0b) (p9:List q08) (p11:List q1e):∀ (m i:Nat),N - i<m→i≤N→q43 p2 p3 cells p9 p11 n m (i:Int) (qnn n cells rep i)=some (qnn n cells rep N)
 | 0,i,hm,_=>by omega
 | m+1,i,hm,hi=>by
  unfold q43
  have hl:=h.len
  simp only [q6c,q02,hl]
  by_cases hlt:i<N
  ·have hrd:=qi1 h hB hN hD hn (v:=(i:Int)) (by omega) p2 p3 p9 p11
   have hvl:(qnn n cells rep i).length=i:=by simp [qnn]
   have e:qnn n cells rep i++[GFS.mk (rdG n cells rep (i:Int)).Nodes]=qnn n cells rep (i+1):=by
    simp [qnn,List.range_succ]
   simp only [dlt hlt,zC,hrd,q02,wr1 hlt (show N≤9223372036854775807 by omega)]
   rw [needO,if_pos (by omega),e]
   exact z59 h hB hN hD hn p2 p3 p9 p11 m (i+1) (by omega) (by omega)
  ·have:i=N:=by omega
   subst this
   simp only [qfw hlt,zD,q74]
theorem z6y (h:qjt N D FB TB cells rep d) (hB:tot cells≤1000) (hN:N≤1000) (hD:D≤1000) (hn:3000≤n) (p2:List q1c) (p3:List q0b) (p9:List q08) (p11:List q1e):q4w n p2 p3 cells p9 p11=some (qnn n cells rep N):=by
 have:=z59 h hB hN hD hn p2 p3 p9 p11 n 0 (by omega) (by omega)
 rw [zV] at this
 exact this
theorem qx9 (h:qjt N D FB TB cells rep d) (hB:tot cells≤1000) (hN:N≤1000) (hn:3000≤n):∀ f∈qnn n cells rep N,Small f 1000:=fun f hf=>by
 obtain ⟨i,hi,rfl⟩:=List.mem_map.1 hf
 rw [List.mem_range] at hi
 exact qvo (B:=0) h hB hN hn (by omega)
theorem z4z {l:List GFS} (hs:∀ f∈l,Small f 1000) (hl:l.length≤1000000) {n:Nat} (hn:3000000≤n):∀ (m i:Nat),l.length - i<m→i≤l.length→q4u l l n m (i:Int)=some true
 | 0,i,hm,_=>by omega
 | m+1,i,hm,hi=>by
  unfold q4u
  by_cases hlt:i<l.length
  ·obtain ⟨f,hf,hfm⟩:=q1j hlt
   have:=qq9 (hs f hfm) (hs f hfm) hn
   rw [qp9.2 rfl] at this
   have e:((0:Int) == 0)=true:=rfl
   simp only [dlt hlt,zC,q07,hf,q02,this,e,Bool.not_true,zD,wr1 hlt (show l.length≤9223372036854775807 by omega)]
   exact z4z hs hl hn m (i+1) (by omega) (by omega)
  ·simp only [qfw hlt,zD,q7t]
theorem z6p {l:List GFS} (hs:∀ f∈l,Small f 1000) (hl:l.length≤1000000) (hn:3000000≤n):q5x n l l=some true:=by
 have:=z4z hs hl hn n 0 (by omega) (by omega)
 rw [zV] at this
 have e:((l.length:Int) != (l.length:Int))=false:=by simp
 simp only [q5x,e,zD,this]
structure z5a (h:q09) (f:GFS):Prop where
 sm:Small f 12
 ne:0<f.Nodes.length
 nok:∀ x∈f.Nodes,(0≤x.Typex∧x.Typex<(h.Types.length:Int))∧qbz f.Nodes.length (h.Feats.length:Int) x.Arcs
 can:q9a f 0=f
 gok:GOK f
theorem z42 {h:q09} {z:Int} {rc:Int→Option Int} {x:q0j} {Q:Prop} (hx:x.Arcs.length≤12) (hr:∃ r,rc (IntKind.i64.wrap (z+1))=some r∧(r=0→Q)):∀ (m k:Nat),x.Arcs.length - k<m→k≤x.Arcs.length→∃ r,q6x h z rc x m (k:Int)=some r∧(r=0→Q∧∀ a∈x.Arcs.drop k,a.Feat<(h.Feats.length:Int))
 | 0,k,hm,_=>by omega
 | m+1,k,hm,hk=>by
  unfold q6x
  by_cases hlt:k<x.Arcs.length
  ·obtain ⟨a,ha,_⟩:=q1j hlt
   simp only [dlt hlt,zC,q07,ha,q02,wr1 hlt (show x.Arcs.length≤9223372036854775807 by omega)]
   by_cases hf:a.Feat ≥ (h.Feats.length:Int)
   ·simp only [hf,yC,zC]; exact ⟨_,rfl,fun q=>by cases q⟩
   ·simp only [hf,yB,zD]
    obtain ⟨r,r1,r2⟩:=z42 hx hr m (k+1) (by omega) (by omega)
    refine ⟨r,r1,fun q=>⟨(r2 q).1,fun b hb=>?_⟩⟩
    rw [drop_cons' ha] at hb
    rcases zI.1 hb with rfl | hb
    ·omega
    ·exact (r2 q).2 b hb
  ·simp only [qfw hlt,zD,qbb,drop_nil' hlt]
   obtain ⟨r,r1,r2⟩:=hr
   exact ⟨r,r1,fun q=>⟨r2 q,fun a ha=>by cases ha⟩⟩
theorem z41 {h:q09} {f:GFS} {n:Nat} {r3:GFS×Int} {Q:Prop} (hs:Small f 12) (hn:12<n) (hk:∃ r,q6w f n r3=some r∧(r=0→Q)):∀ (m i:Nat),f.Nodes.length - i<m→i≤f.Nodes.length→∃ r,q4t h f n r3 m (i:Int)=some r∧(r=0→Q∧∀ x∈f.Nodes.drop i,x.Typex<(h.Types.length:Int)∧∀ a∈x.Arcs,a.Feat<(h.Feats.length:Int))
 | 0,i,hm,_=>by omega
 | m+1,i,hm,hi=>by
  have hnl:=hs.nodes
  unfold q4t
  by_cases hlt:i<f.Nodes.length
  ·obtain ⟨x,hx,hxm⟩:=q1j hlt
   have hxl:=hs.arcs x hxm
   simp only [dlt hlt,zC,q07,hx,q02]
   by_cases ht:x.Typex ≥ (h.Types.length:Int)
   ·simp only [ht,yC,zC]; exact ⟨_,rfl,fun q=>by cases q⟩
   ·simp only [ht,yB,zD]
    have ih:=z41 (h:=h) hs hn hk m (i+1) (by omega) (by omega)
    rw [← wr1 hlt (show f.Nodes.length≤9223372036854775807 by omega)] at ih
    obtain ⟨r,r1,r2⟩:=z42 (h:=h) (z:=(i:Int)) (x:=x) hxl ih n 0 (by omega) (by omega)
    rw [zV] at r1
    refine ⟨r,r1,fun q=>?_⟩
    obtain ⟨⟨q1,q2⟩,q3⟩:=r2 q
    refine ⟨q1,fun y hy=>?_⟩
    rw [drop_cons' hx] at hy
    rcases zI.1 hy with rfl | hy
    ·exact ⟨by omega,by rw [List.drop_zero] at q3; exact q3⟩
    ·exact q2 y hy
  ·simp only [qfw hlt,zD,drop_nil' hlt]
   obtain ⟨r,r1,r2⟩:=hk
   exact ⟨r,r1,fun q=>⟨r2 q,fun a ha=>by cases ha⟩⟩
variable {n:Nat}
theorem chk_ok {f:GFS} (hs:Small f 12) (h:q09) (hn:3000000≤n):∃ r,qah n h f=some r∧(r=0→z5a h f):=by
 have h2:=qu1 hs (by omega) (n:=n) (show 2*12+4≤n by omega)
 by_cases e:qya f=0
 ·rw [if_pos e] at h2
  obtain ⟨g1,g2,g3⟩:=qrc.1 e
  have hin:InG f 0:=⟨by omega,by omega⟩
  have hsm:=hs.canon g3 (r:=0) hin
  have q2:=qq9 (f:=f) (g:=⟨(q9a f 0).Nodes⟩) (n:=n) (hs.up (by omega)) (hsm.up (by omega)) hn
  have hk:∃ r,q6w f n (q9a f 0,0)=some r∧(r=0→f=q9a f 0):=by
   simp only [q6w,q2,q02]
   cases hb:(ccG f ⟨(q9a f 0).Nodes⟩ == 0)
   ·exact ⟨_,rfl,fun q=>by cases q⟩
   ·exact ⟨_,rfl,fun _=>qp9.1 (by simpa using hb)⟩
  obtain ⟨r,r1,r2⟩:=z41 (h:=h) hs (by omega) hk n 0 (by have:=hs.nodes; omega) (by omega)
  rw [zV] at r1
  refine ⟨r,by simp only [qah,h2,q02]; exact r1,fun q=>?_⟩
  obtain ⟨q1,q3⟩:=r2 q
  rw [List.drop_zero] at q3
  have hc:=qxx g3 hin
  refine ⟨hs,by omega,fun x hx=>⟨⟨(g3 x hx).ty,(q3 x hx).1⟩,?_,fun a ha=>?_⟩,q1.symm,g3⟩
  ·exact hc.up x (q1 ▸ hx)
  ·have:=(g3 x hx).arc a ha; exact ⟨this.1,(q3 x hx).2 a ha,this.2⟩
 ·rw [if_neg e] at h2
  have e':(qya f != 0)=true:=by simp [e]
  exact ⟨qya f,by simp only [qah,h2,q02,e',zC],fun q=>absurd q e⟩
theorem z4c {h:q09} {l:List GFS} (hl:l.length≤1000000) {n:Nat} (hn:3000000≤n):∀ (m i:Nat),l.length - i<m→i≤l.length→∃ b,q7n h l n m (i:Int)=some b∧(b=true→∀ f∈l.drop i,z5a h f)
 | 0,i,hm,_=>by omega
 | m+1,i,hm,hi=>by
  unfold q7n
  by_cases hlt:i<l.length
  ·obtain ⟨f,hf,_⟩:=q1j hlt
   obtain ⟨b,b1,b2⟩:=z2q f (n:=n) (by omega)
   simp only [dlt hlt,zC,q07,hf,q02,b1,wr1 hlt (show l.length≤9223372036854775807 by omega)]
   cases b with
   | false=>simp only [Bool.not_false,zC,q02]; exact ⟨false,rfl,fun q=>by cases q⟩
   | true =>
    obtain ⟨r,r1,r2⟩:=chk_ok (b2 rfl) h hn
    simp only [Bool.not_true,zD,r1,q02]
    cases hr:(r != 0) with
    | true=>simp only [zC]; exact ⟨false,rfl,fun q=>by cases q⟩
    | false =>
     simp only [zD]
     obtain ⟨b,g1,g2⟩:=z4c hl hn m (i+1) (by omega) (by omega)
     refine ⟨b,g1,fun q g hg=>?_⟩
     rw [drop_cons' hf] at hg
     rcases zI.1 hg with rfl | hg
     ·exact r2 (by simpa using hr)
     ·exact g2 q g hg
  ·simp only [qfw hlt,zD,qcb,drop_nil' hlt]
   exact ⟨true,rfl,fun _ f hf=>by cases hf⟩
theorem z5v (h:q09) {l:List GFS} (hl:l.length≤1000000) (hn:3000000≤n):∃ b,qgq n h l=some b∧(b=true→∀ f∈l,z5a h f):=by
 obtain ⟨b,h1,h2⟩:=z4c (h:=h) hl hn n 0 (by omega) (by omega)
 rw [zV] at h1
 exact ⟨b,h1,h2⟩
def shA (k:Nat) (a:q0f):q0f:=⟨a.Feat,a.To+(k:Int)⟩
def ldN (k:Nat) (x:q0j):q0d:=⟨-1,x.Typex,x.Arcs.map (shA k)⟩
theorem wrsh {a:q0f} {k:Nat} (h:0≤a.To∧a.To<1000) (hk:k≤1000):IntKind.i64.wrap (a.To+(k:Int))=a.To+(k:Int):=wr (by omega) (by omega)
theorem qz4 {p4:List q0d} {z:Int} {l24:List q0d} {t:Nat} {rc:Int→List q0d→Nat→Option (Int×List q0d×Nat)} {x:q0j} (hx:x.Arcs.length≤12) (hp:p4.length≤1000) (hto:∀ a∈x.Arcs,0≤a.To∧a.To<1000):∀ (m i:Nat),x.Arcs.length - i<m→i≤x.Arcs.length→q2z p4 z l24 t rc x m (i:Int) ((x.Arcs.take i).map (shA p4.length))=q3x z l24 t rc x (x.Arcs.map (shA p4.length))
 | 0,i,hm,_=>by omega
 | m+1,i,hm,hi=>by
  unfold q2z
  by_cases hlt:i<x.Arcs.length
  ·obtain ⟨a,ha,ham⟩:=q1j hlt
   have e:(x.Arcs.take i).map (shA p4.length)++[q0f.mk a.Feat (a.To+(p4.length:Int))]=(x.Arcs.take (i+1)).map (shA p4.length):=by rw [q0r ha,List.map_append]; rfl
   simp only [dlt hlt,zC,q07,ha,q02,wrsh (hto a ham) hp,wr1 hlt (show x.Arcs.length≤9223372036854775807 by omega),e]
   rw [needO,if_pos (by simp only [yA,List.length_take]; omega)]
   exact qz4 hx hp hto m (i+1) (by omega) (by omega)
  ·simp only [qfw hlt,zD]
   rw [zW (by omega)]
theorem qz3 {f:GFS} (hf:Small f 12) (hto:∀ x∈f.Nodes,∀ a∈x.Arcs,0≤a.To∧a.To<1000) {p4:List q0d} (hp:p4.length≤1000) {n:Nat} (hn:20≤n) {t0:Nat}:∀ (m i:Nat),f.Nodes.length - i<m→i≤f.Nodes.length→q1h f p4 n m (i:Int) (p4++(f.Nodes.take i).map (ldN p4.length)) (t0+i)=some ((p4.length:Int),p4++f.Nodes.map (ldN p4.length),t0+f.Nodes.length)
 | 0,i,hm,_=>by omega
 | m+1,i,hm,hi=>by
  have hnl:=hf.nodes
  unfold q1h
  by_cases hlt:i<f.Nodes.length
  ·obtain ⟨x,hx,hxm⟩:=q1j hlt
   have h2:=qz4 (z:=(i:Int)) (l24:=p4++(f.Nodes.take i).map (ldN p4.length)) (t:=t0+i) (rc:=q1h f p4 n m) (hf.arcs x hxm) hp (hto x hxm) n 0 (by have:=hf.arcs x hxm; omega) (by omega)
   rw [zV,List.take_zero,List.map_nil] at h2
   have e:p4++(f.Nodes.take i).map (ldN p4.length)++[q0d.mk (-1) x.Typex (x.Arcs.map (shA p4.length))]=p4++(f.Nodes.take (i+1)).map (ldN p4.length):=by rw [q0r hx,List.map_append,zT]; rfl
   simp only [dlt hlt,zC,q07,hx,q02,h2,q3x,wr1 hlt (show f.Nodes.length≤9223372036854775807 by omega),e]
   rw [needO,if_pos (by simp only [zU,yA,List.length_take]; omega)]
   exact qz3 hf hto hp hn m (i+1) (by omega) (by omega)
  ·have e:i=f.Nodes.length:=by omega
   subst e
   simp only [qfw hlt,zD,q5i,List.take_length]
theorem qmw {f:GFS} (hf:Small f 12) (hto:∀ x∈f.Nodes,∀ a∈x.Arcs,0≤a.To∧a.To<1000) {p4:List q0d} (hp:p4.length≤1000) (hn:20≤n) (t0:Nat) (p2:List q1c) (p3:List q0b) (p6:List q08) (p8:List q1e):q2k n f p2 p3 p4 t0 p6 p8=some ((p4.length:Int),p4++f.Nodes.map (ldN p4.length),t0+f.Nodes.length):=by
 have:=qz3 hf hto hp hn (t0:=t0) n 0 (by have:=hf.nodes; omega) (by omega)
 rw [zV,List.take_zero,List.map_nil,List.append_nil,Nat.add_zero] at this
 exact this
theorem z3t {p4:List Int} {z:Int} {l23 l25:List Int} {l27:List (List q0f)} {rc:Int→List Int→List Int→List (List q0f)→Option (List Int×List Int×List (List q0f))} {x:q0j} (hx:x.Arcs.length≤12) (hp:p4.length≤1000) (hto:∀ a∈x.Arcs,0≤a.To∧a.To<1000):∀ (m i:Nat),x.Arcs.length - i<m→i≤x.Arcs.length→q2f p4 z l23 l25 l27 rc x m (i:Int) ((x.Arcs.take i).map (shA p4.length))=q3d p4 z l23 l25 l27 rc x (x.Arcs.map (shA p4.length))
 | 0,i,hm,_=>by omega
 | m+1,i,hm,hi=>by
  unfold q2f
  by_cases hlt:i<x.Arcs.length
  ·obtain ⟨a,ha,ham⟩:=q1j hlt
   have e:(x.Arcs.take i).map (shA p4.length)++[q0f.mk a.Feat (a.To+(p4.length:Int))]=(x.Arcs.take (i+1)).map (shA p4.length):=by rw [q0r ha,List.map_append]; rfl
   simp only [dlt hlt,zC,q07,ha,q02,wrsh (hto a ham) hp,wr1 hlt (show x.Arcs.length≤9223372036854775807 by omega),e]
   rw [needO,if_pos (by simp only [yA,List.length_take]; omega)]
   exact z3t hx hp hto m (i+1) (by omega) (by omega)
  ·simp only [qfw hlt,zD]
   rw [zW (by omega)]
def rng (a k:Nat):List Int:=(List.range k).map fun i=>((a+i:Nat):Int)
theorem qqb (a k:Nat):rng a (k+1)=rng a k++[((a+k:Nat):Int)]:=by simp [rng,List.range_succ]
theorem qi4 (a k:Nat):(rng a k).length=k:=by simp [rng]
theorem z3s {l:List q0j} (hf:Small ⟨l⟩ 12) (hto:∀ x∈l,∀ a∈x.Arcs,0≤a.To∧a.To<1000) {P T:List Int} {A:List (List q0f)} (hp:P.length≤1000) (hT:T.length=P.length) (hA:A.length=P.length) {n:Nat} (hn:20≤n):∀ (m i:Nat),l.length - i<m→i≤l.length →
  q15 l P n m (i:Int) (P++rng P.length i) (T++(l.take i).map q0j.Typex) (A++(l.take i).map fun x=>x.Arcs.map (shA P.length))=some (P++rng P.length l.length,T++l.map q0j.Typex,A++l.map fun x=>x.Arcs.map (shA P.length))
 | 0,i,hm,_=>by omega
 | m+1,i,hm,hi=>by
  have hnl:l.length≤12:=hf.nodes
  unfold q15
  by_cases hlt:i<l.length
  ·obtain ⟨x,hx,hxm⟩:=q1j hlt
   have hxl:=hf.arcs x hxm
   have h2:=fun l23 l25 l27=>z3t (z:=(i:Int)) (l23:=l23) (l25:=l25) (l27:=l27) (rc:=q15 l P n m) hxl hp (hto x hxm) n 0 (by omega) (by omega)
   simp only [zV,List.take_zero,List.map_nil] at h2
   have e:A++((l.take i).map fun x=>x.Arcs.map (shA P.length))++[x.Arcs.map (shA P.length)]=A++(l.take (i+1)).map fun x=>x.Arcs.map (shA P.length):=by rw [q0r hx,List.map_append,zT]; rfl
   have e2:T++(l.take i).map q0j.Typex++[x.Typex]=T++(l.take (i+1)).map q0j.Typex:=by rw [q0r hx,List.map_append,zT]; rfl
   have e4:IntKind.i64.wrap ((P.length:Int)+(i:Int))=((P.length+i:Nat):Int):=wrn (by omega) (by omega)
   have e3:P++rng P.length i++[((P.length+i:Nat):Int)]=P++rng P.length (i+1):=by rw [qqb,zT]
   have hr:=qi4 P.length i
   simp only [dlt hlt,zC,q07,hx,q02]
   rw [needO,if_pos (by simp only [zU,hr]; omega),needO,if_pos (by simp only [zU,yA,List.length_take]; omega),h2,q3d,needO,if_pos (by simp only [zU,yA,List.length_take]; omega),e,e2,e4,e3,wr1 hlt (show l.length≤9223372036854775807 by omega)]
   exact z3s hf hto hp hT hA hn m (i+1) (by omega) (by omega)
  ·have e:i=l.length:=by omega
   subst e
   simp only [qfw hlt,zD,q4m,List.take_length]
theorem z3u {l:List q0j} (hf:Small ⟨l⟩ 12) (hto:∀ x∈l,∀ a∈x.Arcs,0≤a.To∧a.To<1000) {P T:List Int} {A:List (List q0f)} (hp:P.length≤1000) (hT:T.length=P.length) (hA:A.length=P.length) (hn:20≤n) (p2:List q1c) (p3:List q0b) :
  q4e n l p2 p3 P T A=some (P++rng P.length l.length,T++l.map q0j.Typex,A++l.map fun x=>x.Arcs.map (shA P.length)):=by
 have:=z3s hf hto hp hT hA hn n 0 (by have:l.length≤12:=hf.nodes; omega) (by omega)
 rw [zV,List.take_zero,List.map_nil,List.map_nil,List.append_nil,List.append_nil,show rng P.length 0=[] from rfl,List.append_nil] at this
 exact this
structure Flat (N:Nat) (FB TB:Int) (c:q0d):Prop where
 fw:c.forward = -1
 ar:qbz N FB c.arcs
 kd:0≤c.kind∧c.kind<TB
 sm:c.arcs.length≤12
variable {N:Nat}
theorem qjt.init {FB TB:Int} {cells:List q0d} (hl:cells.length=N) (h:∀ c∈cells,Flat N FB TB c):qjt N 0 FB TB cells id (fun _=>0) where
 rok:=⟨fun i hi=>hi,fun i hi=>rfl,fun i hi=>rfl,fun i hi=>zF _⟩
 cok:=⟨fun i c hc _=>(h c (zX hc)).fw,fun i c hc hne=>absurd rfl hne⟩
 len:=hl
 ar i c hc:=(h c (zX hc)).ar
 kd i c hc:=(h c (zX hc)).kd
theorem z57:∀ {cells:List q0d},(∀ c∈cells,c.arcs.length≤12)→tot cells≤12*cells.length
 | [],_=>by simp [tot]
 | c::l,h=>by
  have ih:=z57 (cells:=l) fun x hx=>h x (List.mem_cons_of_mem _ hx)
  have:=h c (by simp)
  simp only [tot,zQ,List.sum_cons,zO] at ih ⊢
  omega
theorem up_sh {k:Nat} {l:List q0f} (h:UpA l):UpA (l.map (shA k)):=by
 unfold UpA at *
 rw [List.pairwise_map]
 exact h.imp fun {a b} q=>q
variable {h:q09}
theorem z5a.flat {f:GFS} (hf:z5a h f) {k:Nat} (hk:k+f.Nodes.length≤N) {c:q0d} (hc:c∈f.Nodes.map (ldN k)):Flat N (h.Feats.length:Int) (h.Types.length:Int) c:=by
 obtain ⟨x,hx,rfl⟩:=List.mem_map.1 hc
 obtain ⟨h1,h2⟩:=hf.nok x hx
 refine ⟨rfl,⟨up_sh h2.up,fun a ha=>?_⟩,h1,by simp [ldN]; exact hf.sm.arcs x hx⟩
 obtain ⟨b,hb,rfl⟩:=List.mem_map.1 ha
 have:=h2.ok b hb
 exact ⟨this.1,this.2.1,by show 0≤b.To+(k:Int); omega,by show b.To+(k:Int)<_; omega⟩
theorem z5a.to {f:GFS} (hf:z5a h f):∀ x∈f.Nodes,∀ a∈x.Arcs,0≤a.To∧a.To<1000:=fun x hx a ha=>by
 have:=(hf.nok x hx).2.ok a ha
 have:=hf.sm.nodes
 omega
theorem z6o (a b:Nat):rng 0 a++rng a b=rng 0 (a+b):=by
 induction b with
 | zero=>simp [rng]
 | succ b ih=>rw [qqb,← zT,ih,← Nat.add_assoc,qqb]; simp
theorem Cls.init {cells:List q0d} (hl:cells.length=N):Cls N cells (rng 0 N) (cells.map q0d.kind) (cells.map q0d.arcs) id (fun _=>0) where
 pok:=⟨fun i c hc _=>by
  have h1:=(zG.1 hc).1
  rw [qi4] at h1
  rw [rng,List.getElem?_map,List.getElem?_range h1] at hc
  have:=Option.some.inj hc
  simp only [Nat.zero_add] at this
  exact this.symm,fun i c _ hne=>absurd rfl hne⟩
 lp:=qi4 0 N
 lt:=by simp [hl]
 la:=by simp [hl]
 same i c hc _:=by
  rw [List.getElem?_map,List.getElem?_map,hc]; exact ⟨rfl,rfl⟩
variable {n:Nat}
theorem z07 {rep:Nat→Nat} {m i j:Nat} (h:rep i=rep j):qny rep m n i=qny rep m n j:=by unfold qny; rw [h]
theorem qjo {mt:Int→Int→Option Int} {i j:Nat}:∀ (k:Nat) (W:List (Int×Int)) (c:List q0d) (rep d:Nat→Nat),rep i=rep j→(qhb mt k W c rep d).2.2.1 i=(qhb mt k W c rep d).2.2.1 j
 | 0,W,c,rep,d,h=>h
 | k+1,[],c,rep,d,h=>h
 | k+1,p::W,c,rep,d,h=>by
  unfold qhb
  by_cases e:rep p.1.toNat=rep p.2.toNat
  ·rw [if_pos e]; exact qjo k W c rep d h
  ·rw [if_neg e]
   cases mt (celN c (rep p.1.toNat)).kind (celN c (rep p.2.toNat)).kind with
   | none=>exact h
   | some t=>exact qjo k _ _ _ _ (z07 h)
theorem qkm {mt:Int→Int→Option Int} {N:Nat} {FB TB:Int} (hmt:∀ s t r,(0≤s∧s<TB)→(0≤t∧t<TB)→mt s t=some r→0≤r∧r<TB):∀ (k:Nat) (W:List (Int×Int)) (c:List q0d) (rep d:Nat→Nat) (D:Nat),Rnd N D FB TB W c rep d→W.length+tot c<k→(qhb mt k W c rep d).1=true→∀ p∈W,(qhb mt k W c rep d).2.2.1 p.1.toNat=(qhb mt k W c rep d).2.2.1 p.2.toNat
 | 0,W,c,rep,d,D,h,hk,_=>by omega
 | k+1,[],c,rep,d,D,h,hk,_=>fun p hp=>by cases hp
 | k+1,p::W,c,rep,d,D,h,hk,hb=>by
  simp only [zO] at hk
  have T:=h.two
  unfold qhb at hb ⊢
  by_cases e:rep p.1.toNat=rep p.2.toNat
  ·rw [if_pos e] at hb ⊢
   intro q hq
   rcases zI.1 hq with rfl | hq
   ·exact qjo k W c rep d e
   ·exact qkm hmt k W c rep d D h.skip (by omega) hb q hq
  ·rw [if_neg e] at hb ⊢
   cases hm:mt (celN c (rep p.1.toNat)).kind (celN c (rep p.2.toNat)).kind with
   | none=>rw [hm] at hb; cases hb
   | some t =>
    rw [hm] at hb
    have ht:=hmt _ _ _ T.km T.kn hm
    have hT:=T.tot e t W
    intro q hq
    rcases zI.1 hq with rfl | hq
    ·refine qjo k _ _ _ _ ?_
     simp [qny,e]
    ·exact qkm hmt k _ _ _ _ (D+1) (h.next e ht) (by omega) hb q (List.mem_append_right _ hq)
theorem z6a {ws:List Nat} (hh:qt0 h ws) (hn:2000≤n):∀ s t r,(0≤s∧s<(ws.length:Int))→(0≤t∧t<(ws.length:Int))→mtO n h s t=some r→0≤r∧r<(ws.length:Int):=fun s t r hs ht hr=>by
 rcases qzc hh hs ht hn with ⟨h1,_⟩ | ⟨q,h1,_,h3,_⟩
 ·rw [h1] at hr; cases hr
 ·rw [h1] at hr; have:=Option.some.inj hr; subst this; exact h3
theorem z3c (hn:1≤n) {c:List q0d} {rep:Nat→Nat} {u v:Int} (h:rep u.toNat=rep v.toNat):rdG n c rep u=rdG n c rep v:=by
 obtain ⟨k,rfl⟩:=Nat.exists_eq_add_of_le' hn
 have:rI rep u=rI rep v:=by unfold rI; rw [h]
 rw [rdG,rdG,vis,vis,this]
theorem HOK.hr {d:List q01} (hh:HOK d n h):∃ ws,qt0 h ws:=by
 obtain ⟨l,f,h1,h2,h3⟩:=hh.ex
 obtain ⟨nm,c0,ws,g1,g2,g3,g4,g5⟩:=h1.cok.ws
 have hc:=h1.cok.cod
 have e1:(l.map fun x=>cw x.Code).map bt=l.map q0l.Code:=by
  rw [List.map_map]
  apply List.map_congr_left
  intro x hx
  obtain ⟨w,hw,_⟩:=hc x hx
  simp [hw,z1x]
 have e2:(l.map fun x=>cw x.Code).Perm ws:=by
  have:=g3.perm.map cw
  rw [List.map_map,List.map_map] at this
  have e3:ws.map (cw ∘ bt)=ws:=by
   have:(cw ∘ bt)=id:=funext fun w=>z1x w
   rw [this,List.map_id]
  rw [e3] at this
  exact this
 refine ⟨l.map fun x=>cw x.Code,⟨by rw [h2,e1],fun w hw=>?_,e2.nodup_iff.2 g1.nod,fun a ha b hb hne=>?_,?_,?_,?_⟩⟩
 ·have:=g1.ok w (e2.mem_iff.1 hw)
  exact ⟨this.2.1,by omega⟩
 ·exact e2.mem_iff.2 (g2 a (e2.mem_iff.1 ha) b (e2.mem_iff.1 hb) hne)
 ·rw [e2.length_eq]; omega
 ·rw [e2.length_eq]; omega
 ·have:=congrArg List.length h3
  rw [yA] at this
  have:=h1.len
  omega
def wd (t:q1c):Nat:=cw t.Code
def ndB:List Nat→Bool
 | []=>true
 | x::l=>!(l.any fun y=>Nat.beq x y)&&ndB l
def okB (h:q09):Bool :=
 (h.Types.all fun t=>match t.Code with | [z]=>decide (0<z)&&decide (z<4611686018427387904) | _=>false) &&
 ndB (h.Types.map wd)&&((h.Types.map wd).all fun a=>(h.Types.map wd).all fun b=>Nat.beq (a &&& b) 0 || (h.Types.map wd).any fun c=>Nat.beq (a &&& b) c) &&
 Nat.ble h.Types.length 1000&&Nat.ble 1 h.Types.length&&Nat.ble h.Feats.length 1000
theorem z4s:∀ {l:List Nat},ndB l=true→l.Nodup
 | [],_=>List.nodup_nil
 | x::l,h=>by
  simp only [ndB,Bool.and_eq_true,Bool.not_eq_true',List.any_eq_false] at h
  refine List.nodup_cons.2 ⟨fun hx=>?_,z4s h.2⟩
  have:=h.1 x hx
  simp at this
theorem okB_hr (hb:okB h=true):∃ ws,qt0 h ws:=by
 simp only [okB,Bool.and_eq_true,List.all_eq_true,Nat.ble_eq] at hb
 obtain ⟨⟨⟨⟨⟨h1,h2⟩,h3⟩,h4⟩,h5⟩,h6⟩:=hb
 have hcod:∀ t∈h.Types,t.Code=bt (wd t)∧wd t≠0∧wd t<4611686018427387904:=fun t ht=>by
  have:=h1 t ht
  unfold wd
  cases hc:t.Code with
  | nil=>rw [hc] at this; simp at this
  | cons z l =>
   cases l with
   | cons y l=>rw [hc] at this; simp at this
   | nil =>
    rw [hc] at this
    simp at this
    have e:cw [z]=z.toNat:=rfl
    rw [e]
    exact ⟨by rw [qnt (by omega)]; congr 1; omega,by omega,by omega⟩
 refine ⟨h.Types.map wd,⟨?_,fun w hw=>?_,z4s h2,fun a ha b hb hne=>?_,by rw [yA]; exact h4,by rw [yA]; exact h5,h6⟩⟩
 ·rw [List.map_map]
  exact List.map_congr_left fun t ht=>(hcod t ht).1
 ·obtain ⟨t,ht,rfl⟩:=List.mem_map.1 hw
  exact (hcod t ht).2
 ·have:=h3 a ha b hb
  rw [Bool.or_eq_true,Nat.beq_eq] at this
  rcases this with h | h
  ·exact absurd h hne
  ·obtain ⟨c,hc,e⟩:=List.any_eq_true.1 h
   rw [Nat.beq_eq] at e
   rw [e]; exact hc
theorem preB (m:Nat):bindO (q9q (m+200)) (fun d=>bindO (q4j (m+200) d) fun r=>some (okB r.1))=some true:=by kernel_rfl
theorem ex12n (m:Nat):q41 (m+200)=some true:=by kernel_rfl
theorem ex12 (h:200≤n):q41 n=some true:=by
 have:=ex12n (n - 200)
 rwa [show n - 200+200=n by omega] at this
theorem pre_hr (h:200≤n):∃ g ws,q42 n=some g∧qt0 g ws:=by
 have:=preB (n - 200)
 rw [show n - 200+200=n by omega] at this
 cases e1:q9q n with
 | none=>rw [e1] at this; cases this
 | some d =>
  rw [e1,q02] at this
  cases e2:q4j n d with
  | none=>rw [e2] at this; cases this
  | some r =>
   rw [e2,q02] at this
   obtain ⟨ws,hw⟩:=okB_hr (Option.some.inj this)
   exact ⟨⟨r.1.Types,r.1.Feats⟩,ws,by simp only [q42,e1,e2,q02],hw⟩
theorem z5z (d:List q01) (hn:5000≤n):∃ g ws,q79 n d=some g∧qt0 g ws:=by
 obtain ⟨g,ws,p1,p2⟩:=pre_hr (n:=n) (by omega)
 unfold q79
 by_cases hd:(d.length:Int)≤12
 ·obtain ⟨h,e,c1,c2,c3⟩:=qwk (d:=d) (by omega) hn
  simp only [hd,yC,zC,c1,q02]
  by_cases he:e=0
  ·subst he
   obtain ⟨ws',hw⟩:=(c2 rfl).hr
   exact ⟨⟨h.Types,h.Feats⟩,ws',rfl,hw⟩
  ·have:(e == 0)=false:=by simpa using he
   simp only [this,zD]
   exact ⟨g,ws,p1,p2⟩
 ·simp only [hd,yB,zD]
  exact ⟨g,ws,p1,p2⟩
theorem qu8 (d:List q01) (a b:GFS) {n:Nat} (hn:3000000≤n):q73 n d a b=some true:=by
 have hex:=ex12 (show 200≤n by omega)
 obtain ⟨h,ws,e1,hh⟩:=z5z d (n:=n) (by omega)
 obtain ⟨bb,e2,e3⟩:=z5v h (l:=[a,b]) (by simp) hn
 simp only [q73,e1,q02,e2]
 cases bb with
 | false=>simp only [Bool.not_false,zC,hex,q02]
 | true =>
  have ha:=e3 rfl a (by simp)
  have hb:=e3 rfl b (by simp)
  have hal:=ha.sm.nodes
  have hbl:=hb.sm.nodes
  have han:=ha.ne
  have hbn:=hb.ne
  have l1:=qmw ha.sm ha.to (p4:=[]) (by simp) (n:=n) (by omega) 0 h.Types h.Feats [] []
  rw [zS,List.nil_append,Nat.zero_add,show ((0:Nat):Int)=0 from rfl] at l1
  have l2:=qmw hb.sm hb.to (p4:=a.Nodes.map (ldN 0)) (by simp; omega) (n:=n) (by omega) (a.Nodes.length) h.Types h.Feats [] []
  rw [yA] at l2
  generalize hcs:a.Nodes.map (ldN 0)++b.Nodes.map (ldN a.Nodes.length)=cells at l2
  have hlen:cells.length=a.Nodes.length+b.Nodes.length:=by rw [← hcs]; simp
  have hfl:∀ c∈cells,Flat (a.Nodes.length+b.Nodes.length) (h.Feats.length:Int) (ws.length:Int) c:=fun c hc=>by
   rw [← hh.tl]
   rw [← hcs] at hc
   rcases yD.1 hc with hc | hc
   ·exact ha.flat (by omega) hc
   ·exact hb.flat (by omega) hc
  have htot:=z57 (cells:=cells) fun c hc=>(hfl c hc).sm
  rw [hlen] at htot
  have hp0:=qjt.init hlen hfl
  have hc0:=Cls.init hlen
  have m1:q2l n h.Types h.Feats cells [] [] 0=some (0,[q1e.mk (cells.length:Int) 0],1):=by
   rw [q2l,needO,if_pos (by simp)]; rfl
  have a1:=z3u (l:=a.Nodes) ha.sm ha.to (P:=[]) (T:=[]) (A:=[]) (by simp) rfl rfl (n:=n) (by omega) h.Types h.Feats
  simp only [zS,List.nil_append] at a1
  have a2:=z3u (l:=b.Nodes) hb.sm hb.to (P:=rng 0 a.Nodes.length) (T:=a.Nodes.map q0j.Typex) (A:=a.Nodes.map fun x=>x.Arcs.map (shA 0)) (by rw [qi4]; omega) (by simp [qi4]) (by simp [qi4]) (n:=n) (by omega) h.Types h.Feats
  rw [qi4,z6o] at a2
  have hT:a.Nodes.map q0j.Typex++b.Nodes.map q0j.Typex=cells.map q0d.kind:=by rw [← hcs,List.map_append,List.map_map,List.map_map]; rfl
  have hA:(a.Nodes.map fun x=>x.Arcs.map (shA 0))++(b.Nodes.map fun x=>x.Arcs.map (shA a.Nodes.length))=cells.map q0d.arcs:=by rw [← hcs,List.map_append,List.map_map,List.map_map]; rfl
  rw [hT,hA] at a2
  have hrd:Rnd (a.Nodes.length+b.Nodes.length) 0 (h.Feats.length:Int) (ws.length:Int) [((0:Int),(a.Nodes.length:Int))] cells id (fun _=>0):=⟨hp0,fun p hp=>by
   simp only [zI,List.not_mem_nil,or_false] at hp
   subst hp
   exact ⟨⟨by simp,by show (0:Int)<_; omega⟩,⟨by simp,by show (a.Nodes.length:Int)<_; omega⟩⟩⟩
  have hmt:=z6a hh (n:=n) (by omega)
  have hwk:[((0:Int),(a.Nodes.length:Int))].length+tot cells<n:=by simp only [zO,zS]; omega
  obtain ⟨P',T',A',j1,j2⟩:=qtd hh (n:=n) (by omega) n _ _ _ _ 0 _ _ _ hrd hc0 hwk (by simp only [zO,zS]; omega)
  obtain ⟨D',u1,u2⟩:=qu7 hmt n _ _ _ _ 0 hrd hwk
  have hpr:=qkm hmt n _ _ _ _ 0 hrd hwk
  obtain ⟨k1,k2⟩:=qys hh (by have:=hh.fl; omega) (n:=n) (by omega) (p7:=[]) (by simp) [q1e.mk (cells.length:Int) 0] cells n _ _ _ _ 0 [] 0 hrd hwk (by simp only [zO,zS]; omega) (fun x hx=>by cases hx) rfl (by simp only [zO,zS]; omega)
  have v1:=z6y hp0 (by omega) (by omega) (by omega) (n:=n) (by omega) h.Types h.Feats [] [q1e.mk (cells.length:Int) 0]
  have hvs:=qx9 hp0 (by omega) (by omega) (n:=n) (by omega)
  have hvl:(qnn n cells id (a.Nodes.length+b.Nodes.length)).length≤1000000:=by simp [qnn]; omega
  have hsame:=z6p hvs hvl hn
  have js:q5l n 0 (a.Nodes.length:Int) h.Types h.Feats (rng 0 (a.Nodes.length+b.Nodes.length)) (cells.map q0d.kind) (cells.map q0d.arcs)=q12 h.Types h.Feats n n (stk [((0:Int),(a.Nodes.length:Int))]) (rng 0 (a.Nodes.length+b.Nodes.length)) (cells.map q0d.kind) (cells.map q0d.arcs):=rfl
  have hu:∀ m,q1u n 0 (a.Nodes.length:Int) h.Types h.Feats cells [] 0 m=q13 h.Types h.Feats [] m n n (stk [((0:Int),(a.Nodes.length:Int))]) cells [] 0:=fun m=>by
   have q1:decide ((0:Int)<0)=false:=rfl
   have q2:decide ((0:Int) ≥ (cells.length:Int))=false:=by simp only [decide_eq_false_iff_not]; omega
   have q3:decide ((a.Nodes.length:Int)<0)=false:=by simp
   have q4:decide ((a.Nodes.length:Int) ≥ (cells.length:Int))=false:=by simp only [decide_eq_false_iff_not]; omega
   simp only [q1u,q1,q2,q3,q4,zD,q02]
   rfl
  have hin0:0≤(0:Int)∧(0:Int)<((a.Nodes.length+b.Nodes.length:Nat):Int):=by omega
  have hinb:0≤(a.Nodes.length:Int)∧(a.Nodes.length:Int)<((a.Nodes.length+b.Nodes.length:Nat):Int):=by omega
  have mk:idxO [q1e.mk (cells.length:Int) 0] 0=some (q1e.mk (cells.length:Int) 0):=z2l _ _
  have undo:∀ c tl,q29 0 n c tl=some (cells,[])→q3c n 0 h.Types h.Feats c tl [q1e.mk (cells.length:Int) 0]=some (true,cells,[],[q1e.mk (cells.length:Int) 0]):=fun c tl hb=>by
   have q1:decide ((0:Int)<0)=false:=rfl
   have q2:decide ((0:Int) ≥ (([q1e.mk (cells.length:Int) 0].length:Nat):Int))=false:=rfl
   have w1:IntKind.i64.wrap ((0:Int)+1)=1:=wr (by omega) (by omega)
   simp only [q3c,q1,q2,zD,q02,mk,q44,hb,w1]
   rw [needO,if_pos (by simp),needO,if_pos (by simp),needO,if_pos (by simp),needO,if_pos (by simp)]
   simp
  simp only [Bool.not_true,zD,qbt,q02,l1,l2,m1,qfe,a1,a2,js,j1,v1,hu]
  cases hres:(qhb (mtO n h) n [((0:Int),(a.Nodes.length:Int))] cells id (fun _=>0)).1 with
  | true =>
   rw [hres] at hpr
   obtain ⟨tl',t',r1,r2,r3,r4⟩:=k1 hres
   have hCl:=j2 hres
   simp only [zO,zS,List.nil_append] at r1 r4
   have htr:tot (qhb (mtO n h) n [((0:Int),(a.Nodes.length:Int))] cells id (fun _=>0)).2.1≤1000:=by simp only [zO,zS] at u1; omega
   have hD':D'≤1000:=by simp only [zO,zS] at u1; omega
   obtain ⟨P2,g1⟩:=z2j u2 htr (by omega) hD' hCl (n:=n) (by omega) hin0 h.Types h.Feats
   have rd1:=qi1 u2 htr (by omega) hD' (n:=n) (by omega) hin0 h.Types h.Feats tl' [q1e.mk (cells.length:Int) 0]
   have rd2:=qi1 u2 htr (by omega) hD' (n:=n) (by omega) hinb h.Types h.Feats tl' [q1e.mk (cells.length:Int) 0]
   have hcg:=z3c (n:=n) (by omega) (c:=(qhb (mtO n h) n [((0:Int),(a.Nodes.length:Int))] cells id (fun _=>0)).2.1) (hpr rfl _ (List.mem_cons_self))
   have hsm:=qvo (B:=0) u2 htr (by omega) (n:=n) (by omega) hin0
   have heq:=qq9 hsm hsm hn
   rw [qp9.2 rfl] at heq
   have e0:((0:Int) == 0)=true:=rfl
   have hbk:=quc (p7:=[]) (by simp) n tl' (qhb (mtO n h) n [((0:Int),(a.Nodes.length:Int))] cells id (fun _=>0)).2.1 (by omega) (by omega) u2.len r3
   rw [r2] at hbk
   have hun:=undo _ tl' hbk
   simp only at hcg
   simp only [Bool.not_true,zD,q02,g1,r1,beq_self_eq_true,rd1,rd2,← hcg,heq,e0,zC,hun,v1,hsame,hex]
  | false =>
   obtain ⟨t',r1⟩:=k2 hres
   simp only [List.nil_append] at r1
   have rd1:=qi1 hp0 (by omega) (by omega) (by omega) (n:=n) (by omega) hin0 h.Types h.Feats [] [q1e.mk (cells.length:Int) 0]
   have rd2:=qi1 hp0 (by omega) (by omega) (by omega) (n:=n) (by omega) hinb h.Types h.Feats [] [q1e.mk (cells.length:Int) 0]
   have hbk:=quc (p7:=[]) (by simp) n [] cells (by simp; omega) (by simp) hlen (fun x hx=>by cases hx)
   have hun:=undo cells [] hbk
   simp only [Bool.not_false,Bool.not_true,zC,zD,q02,r1,beq_self_eq_true,rd1,rd2,v1,hsame,hun,hex]
end Go.Proofs
end
