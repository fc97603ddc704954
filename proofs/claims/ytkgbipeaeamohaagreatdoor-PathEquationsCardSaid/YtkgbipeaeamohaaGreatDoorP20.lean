/-
  Texts of the walk: Q3 Q5.
-/
import Derived.Test.YtkgbipeaeamohaaGreatDoorP19
set_option linter.unusedSimpArgs false
set_option linter.unusedVariables false
section
namespace Go.Proofs
open Go Go.Rx Go.Vx Go.Shelf Go.Sort
set_option maxRecDepth 10000
theorem qe0 {β:Type} {p:Prop} [Decidable p] {k:Option β} (h:p):q19 p k=k:=if_pos h
theorem qsi {n:Nat} {p:List Int} (h:p.length≤1000000):q3e n p=some p:=by
 unfold q3e
 cases p with
 | nil=>rfl
 | cons x p =>
  simp only [qym,cond_false]
  rw [qe0 (by simp only [List.length_cons] at *; omega)]
theorem qxn {N:Nat} {D:DP} {v:Int} (h:0≤v∧v<(N:Int)):qgs (qj9 N D) 0 N v=some (decide (v∈D.map Prod.fst)):=qwu _ h
theorem qrv {N:Nat} {D:DP} {v:Int} (h:0≤v∧v<(N:Int)):qgs (qis N D) 0 N v=some (fp D v):=qwu _ h
theorem qod (N:Nat) (D:DP):(qis N D).length=N:=by simp [qis,qch]
theorem qtb {N:Nat} {D:DP} {v:Int} (h:0≤v∧v<(N:Int)):q0u (qis N D) v=some (fp D v):=by
 rw [q0u,if_pos (by rw [qod]; exact h),qis,List.getElem?_map,z0w h]
 rfl
theorem qso (p:List Int):∀ (l:List q12) (D:DP),∃ t,l.foldl (qbz p) D=D++t
 | [],D=>⟨[],by simp⟩
 | a::l,D=>by
  obtain ⟨t,ht⟩:=qso p l (qbz p D a)
  rw [List.foldl_cons,ht]
  unfold qbz
  by_cases h:a.To∈D.map Prod.fst
  ·rw [if_pos h]; exact ⟨t,rfl⟩
  ·rw [if_neg h]; exact ⟨_,List.append_assoc _ _ _⟩
theorem bn {a b:Nat} (h:a≤1000) (hb:b≤32):a*b≤140737488355328∧a≤140737488355328:=by
 have:a*b≤1000*32:=Nat.mul_le_mul h hb
 omega
theorem z0s {f:GFS} (hg:GOK f) (hN:f.Nodes.length≤900) {i:Nat} {v:Int} {p:List Int} (hal:(nd f v).Arcs.length≤900) {n:Nat} {l23:List (List Int)} {rc2:Int→List (List Int)→List Int→List Bool→List (List Int)→Option (List (List Int))} {x32:Int} {x34:List Int} :
  ∀ (m k:Nat) (D:DP),(nd f v).Arcs.length - k<m→k≤(nd f v).Arcs.length→BIn f i v p ((nd f v).Arcs.drop k) D →
   q3f n f.Nodes i l23 rc2 x32 x34 (nd f v) m k (D.map Prod.snd) (D.map Prod.fst) (qj9 f.Nodes.length D)=q6f i l23 rc2 x32 x34 ((((nd f v).Arcs.drop k).foldl (qbz p) D).map Prod.snd) ((((nd f v).Arcs.drop k).foldl (qbz p) D).map Prod.fst) (qj9 f.Nodes.length (((nd f v).Arcs.drop k).foldl (qbz p) D))
 | 0,k,D,hm,_,_=>by omega
 | m+1,k,D,hm,hk,h=>by
  have hlt:=h.lt
  have hb:=h.bnd
  have hpl:=h.pl
  unfold q3f
  by_cases hkl:k<(nd f v).Arcs.length
  ·obtain ⟨a,ha,ham⟩:=q4i hkl
   rw [drop_cons' ha] at h ⊢
   have hai:=(hg _ (q6d (h.ing _ h.mem)).2).arc a ham
   have hst:=h.step hg
   have ih:=z0s hg hN hal (n:=n) (l23:=l23) (rc2:=rc2) (x32:=x32) (x34:=x34) m (k+1) (qbz p D a) (by omega) (by omega) hst
   simp only [dlt hkl,cond_true,q1r,ha,q0q,Int.toNat_natCast,qxn ⟨hai.2.1,hai.2.2⟩,List.foldl_cons,q6e,wr1 hkl (show (nd f v).Arcs.length≤9223372036854775807 by omega)]
   by_cases hmem:a.To∈D.map Prod.fst
   ·have e:qbz p D a=D:=if_pos hmem
    rw [e] at ih ⊢
    simp only [hmem,decide_true,Bool.not_true,cond_false]
    exact ih
   ·have e:qbz p D a=D++[(a.To,p++[a.Feat])]:=if_neg hmem
    have hp:(D.map Prod.snd)[i]? = some p:=by rw [List.getElem?_map,h.at_i]; rfl
    simp only [hmem,decide_false,Bool.not_false,cond_true,q0q,hp,qsi (n:=n) (show p.length≤1000000 by omega),List.length_map,List.length_cons,List.length_nil]
    rw [qe0 (bn (show D.length+1≤1000 by omega) (by omega)),qe0 (bn (show p.length+(0+1)≤1000 by omega) (by omega)),qe0 (bn (show D.length+1≤1000 by omega) (by omega)),qox (p++[a.Feat]) ⟨hai.2.1,hai.2.2⟩]
    rw [e] at ih
    rw [e,← ih]
    simp only [List.map_append,List.map_cons,List.map_nil]
  ·simp only [qjw hkl,cond_false]
   rw [drop_nil' hkl]
   rfl
theorem qy4 {D:DP} {i:Nat} {e:Int×List Int} (he:D[i]? = some e) (p:List Int) (l:List q12):(l.foldl (qbz p) D).take (i+1)=D.take i++[(e.1,e.2)]:=by
 obtain ⟨t,ht⟩:=qso p l D
 have:=(List.getElem?_eq_some_iff.1 he).1
 rw [ht,List.take_append_of_le_length (by omega),qcb he]
theorem qzd {D:DP} (hn:(D.map Prod.fst).Nodup) {i:Nat} {e:Int×List Int} (he:D[i]? = some e):e.1 ∉ (D.take i).map Prod.fst:=by
 have h1:D=D.take i++e::D.drop (i+1):=by rw [← drop_cons' he,List.take_append_drop]
 rw [h1,List.map_append,List.nodup_append] at hn
 intro hm
 exact hn.2.2 _ hm _ (by simp) rfl
theorem z0r {f:GFS} (hg:GOK f) (hup:∀ x∈f.Nodes,UpA x.Arcs) (hs:Small f 900) {n:Nat} (hn:900<n):∀ (m k i:Nat) (D:DP),BI f i D→f.Nodes.length - i<m→f.Nodes.length - i<k →
  q28 f n f.Nodes m i (D.map Prod.snd) (D.map Prod.fst) (qj9 f.Nodes.length D) (qis f.Nodes.length (D.take i))=some (qis f.Nodes.length (bfs f k i D))
 | 0,k,i,D,_,hm,_=>by omega
 | m+1,0,i,D,_,_,hk=>by omega
 | m+1,k+1,i,D,h,hm,hk=>by
  have hN:=hs.nodes
  have hb:=h.bnd
  have hle:=h.le
  unfold q28 bfs
  cases he:D[i]? with
  | none =>
   have:=List.getElem?_eq_none_iff.1 he
   have e1:decide ((i:Int)<((D.map Prod.fst).length:Int))=false:=by rw [List.length_map]; exact qjw (by omega)
   simp only [e1,cond_false,q91,qod]
   rw [qe0 (by omega),List.take_of_length_le (by omega)]
  | some e =>
   have hlt:=(List.getElem?_eq_some_iff.1 he).1
   have hm':=List.mem_of_getElem? he
   have hin:=h.ing e hm'
   have h1:=h.into he (hup _ (q6d hin).2)
   have e1:decide ((i:Int)<((D.map Prod.fst).length:Int))=true:=by rw [List.length_map]; exact dlt hlt
   have hx:(D.map Prod.fst)[i]? = some e.1:=by rw [List.getElem?_map,he]; rfl
   have hy:(D.map Prod.snd)[i]? = some e.2:=by rw [List.getElem?_map,he]; rfl
   have hal:=hs.arcs _ (q6d hin).2
   have h2:=z0s hg hN hal (n:=n) (l23:=qis f.Nodes.length (D.take i)) (rc2:=q28 f n f.Nodes m) (x32:=e.1) (x34:=e.2) n 0 D (by omega) (by omega) (by rw [List.drop_zero]; exact h1)
   rw [Int.ofNat_zero,List.drop_zero] at h2
   have ih:=z0r hg hup hs hn m k (i+1) _ (h1.fold hg).out (by omega) (by omega)
   simp only [e1,cond_true,q1r,hx,hy,q0q,Int.toNat_natCast,qrv hin,q92,(q6d hin).1]
   rw [h2]
   simp only [q6f,wr1 hlt (show D.length≤9223372036854775807 by omega)]
   rw [qrw hin (qzd h.nod he),← qy4 he e.2 (nd f e.1).Arcs]
   exact ih
theorem z1l {N:Nat} (h:0<N):(List.replicate N false).set (0:Int).toNat true=qj9 N [(0,[])]:=by
 have h1:List.replicate N false=qj9 N []:=by
  apply List.ext_getElem?
  intro i
  by_cases hi:i<N
  ·simp [qj9,List.getElem?_replicate,qcg hi,hi]
  ·rw [List.getElem?_eq_none (by simp; omega),List.getElem?_eq_none (by simp [qj9,qch]; omega)]
 rw [h1]
 exact qox [] ⟨by omega,by omega⟩
theorem out_0 (N:Nat):List.replicate N ([]:List Int)=qis N []:=by
 apply List.ext_getElem?
 intro i
 by_cases hi:i<N
 ·simp [qis,List.getElem?_replicate,qcg hi,hi,fp]
 ·rw [List.getElem?_eq_none (by simp; omega),List.getElem?_eq_none (by simp [qis,qch]; omega)]
theorem VOK.s9 {f:GFS} (h:VOK f):Small f 900:=h.s.up (by omega)
theorem qce {f:GFS} (h:VOK f) {n:Nat} (hn:1000≤n):q9r n f=some (qis f.Nodes.length (z0o f)):=by
 have hN:=h.s.nodes
 have hp:=h.pos
 have h1:=z0r h.g h.up h.s9 (n:=n) (by omega) n (f.Nodes.length+1) 0 _ (BI.start h.root) (by omega) (by omega)
 have hz:qgs (List.replicate f.Nodes.length false) 0 f.Nodes.length 0=some false:=by
  rw [qgs,if_pos ⟨by omega,by omega⟩]
  simp [List.getElem?_replicate,hp]
 rw [Int.ofNat_zero,List.take_zero,← out_0] at h1
 simp only [q9r,q7j,q0q,Int.toNat_natCast,hz]
 rw [qe0 (by omega),qe0 (by omega),z1l hp]
 exact h1
theorem qxm {f:GFS} (hg:GOK f) (hN:f.Nodes.length≤900) {i:Nat} {v:Int} {p:List Int} (hal:(nd f v).Arcs.length≤900) {rc:Int→List Int→List Bool→List (List Int)→Option (List (List Int))} :
  ∀ (m k:Nat) (D:DP),(nd f v).Arcs.length - k<m→k≤(nd f v).Arcs.length→BIn f i v p ((nd f v).Arcs.drop k) D →
   q5h f i rc (nd f v) m k (D.map Prod.fst) (qj9 f.Nodes.length D) (qis f.Nodes.length D)=qbx i rc ((((nd f v).Arcs.drop k).foldl (qbz p) D).map Prod.fst) (qj9 f.Nodes.length (((nd f v).Arcs.drop k).foldl (qbz p) D)) (qis f.Nodes.length (((nd f v).Arcs.drop k).foldl (qbz p) D))
 | 0,k,D,hm,_,_=>by omega
 | m+1,k,D,hm,hk,h=>by
  have hlt:=h.lt
  have hb:=h.bnd
  have hpl:=h.pl
  unfold q5h
  by_cases hkl:k<(nd f v).Arcs.length
  ·obtain ⟨a,ha,ham⟩:=q4i hkl
   rw [drop_cons' ha] at h ⊢
   have hin:=h.ing _ h.mem
   have hai:=(hg _ (q6d hin).2).arc a ham
   have hst:=h.step hg
   have ih:=qxm hg hN hal (rc:=rc) m (k+1) (qbz p D a) (by omega) (by omega) hst
   simp only [dlt hkl,cond_true,q1r,ha,q0q,Int.toNat_natCast,qxn ⟨hai.2.1,hai.2.2⟩,qrv ⟨hai.2.1,hai.2.2⟩,List.foldl_cons,qbw,wr1 hkl (show (nd f v).Arcs.length≤9223372036854775807 by omega)]
   by_cases hmem:a.To∈D.map Prod.fst
   ·have e:qbz p D a=D:=if_pos hmem
    rw [e] at ih ⊢
    simp only [hmem,decide_true,Bool.not_true,cond_false]
    exact ih
   ·have e:qbz p D a=D++[(a.To,p++[a.Feat])]:=if_neg hmem
    have hx:(D.map Prod.fst)[i]? = some v:=by rw [List.getElem?_map,h.at_i]; rfl
    have hfp:fp D v=p:=qsp h.nod _ h.mem
    simp only [hmem,decide_false,Bool.not_false,cond_true,q0q,hx,qrv hin,hfp,List.length_map,List.length_cons,List.length_nil]
    rw [qe0 (bn (show p.length≤1000 by omega) (by omega)),qe0 (bn (show p.length+(0+1)≤1000 by omega) (by omega)),qe0 (bn (show D.length+1≤1000 by omega) (by omega)),qox (p++[a.Feat]) ⟨hai.2.1,hai.2.2⟩,qrw ⟨hai.2.1,hai.2.2⟩ hmem]
    rw [e] at ih
    rw [e,← ih]
    simp only [List.map_append,List.map_cons,List.map_nil]
  ·simp only [qjw hkl,cond_false]
   rw [drop_nil' hkl]
   rfl
theorem qxl {f:GFS} (hg:GOK f) (hup:∀ x∈f.Nodes,UpA x.Arcs) (hs:Small f 900) {n:Nat} (hn:900<n):∀ (m k i:Nat) (D:DP),BI f i D→f.Nodes.length - i<m→f.Nodes.length - i<k →
  q5g f n m i (D.map Prod.fst) (qj9 f.Nodes.length D) (qis f.Nodes.length D)=some (qis f.Nodes.length (bfs f k i D))
 | 0,k,i,D,_,hm,_=>by omega
 | m+1,0,i,D,_,_,hk=>by omega
 | m+1,k+1,i,D,h,hm,hk=>by
  have hN:=hs.nodes
  have hb:=h.bnd
  have hle:=h.le
  unfold q5g bfs
  cases he:D[i]? with
  | none =>
   have:=List.getElem?_eq_none_iff.1 he
   have e1:decide ((i:Int)<((D.map Prod.fst).length:Int))=false:=by rw [List.length_map]; exact qjw (by omega)
   simp only [e1,cond_false,qfu,qod]
   rw [qe0 (by omega)]
  | some e =>
   have hlt:=(List.getElem?_eq_some_iff.1 he).1
   have hm':=List.mem_of_getElem? he
   have hin:=h.ing e hm'
   have h1:=h.into he (hup _ (q6d hin).2)
   have e1:decide ((i:Int)<((D.map Prod.fst).length:Int))=true:=by rw [List.length_map]; exact dlt hlt
   have hx:(D.map Prod.fst)[i]? = some e.1:=by rw [List.getElem?_map,he]; rfl
   have hal:=hs.arcs _ (q6d hin).2
   have h2:=qxm hg hN hal (rc:=q5g f n m) n 0 D (by omega) (by omega) (by rw [List.drop_zero]; exact h1)
   rw [Int.ofNat_zero,List.drop_zero] at h2
   have ih:=qxl hg hup hs hn m k (i+1) _ (h1.fold hg).out (by omega) (by omega)
   simp only [e1,cond_true,q1r,hx,q0q,(q6d hin).1]
   rw [h2]
   simp only [qbx,wr1 hlt (show D.length≤9223372036854775807 by omega)]
   exact ih
theorem qs5 {f:GFS} (h:VOK f) {n:Nat} (hn:1000≤n):qgm n f=some (qis f.Nodes.length (z0o f)):=by
 have hN:=h.s.nodes
 have hp:=h.pos
 have h1:=qxl h.g h.up h.s9 (n:=n) (by omega) n (f.Nodes.length+1) 0 _ (BI.start h.root) (by omega) (by omega)
 have hz:qgs (List.replicate f.Nodes.length false) 0 f.Nodes.length 0=some false:=by
  rw [qgs,if_pos ⟨by omega,by omega⟩]
  simp [List.getElem?_replicate,hp]
 have hn0:(0:Int) ∉ ([]:DP).map Prod.fst:=by simp
 have ho:qis f.Nodes.length [(0,[])]=List.replicate f.Nodes.length []:=by
  have:=qrw (N:=f.Nodes.length) (D:=[]) (w:=0) (q:=[]) ⟨by omega,by omega⟩ hn0
  rw [List.nil_append] at this
  rw [← this,← out_0]
  cases hL:f.Nodes.length with
  | zero=>omega
  | succ k=>simp [List.replicate_succ]
 rw [Int.ofNat_zero,ho] at h1
 simp only [qgm,q0q,Int.toNat_natCast,hz]
 rw [qe0 (by omega),qe0 (by omega),z1l hp]
 exact h1
def shA (F:DP) (p:List Int) (l:List q12):List q0g:=l.flatMap fun a=>if p++[a.Feat]=fp F a.To then [] else [⟨fp F a.To,p++[a.Feat]⟩]
def shN (f:GFS) (F:DP) (l:List Int):List q0g:=l.flatMap fun v=>shA F (fp F v) (nd f v).Arcs
def qk5 (f:GFS):List q0g:=shN f (z0o f) (idN f.Nodes.length)
theorem qoy (F:DP) (p:List Int) (a:q12) (l:List q12):shA F p (a::l)=(if p++[a.Feat]=fp F a.To then [] else [⟨fp F a.To,p++[a.Feat]⟩])++shA F p l:=rfl
theorem qsb (F:DP) (p:List Int):∀ l:List q12,(shA F p l).length≤l.length
 | []=>by simp [shA]
 | a::l=>by
  have:=qsb F p l
  rw [qoy,List.length_append]
  split<;>simp<;>omega
theorem FOK.fpl {f:GFS} {D:DP} (h:FOK f D) {v:Int} (hv:InG f v):(v,fp D v)∈D∧(fp D v).length≤f.Nodes.length:=by
 have h1:=fp_in h.nod (h.all v hv)
 have:=h.len _ h1
 have:=h.toBI.bnd
 exact ⟨h1,by simp only at *; omega⟩
theorem z01 {f:GFS} (hg:GOK f) (hN:f.Nodes.length≤900) {F:DP} (hF:FOK f F) {i:Nat} (hi:i<f.Nodes.length) (hal:(nd f i).Arcs.length≤900) {n:Nat} (hn:1000≤n) {rc:Int→List q0g→Option (List q0g)} :
  ∀ (m k:Nat) (acc:List q0g),(nd f i).Arcs.length - k<m→k≤(nd f i).Arcs.length→acc.length+((nd f i).Arcs.length - k)≤900 →
   q2u n (qis f.Nodes.length F) i rc (nd f i) m k acc=q5f i rc (acc++shA F (fp F i) ((nd f i).Arcs.drop k)) ∧
   q4s n (qis f.Nodes.length F) i rc (nd f i) m k acc=qah i rc (acc++shA F (fp F i) ((nd f i).Arcs.drop k))
 | 0,k,acc,hm,_,_=>by omega
 | m+1,k,acc,hm,hk,hac=>by
  have hin:InG f (i:Int):=⟨by omega,by omega⟩
  unfold q2u q4s
  by_cases hkl:k<(nd f i).Arcs.length
  ·obtain ⟨a,ha,ham⟩:=q4i hkl
   have hai:=(hg _ (q6d hin).2).arc a ham
   have hto:InG f a.To:=⟨hai.2.1,hai.2.2⟩
   have l1:=(hF.fpl hin).2
   have l2:=(hF.fpl hto).2
   have hl:(fp F i++[a.Feat]).length≤901:=by simp; omega
   rw [drop_cons' ha,qoy]
   simp only [dlt hkl,cond_true,q1r,ha,q0q,q5e,qag,wr1 hkl (show (nd f i).Arcs.length≤9223372036854775807 by omega),qtb hto]
   have h3:(qis f.Nodes.length F)[i]? = some (fp F i):=by rw [← q1r]; exact qtb hin
   simp only [h3,q0q,qsi (n:=n) (show (fp F i).length≤1000000 by omega),qz1 (p:=fp F i++[a.Feat]) (q:=fp F a.To) (n:=n) (by omega) (by omega),z2v (p:=fp F i++[a.Feat]) (q:=fp F a.To) (n:=n) (by omega) (by omega),List.length_cons,List.length_nil]
   rw [qe0 (bn (show (fp F i).length+(0+1)≤1000 by omega) (by omega)),qe0 (bn (show (fp F i).length≤1000 by omega) (by omega)),qe0 (bn (show (fp F i).length+(0+1)≤1000 by omega) (by omega))]
   by_cases e:fp F i++[a.Feat]=fp F a.To
   ·have:=z01 hg hN hF hi hal hn (rc:=rc) m (k+1) acc (by omega) (by omega) (by omega)
    rw [if_pos e,List.nil_append]
    simp only [e,decide_true,Bool.not_true,cond_false]
    exact this
   ·have:=z01 hg hN hF hi hal hn (rc:=rc) m (k+1) (acc++[⟨fp F a.To,fp F i++[a.Feat]⟩]) (by omega) (by omega) (by simp; omega)
    have hb:(acc.length+1)*48≤140737488355328∧acc.length+1≤140737488355328:=by omega
    rw [if_neg e]
    simp only [e,decide_false,Bool.not_false,cond_true]
    rw [qe0 hb,qe0 hb,← List.append_assoc]
    exact this
  ·simp only [qjw hkl,cond_false]
   rw [drop_nil' hkl]
   simp [shA]
theorem sh_L1 {f:GFS} (h:VOK f) {F:DP} (hF:FOK f F) {n:Nat} (hn:1000≤n) :
  ∀ (m i:Nat) (acc:List q0g),f.Nodes.length - i<m→i≤f.Nodes.length→acc.length≤12*i →
   q26 f n (qis f.Nodes.length F) m i acc=some (acc++shN f F ((idN f.Nodes.length).drop i)) ∧
   q4r f n (qis f.Nodes.length F) m i acc=some (acc++shN f F ((idN f.Nodes.length).drop i))
 | 0,i,acc,hm,_,_=>by omega
 | m+1,i,acc,hm,hi,hac=>by
  have hN:=h.s.nodes
  unfold q26 q4r
  by_cases hlt:i<f.Nodes.length
  ·have hin:InG f (i:Int):=⟨by omega,by omega⟩
   have hal:=h.s.arcs _ (q6d hin).2
   have h1:=z01 h.g (by omega) hF hlt (by omega) hn (rc:=q26 f n (qis f.Nodes.length F) m) n 0 acc (by omega) (by omega) (by omega)
   have h2:=z01 h.g (by omega) hF hlt (by omega) hn (rc:=q4r f n (qis f.Nodes.length F) m) n 0 acc (by omega) (by omega) (by omega)
   have hl:=qsb F (fp F i) (nd f i).Arcs
   have ih:=sh_L1 h hF hn m (i+1) (acc++shA F (fp F i) (nd f i).Arcs) (by omega) (by omega) (by rw [List.length_append]; omega)
   rw [Int.ofNat_zero,List.drop_zero] at h1 h2
   have hd:shN f F ((idN f.Nodes.length).drop i)=shA F (fp F i) (nd f i).Arcs++shN f F ((idN f.Nodes.length).drop (i+1)):=by rw [drop_cons' (qcg hlt)]; rfl
   simp only [dlt hlt,cond_true,q0q,(q6d hin).1,h1.1,h2.2,q5f,qah,wr1 hlt (show f.Nodes.length≤9223372036854775807 by omega),hd]
   rw [← List.append_assoc]
   exact ih
  ·simp only [qjw hlt,cond_false,q7i,qet]
   rw [List.drop_eq_nil_of_le (by rw [qch]; omega)]
   simp [shN]
theorem qxq {f:GFS} (h:VOK f) {n:Nat} (hn:1000≤n):q5u n f=some (qk5 f)∧qjo n f=some (qk5 f):=by
 have hN:=h.s.nodes
 have h1:=sh_L1 h (qw6 h) hn n 0 [] (by omega) (by omega) (by simp)
 rw [Int.ofNat_zero,List.drop_zero,List.nil_append] at h1
 simp only [q5u,qjo,qce h hn,qs5 h hn,q0q]
 exact h1
theorem z1n {f:GFS} (h:VOK f) {F:DP} (hF:FOK f F):∀ {l:List Int},(∀ v∈l,InG f v)→(∀ x∈shN f F l,∃ v a,InG f v∧a∈(nd f v).Arcs∧x=⟨fp F a.To,fp F v++[a.Feat]⟩)∧(shN f F l).length≤12*l.length
 | [],_=>by simp [shN]
 | v::l,hl=>by
  have hv:=hl v (by simp)
  obtain ⟨i1,i2⟩:=z1n h hF (l:=l) fun u hu=>hl u (by simp [hu])
  have e:shN f F (v::l)=shA F (fp F v) (nd f v).Arcs++shN f F l:=rfl
  have:=qsb F (fp F v) (nd f v).Arcs
  have:=h.s.arcs _ (q6d hv).2
  rw [e]
  refine ⟨fun x hx=>?_,by rw [List.length_append,List.length_cons]; omega⟩
  rcases List.mem_append.1 hx with hx | hx
  ·obtain ⟨a,ha,hx⟩:=List.mem_flatMap.1 hx
   split at hx
   ·cases hx
   ·simp at hx
    exact ⟨v,a,hv,ha,hx⟩
  ·exact i1 x hx
theorem qnh {f:GFS}:∀ v∈idN f.Nodes.length,InG f v:=fun v hv=>by
 obtain ⟨i,hi,rfl⟩:=List.mem_map.1 hv
 have:=List.mem_range.1 hi
 exact ⟨by omega,by omega⟩
end Go.Proofs
end
section
namespace Go.Proofs
open Go Go.Rx Go.Vx Go.Shelf Go.Sort
set_option maxRecDepth 10000
theorem qt9:∀ {a b:List Int},a.Nodup→(∀ x∈a,x∈b)→a.length≤b.length
 | [],b,_,_=>by simp
 | x::a,b,hn,hs=>by
  obtain ⟨h1,h2⟩:=List.nodup_cons.1 hn
  have h3:=qt9 (b:=b.erase x) h2 fun y hy=>by
   have:y≠x:=fun e=>h1 (e ▸ hy)
   exact (List.mem_erase_of_ne this).2 (hs y (List.mem_cons_of_mem x hy))
  have h4:=List.length_erase_of_mem (hs x (by simp))
  have h5:=List.length_pos_of_mem (hs x (by simp))
  simp only [List.length_cons]
  omega
theorem idN_nd (f:GFS):(idN f.Nodes.length).map (nd f)=f.Nodes:=by
 apply List.ext_getElem?
 intro i
 by_cases hi:i<f.Nodes.length
 ·have h5:=(q6d (f:=f) (v:=(i:Int)) ⟨by omega,by omega⟩).1
  rw [q1r] at h5
  rw [List.getElem?_map,qcg hi,Option.map_some,h5]
 ·rw [List.getElem?_eq_none (by simp [idN]; omega),List.getElem?_eq_none (by omega)]
theorem qzb {f:GFS} {F:DP} (h:VOK f) (hF:FOK f F) {v:Int} (hv:InG f v):atG f (fp F v) 0=some v:=hF.at_ _ (hF.fpl hv).1
theorem fp_inj {f:GFS} {F:DP} (h:VOK f) (hF:FOK f F) {v w:Int} (hv:InG f v) (hw:InG f w) (e:fp F v=fp F w):v=w:=by
 have h1:=qzb h hF hv
 rw [e,qzb h hF hw] at h1
 exact (Option.some.inj h1).symm
theorem z0e {f:GFS} {F:DP} (h:VOK f) (hF:FOK f F) {v:Int} (hv:InG f v) {a:q12} (ha:a∈(nd f v).Arcs):InG f a.To:=by
 have:=(h.g _ (q6d hv).2).arc a ha
 exact ⟨this.2.1,this.2.2⟩
theorem fp_arc {f:GFS} {F:DP} (h:VOK f) (hF:FOK f F) {v:Int} (hv:InG f v) {a:q12} (ha:a∈(nd f v).Arcs):atG f (fp F v++[a.Feat]) 0=some a.To:=by
 rw [qre (qzb h hF hv)]
 exact qve (h.g _ (q6d hv).2).dis ha
def qyf (F:DP) (p:List Int) (l:List q12):List Int:=(l.filter fun a=>decide (p++[a.Feat]=fp F a.To)).map q12.To
def qv0 (f:GFS) (F:DP) (l:List Int):List Int:=l.flatMap fun v=>qyf F (fp F v) (nd f v).Arcs
theorem qy5 (F:DP) (p:List Int):∀ l:List q12,l.length=(shA F p l).length+(qyf F p l).length
 | []=>by simp [shA,qyf]
 | a::l=>by
  have:=qy5 F p l
  rw [qoy,List.length_append,List.length_cons]
  by_cases e:p++[a.Feat]=fp F a.To
  ·rw [if_pos e,qyf,List.filter_cons_of_pos (by simpa using e)]
   simp only [qyf,List.length_map,List.map_cons,List.length_cons,List.length_nil] at *
   omega
  ·rw [if_neg e,qyf,List.filter_cons_of_neg (by simpa using e)]
   simp only [qyf,List.length_map,List.length_cons,List.length_nil] at *
   omega
theorem qtz (f:GFS) (F:DP):∀ l:List Int,(l.map fun v=>(nd f v).Arcs.length).sum=(shN f F l).length+(qv0 f F l).length
 | []=>by simp [shN,qv0]
 | v::l=>by
  have h1:=qtz f F l
  have h2:=qy5 F (fp F v) (nd f v).Arcs
  have e1:shN f F (v::l)=shA F (fp F v) (nd f v).Arcs++shN f F l:=rfl
  have e2:qv0 f F (v::l)=qyf F (fp F v) (nd f v).Arcs++qv0 f F l:=rfl
  rw [e1,e2,List.map_cons,List.sum_cons,List.length_append,List.length_append]
  omega
theorem qp5 {f:GFS} {F:DP} {l:List Int} {w:Int}:w∈qv0 f F l↔∃ v∈l,∃ a∈(nd f v).Arcs,a.To=w∧fp F v++[a.Feat]=fp F w:=by
 unfold qv0 qyf
 simp only [List.mem_flatMap,List.mem_map,List.mem_filter,decide_eq_true_eq]
 constructor
 ·rintro ⟨v,hv,a,⟨ha,e⟩,rfl⟩; exact ⟨v,hv,a,ha,rfl,e⟩
 ·rintro ⟨v,hv,a,ha,rfl,e⟩; exact ⟨v,hv,a,⟨ha,e⟩,rfl⟩
theorem qtu {p q:List Int} {x y:Int} (h:p++[x]=q++[y]):p=q∧x=y:=by
 have:=List.append_inj' h rfl
 exact ⟨this.1,by simpa using this.2⟩
theorem qv1 {f:GFS} {F:DP} (h:VOK f) (hF:FOK f F):(qv0 f F (idN f.Nodes.length)).length+1=f.Nodes.length:=by
 have hpos:=h.pos
 have hnod:(qv0 f F (idN f.Nodes.length)).Nodup:=by
  unfold qv0 List.Nodup
  rw [List.pairwise_flatMap]
  constructor
  ·intro v hv
   have hvi:=qnh v hv
   have hd:=(h.g _ (q6d hvi).2).dis
   unfold qyf
   rw [List.pairwise_map,List.pairwise_filter]
   refine hd.imp fun {a b} hab ha hb e=>?_
   simp only [decide_eq_true_eq] at ha hb
   rw [e] at ha
   exact hab (qtu (ha.trans hb.symm)).2
  ·have hid:(idN f.Nodes.length).Nodup:=by
    have:=(qct h.g h.root).1.seen.nd
    have e:=qlr h.g h.root
    rw [h.c] at e
    rwa [e] at this
   refine List.Pairwise.imp_of_mem ?_ hid
   intro v w hv hw hne x hx y hy e
   subst e
   obtain ⟨a,ha,rfl⟩:=List.mem_map.1 hx
   obtain ⟨b,hb,e2⟩:=List.mem_map.1 hy
   have h1:=(List.mem_filter.1 ha).2
   have h2:=(List.mem_filter.1 hb).2
   simp only [decide_eq_true_eq] at h1 h2
   rw [e2] at h2
   exact hne (fp_inj h hF (qnh v hv) (qnh w hw) (qtu (h1.trans h2.symm)).1)
 have h0:(0:Int) ∉ qv0 f F (idN f.Nodes.length):=fun hm=>by
  obtain ⟨v,hv,a,ha,e1,e2⟩:=qp5.1 hm
  obtain ⟨t,ht⟩:=hF.hd
  have:fp F 0=[]:=by rw [ht]; rfl
  rw [this] at e2
  simp at e2
 have hin:∀ w∈qv0 f F (idN f.Nodes.length),InG f w:=fun w hw=>by
  obtain ⟨v,hv,a,ha,rfl,_⟩:=qp5.1 hw
  exact z0e h hF (qnh v hv) ha
 have hle:=q9z f.Nodes.length (o:=0::qv0 f F (idN f.Nodes.length)) (List.nodup_cons.2 ⟨h0,hnod⟩) fun w hw=>by
  rcases List.mem_cons.1 hw with rfl | hw
  ·exact h.root
  ·exact hin w hw
 have hge:=qt9 (a:=idN f.Nodes.length) (b:=0::qv0 f F (idN f.Nodes.length)) (by
  have:=(qct h.g h.root).1.seen.nd
  have e:=qlr h.g h.root
  rw [h.c] at e
  rwa [e] at this) fun w hw=>by
  have hwi:=qnh w hw
  have hm:=(hF.fpl hwi).1
  rcases hF.par _ hm with e | ⟨d,hd,a,ha,e⟩
  ·rw [Prod.mk.injEq] at e; rw [e.1]; simp
  ·rw [Prod.mk.injEq] at e
   refine List.mem_cons_of_mem _ (qp5.2 ⟨d.1,?_,a,ha,e.1.symm,?_⟩)
   ·have:=hF.ing d hd
    refine List.mem_map.2 ⟨d.1.toNat,List.mem_range.2 ?_,?_⟩<;>have:=this.1<;>have:=hF.ing d hd<;>have:=this.2<;>omega
   ·rw [qsp hF.nod d hd]; exact e.2.symm
 rw [qch,List.length_cons] at hge
 rw [List.length_cons] at hle
 omega
theorem z0m {f:GFS} (h:VOK f) {n:Nat}:∀ (m i s:Nat),f.Nodes.length - i<m→i≤f.Nodes.length→s≤12*i →
  q1s f n m s i=q2c f n ((s+((f.Nodes.drop i).map fun x=>x.Arcs.length).sum:Nat):Int)
 | 0,i,s,hm,_,_=>by omega
 | m+1,i,s,hm,hi,hs=>by
  have hN:=h.s.nodes
  unfold q1s
  by_cases hlt:i<f.Nodes.length
  ·obtain ⟨x,hx,hxm⟩:=q4i hlt
   have hal:=h.s.arcs x hxm
   have hw:IntKind.i64.wrap ((s:Int)+(x.Arcs.length:Int))=((s+x.Arcs.length:Nat):Int):=wrn (by omega) (by omega)
   have ih:=z0m h (n:=n) m (i+1) (s+x.Arcs.length) (by omega) (by omega) (by omega)
   simp only [dlt hlt,cond_true,q1r,hx,q0q,wr1 hlt (show f.Nodes.length≤9223372036854775807 by omega),hw]
   rw [ih,drop_cons' hx,List.map_cons,List.sum_cons,Nat.add_assoc]
  ·simp only [qjw hlt,cond_false]
   rw [drop_nil' hlt]
   simp
theorem qo1 (f:GFS) {n:Nat} (hn:3000000≤n):q3w n f=some true:=by
 obtain ⟨b,h1,h2⟩:=z09 (f:=f) hn
 have hex:=ex_n (show 200≤n by omega)
 simp only [q3w,h1,hex,q0q]
 cases b with
 | false=>simp [q0q]
 | true =>
  have hv:=h2 rfl
  have hN:=hv.s.nodes
  have hpos:=hv.pos
  have hF:=qw6 hv
  have e1:=z0m hv (n:=n) n 0 0 (by omega) (by omega) (by omega)
  rw [Int.ofNat_zero,List.drop_zero,Nat.zero_add] at e1
  simp only [Bool.not_true,cond_false]
  rw [e1]
  have hsum:((f.Nodes.map fun x=>x.Arcs.length).sum)=(qk5 f).length+(f.Nodes.length - 1):=by
   have h3:=qtz f (z0o f) (idN f.Nodes.length)
   have h4:=qv1 hv hF
   have h5:(idN f.Nodes.length).map (fun v=>(nd f v).Arcs.length)=f.Nodes.map fun x=>x.Arcs.length:=by
    have h6:=congrArg (List.map fun x:q0n=>x.Arcs.length) (idN_nd f)
    rw [List.map_map] at h6
    exact h6
   rw [h5] at h3
   unfold qk5
   omega
  obtain ⟨s1,s2⟩:=z1n hv hF (l:=idN f.Nodes.length) qnh
  rw [qch] at s2
  have hlen:(qk5 f).length≤144:=by unfold qk5; omega
  have w1:IntKind.i64.wrap ((f.Nodes.length:Int) - 1)=(f.Nodes.length:Int) - 1:=wr (by omega) (by omega)
  have w2:IntKind.i64.wrap ((((f.Nodes.map fun x=>x.Arcs.length).sum:Nat):Int) - ((f.Nodes.length:Int) - 1))=((qk5 f).length:Int):=by
   rw [hsum]
   exact wrn (by omega) (by omega)
  simp only [q2c,(qxq hv (show 1000≤n by omega)).1,q0q,w1,w2,bne_self_eq_false,cond_false]
  have key:∀ (m i:Nat),(qk5 f).length - i<m→i≤(qk5 f).length→q1t f n (qk5 f) m i=some true:=by
   intro m
   induction m with
   | zero=>intro i hm; omega
   | succ m ih =>
    intro i hm hi
    unfold q1t
    by_cases hlt:i<(qk5 f).length
    ·obtain ⟨x,hx,hxm⟩:=q4i hlt
     obtain ⟨v,a,i1,i2,rfl⟩:=s1 x hxm
     have hto:=z0e hv hF i1 i2
     have l1:=(hF.fpl i1).2
     have l2:=(hF.fpl hto).2
     have a1:=at_ok hv.g hv.s (by omega) hv.root (p:=fp (z0o f) a.To) (n:=n) (by omega) (by omega) (by omega)
     have a2:=at_ok hv.g hv.s (by omega) hv.root (p:=fp (z0o f) v++[a.Feat]) (n:=n) (by simp; omega) (by simp; omega) (by omega)
     rw [qzb hv hF hto] at a1
     rw [fp_arc hv hF i1 i2] at a2
     simp only [dlt hlt,cond_true,q1r,hx,q0q,a1,a2,pr,Bool.not_true,cond_false,bne_self_eq_false,wr1 hlt (show (qk5 f).length≤9223372036854775807 by omega)]
     exact ih (i+1) (by omega) (by omega)
    ·simp only [qjw hlt,cond_false,q37,hex,q0q]
  have:=key n 0 (by omega) (by omega)
  rw [Int.ofNat_zero] at this
  exact this
end Go.Proofs
end
