/-
  Texts of the walk: VxH.
-/
import Derived.Test.YtldlchbgolpkaaaGreatP5
set_option linter.unusedSimpArgs false
set_option linter.unusedVariables false
section
namespace Go.Vx
open Go Go.Rx
variable {n:Nat}
theorem qjh {b:Nat} (h1:n*b≤140737488355328) (h2:n≤140737488355328):qgd n b=true:=by
 simp [qgd,Nat.ble_eq_true_of_le h1,Nat.ble_eq_true_of_le h2]
variable {e:TypeId}
theorem qjw {s:S} {i off:Nat} {l:List Value} {md:Nat} (hl:lk s.h i=some (.inl (l,e,md))) (h:off+n≤l.length):q64 s (some ⟨i,off,none⟩) n=some ((l.drop off).take n):=by
 cases n with
 | zero=>simp [q64]
 | succ n=>simp only [q64,hl]; exact qsr h
theorem qm9 (s:S) (b:Option Addr):q64 s b 0=some []:=rfl
section
variable {T:Tb} {x:Cx} (hx:qfj x)
include hx
variable {sz:Nat}
variable {k:Nat}
variable {new:List U}
theorem qqg (hsz:0<sz) {u:U} {v:Value} (h:qqf x.σ sz u=some (k,new)) (hr:Rel x u v):∃ b c vs,qfy v = .slice b k c∧(v = .slice b k c∨k=0∧b=none∧c=0∧new=[]∧∃ r,v = .chan (some r))∧q64 x.s b (k*sz)=some vs∧q1o x new vs∧okL new=true:=by
 unfold qqf at h
 cases u with
 | nils =>
  simp only [zA,zB] at h
  obtain ⟨rfl,rfl⟩:=h
  simp only [Rel] at hr
  subst hr
  exact ⟨none,0,[],rfl,.inl rfl,by rw [Nat.zero_mul]; rfl,q1o.nil x,rfl⟩
 | isl t l =>
  simp only at h
  split at h
  ·rename_i hall
   simp only [zA,zB] at h
   obtain ⟨rfl,rfl⟩:=h
   simp only [Rel] at hr
   rcases hr with ⟨rfl,rfl | ⟨r,rfl⟩⟩ | ⟨i,off,c,rfl,_,hrow⟩
   ·exact ⟨none,0,[],rfl,.inl rfl,by rw [zS,Nat.zero_mul]; rfl,q1o.nil x,rfl⟩
   ·exact ⟨none,0,[],rfl,.inr ⟨rfl,rfl,rfl,rfl,r,rfl⟩,by rw [zS,Nat.zero_mul]; rfl,q1o.nil x,rfl⟩
   ·by_cases hne:l=[]
    ·subst hne
     exact ⟨_,c,[],rfl,.inl rfl,by rw [zS,Nat.zero_mul]; rfl,q1o.nil x,rfl⟩
    ·rcases hrow with hrow | ⟨row,e,sz',g1,g2,g3⟩
     ·exact absurd hrow hne
     ·have:=z04 g2 hne hall
      subst this
      obtain ⟨f1,f2⟩:=qsi g2
      have hlen:=qly g2
      rw [List.length_drop] at hlen
      have:0<l.length*sz':=Nat.mul_pos (by cases l<;>simp_all) hsz
      exact ⟨_,c,_,rfl,.inl rfl,qjw g1 (by omega),f1,f2⟩
  ·cases h
 | sl k' off n c =>
  simp only at h
  cases hrow:rowOf x.σ k' with
  | none=>simp [hrow] at h
  | some l =>
   simp only [hrow] at h
   cases hs:qfl l off (n*sz) with
   | none=>simp [hs] at h
   | some cs =>
    simp only [hs,zA,zB] at h
    obtain ⟨rfl,rfl⟩:=h
    obtain ⟨e,hg,hl⟩:=qki hrow
    obtain ⟨i,hi,rfl,_⟩:=qex hl hr
    obtain ⟨_,k1,i',lv,e1,e2,e3⟩:=hx.ok k' _ hg
    rw [hi] at e1; cases e1
    obtain ⟨s1,s2⟩:=z0b hs e3
    obtain ⟨q1,rfl⟩:=qbp hs
    exact ⟨_,c,_,rfl,.inl rfl,qjw e2 (by rw [← e3.2]; exact q1),qnq s2,by rw [qp0]; exact qcd (q8l k1 _) _⟩
 | vl k' st off n =>
  simp only at h
  cases hv:qhc x.σ k' st with
  | none=>simp [hv] at h
  | some q =>
   obtain ⟨l,e,sz'⟩:=q
   obtain ⟨hg,hl⟩:=qh2 hv
   simp only [hv,beq_eq] at h
   by_cases hz:sz'=sz
   ·subst hz
    simp only [yC,zC] at h
    cases hs:qfl l (off*sz') (n*sz') with
    | none=>simp [hs] at h
    | some cs =>
     simp only [hs,zA,zB] at h
     obtain ⟨rfl,rfl⟩:=h
     obtain ⟨q1,rfl⟩:=qbp hs
     by_cases hn:n=0
     ·subst hn
      obtain ⟨_,_,_,_,hvl⟩:=qhx hl hr
      obtain ⟨b,c,rfl⟩:=z0u hvl
      exact ⟨b,c,[],rfl,.inl rfl,by rw [Nat.zero_mul]; rfl,by simpa using q1o.nil x,by simp [okL]⟩
     ·obtain ⟨i,l0,e0,sz0,l',h1,h2,rfl,h4,h5,h6,h7⟩:=qqn hx hl hr (by omega)
      have:=hg.symm.trans h1
      cases this
      obtain ⟨s1,s2⟩:=z0b hs h5
      exact ⟨_,_,_,rfl,.inl rfl,qjw h4 (by rw [← h5.2]; exact q1),s2,qcd (q8l h7 _) _⟩
   ·simp [hz] at h
 | _=>simp at h
omit hx in
theorem qgx {l:List U} {e:TypeId} {sz N:Nat} {c:Blk}:Rel ⟨qh9 x.ρ x.σ.nx (some x.s.nx),q8k x.σ (.vec l e sz 0),⟨(x.s.nx,c)::x.s.h,x.s.nx+1⟩⟩ (.vl x.σ.nx 0 0 N) (.slice (some ⟨x.s.nx,0,none⟩) N q05):=by
 simp only [Rel]
 refine ⟨rfl,by simp [q8k],fun b hb=>?_⟩
 simp only [q8k,q2b,if_true,zA] at hb
 subst hb
 exact ⟨zF _,fun _=>⟨l,e,sz,rfl,by simp [qh9,z0y]⟩⟩
omit hx in
theorem qi3 {e:TypeId} {sz:Nat} {o:Option Addr} (ho:∀ a,o=some a→a.spot=none):Rel ⟨qh9 x.ρ x.σ.nx none,q8k x.σ (.vec [] e sz 0),x.s⟩ (.vl x.σ.nx 0 0 0) (.slice o 0 0):=by
 simp only [Rel]
 refine ⟨rfl,by simp [q8k],fun b hb=>?_⟩
 simp only [q8k,q2b,if_true,zA] at hb
 subst hb
 exact ⟨zF _,fun _=>⟨[],e,sz,rfl,by simpa [qh9,z0y] using ho⟩⟩
variable {t:TypeId}
variable {xt:TypeId}
theorem qm4 {e2:TypeId} {by_:Nat} {z:Value} (hd:T.und t=some (.slice e)) (hd2:T.und xt=some (.slice e2)) (hi:T.inf e=some (sz+1,by_,z)) (hz:Nat.beq z.cells.toList.length (sz+1)=true)
  {o:Option Addr} (ho:∀ a,o=some a→a.spot=none) {b:Option Addr} {c:Nat} {vs:List Value} (hc:q64 x.s b (k*(sz+1))=some vs) (hr:q1o x new vs) (hk:okL new=true) (hlen:new.length=k*(sz+1)) (hroom:k*by_≤140737488355328∧k≤140737488355328) :
  ∃ v y,q63 T x.s t xt (.slice o 0 0) (.slice b k c)=some (v,y.s)∧y.σ=q8k x.σ (.vec new e (sz+1) 0)∧Rel y (.vl x.σ.nx 0 0 k) v∧Out x y:=by
 cases k with
 | zero =>
  have:new=[]:=List.eq_nil_of_length_eq_zero (by rw [hlen]; simp)
  subst this
  rw [hr.nil_inv] at hc
  refine ⟨.slice o 0 0,⟨qh9 x.ρ x.σ.nx none,q8k x.σ (.vec [] e (sz+1) 0),x.s⟩,?_,rfl,qi3 ho,qjl hx e (sz+1) (by omega)⟩
  simp only [q63,isW,qfy,zD,q53,hd,hd2,hi,hc,q78,zC,cap0]
  rfl
 | succ k =>
  refine ⟨.slice (some ⟨x.s.nx,0,none⟩) (k+1) q05,_,?_,rfl,qgx,qgt hx hr hk e (by omega)⟩
  simp only [q63,isW,qfy,zD,q53,hd,hd2,hi,hc,qbe hr hk,zC,qti,cap0,show Nat.ble (k+1) 0=false from rfl,zD,Nat.zero_mul,qm9,hz,Nat.zero_add,qjh hroom.1 hroom.2,List.nil_append,Rx.newRow]
theorem qhl {e2:TypeId} {by_:Nat} {z:Value} (hd:T.und t=some (.slice e)) (hd2:T.und xt=some (.slice e2)) (hi:T.inf e=some (sz+1,by_,z)) (hz:Nat.beq z.cells.toList.length (sz+1)=true)
  {o:Option Addr} {cp:Nat} {old:List U} {ov:List Value} (hcp:cp<q05) (hold:q64 x.s o (n*(sz+1))=some ov) (hor:q1o x old ov) (hok:okL old=true) {b:Option Addr} {c:Nat} {vs:List Value} (hc:q64 x.s b (k*(sz+1))=some vs) (hr:q1o x new vs) (hk:okL new=true)
  (hk0:0<k) (hfull:cp<n+k) (hroom:(n+k)*by_≤140737488355328∧n+k≤140737488355328) :
  ∃ v y,q63 T x.s t xt (.slice o n cp) (.slice b k c)=some (v,y.s)∧y.σ=q8k x.σ (.vec (old++new) e (sz+1) 0)∧Rel y (.vl x.σ.nx 0 0 (n+k)) v∧Out x y∧∃ b n c,v = .slice (some b) n c:=by
 cases k with
 | zero=>omega
 | succ k =>
  refine ⟨.slice (some ⟨x.s.nx,0,none⟩) (n+(k+1)) q05,_,?_,rfl,qgx,qgt hx (hor.append hr) (q66 hok hk) e (by omega),_,_,_,rfl⟩
  have h1:Nat.ble (n+(k+1)) cp=false:=by
   cases h:Nat.ble (n+(k+1)) cp with
   | false=>rfl
   | true=>have:=zY h; omega
  simp only [q63,isW,qfy,zD,q53,hd,hd2,hi,hc,qbe hr hk,zC,qti,q6n hcp,h1,zD,hold,hz,qjh hroom.1 hroom.2,Rx.newRow]
theorem qh0 {K:Nat} {l l1:List U} {st:Nat} (hg:gt x.σ.h K=some (.vec l e sz st)) (o:Option Nat) (s':S) (hrows:∀ i b,lk x.s.h i=some b→x.ρ K≠some i→lk s'.h i=some b) (hfresh:∀ i,o=some i→x.ρ K=some i∨x.s.nx≤i)
  (hbd:∀ i b,lk s'.h i=some b→i<s'.nx) (hk:okL l1=true) (hB:∀ y:Cx,y.s=s'→Mo x.σ.nx x y→l1=[]∧o=none∨∃ i l',o=some i∧lk s'.h i=some (.inl (l',e,sz+2))∧q1o y l1 l') :
  Out x ⟨qh9 x.ρ K o,⟨ug x.σ.h K (.vec l1 e sz (st+1)),x.σ.nx⟩,s'⟩:=by
 have hsz:0<sz:=(hx.ok K _ hg).2.2.1
 refine step1 hx K (.vec l1 e sz (st+1)) (zF _) (hx.ok K _ hg).1 (fun k hk=>⟨by simp [qrl,Ne.symm hk],qu5 _ _ hk⟩) (by simp [qrl,hg]) (.inl ⟨_,hg,Nat.le_succ _,fun h=>by simp [B.st] at h⟩) (fun i b hb hne=>hrows i b hb (hne _ hg)) (fun i hi=>?_) hbd (fun hm=>⟨hk,hsz,?_⟩)
 ·change qh9 _ _ _ _=some i at hi
  rw [qnf] at hi
  rcases hfresh i hi with h | h
  ·exact .inl ⟨_,hg,h⟩
  ·exact .inr h
 ·rcases hB _ rfl hm with ⟨h1,h2⟩ | ⟨i,l',h1,h2,h3⟩
  ·exact .inl ⟨h1,by simp [qh9,h2]⟩
  ·exact .inr ⟨i,l',by simp [qh9,h1],h2,h3⟩
omit hx in
theorem qkf {K:Nat} {l l1:List U} {e:TypeId} {sz st N:Nat} (hx:qfj x) (hg:gt x.σ.h K=some (.vec l e sz st)) {o:Option Nat} {s':S} {v:Value} (h1:v.oneCell'=true) (h:z0y 0 N v sz o) :
  Rel ⟨qh9 x.ρ K o,⟨ug x.σ.h K (.vec l1 e sz (st+1)),x.σ.nx⟩,s'⟩ (.vl K (st+1) 0 N) v:=by
 simp only [Rel]
 refine ⟨h1,(hx.ok K _ hg).1,fun b hb=>?_⟩
 simp only [qrl,if_true,hg,zM,zA] at hb
 subst hb
 exact ⟨zF _,fun _=>⟨l1,e,sz,rfl,by simpa [qh9] using h⟩⟩
omit hx in
theorem z0i {sz:Nat} {u:U} {k:Nat} {new:List U} (h:qqf x.σ sz u=some (k,new)):new.length=k*sz:=by
 unfold qqf at h
 cases u with
 | nils=>simp only [zA,zB] at h; obtain ⟨rfl,rfl⟩:=h; simp
 | isl t l =>
  simp only at h
  split at h
  ·rename_i hall
   simp only [zA,zB] at h
   obtain ⟨rfl,rfl⟩:=h
   have:=z3v hall
   clear hall
   induction l with
   | nil=>simp
   | cons c l ih =>
    have h1:=this c (by simp)
    have h2:=ih fun d hd=>this d (by simp [hd])
    simp only [List.flatten_cons,zU,zO,Nat.succ_mul,h2,h1]
    omega
  ·cases h
 | sl k' off n c =>
  simp only at h
  cases hrow:rowOf x.σ k' with
  | none=>simp [hrow] at h
  | some l =>
   simp only [hrow] at h
   cases hs:qfl l off (n*sz) with
   | none=>simp [hs] at h
   | some cs =>
    simp only [hs,zA,zB] at h
    obtain ⟨rfl,rfl⟩:=h
    obtain ⟨q1,rfl⟩:=qbp hs
    rw [qqo]; simp; omega
 | vl k' st off n =>
  simp only at h
  cases hv:qhc x.σ k' st with
  | none=>simp [hv] at h
  | some q =>
   obtain ⟨l,e,sz'⟩:=q
   simp only [hv,beq_eq] at h
   by_cases hz:sz'=sz
   ·simp only [hz,yC,zC] at h
    cases hs:qfl l (off*sz) (n*sz) with
    | none=>simp [hs] at h
    | some cs =>
     simp only [hs,zA,zB] at h
     obtain ⟨rfl,rfl⟩:=h
     obtain ⟨q1,rfl⟩:=qbp hs
     simp; omega
   ·simp [hz] at h
 | _=>simp at h
theorem qwd {a b r:U} {va vb:Value} {σ':Sg} (h:qds T x.σ t xt a b=some (r,σ')) (ha:Rel x a va) (hb:Rel x b vb):∃ v y,q63 T x.s t xt va vb=some (v,y.s)∧y.σ=σ'∧Rel y r v∧Out x y:=by
 unfold qds at h
 cases hd:T.und t with
 | none=>simp [hd] at h
 | some d =>
 cases d with
 | slice e =>
  cases hd2:T.und xt with
  | none=>simp [hd,hd2] at h
  | some d2 =>
  cases d2 with
  | slice e2 =>
   simp only [hd,hd2] at h
   cases hi:T.inf e with
   | none=>simp [hi] at h
   | some q =>
    obtain ⟨sz,by_,z⟩:=q
    cases sz with
    | zero=>simp [hi] at h
    | succ sz =>
     simp only [hi] at h
     cases hz:Nat.beq z.cells.toList.length (sz+1) with
     | false=>simp only [hz,zD] at h; cases h
     | true =>
      simp only [hz,zC] at h
      cases hsrc:qqf x.σ (sz+1) b with
      | none=>simp [hsrc] at h
      | some q =>
       obtain ⟨k,new⟩:=q
       simp only [hsrc] at h
       have hlen:=z0i hsrc
       obtain ⟨bb,c,vs,hfl,_,hc,hr,hk⟩:=qqg hx (by omega) hsrc hb
       have happ:∀ va',q63 T x.s t xt va' vb=q63 T x.s t xt va' (.slice bb k c):=fun va'=>by
        unfold q63; rw [hfl]; simp only [qfy,isW,zD]
       rw [happ]
       cases a with
       | nils =>
        simp only at h
        split at h
        ·rename_i hroom
         simp only [zA,zB] at h
         obtain ⟨rfl,rfl⟩:=h
         simp only [Rel] at ha
         subst ha
         exact qm4 hx hd hd2 hi hz (by simp) hc hr hk hlen hroom
        ·cases h
       | isl tt l =>
        cases tt with
        | false=>simp at h
        | true =>
         simp only at h
         split at h
         ·rename_i hroom
          obtain ⟨r1,r2,r3,r4⟩:=hroom
          simp only [zA,zB] at h
          obtain ⟨rfl,rfl⟩:=h
          obtain ⟨o,c0,ov,_,e1,e2,e3,e4⟩:=qqg hx (sz:=sz+1) (by omega) (u:=.isl true l) (k:=l.length) (new:=l.flatten) (by simp only [qqf,r4,if_true]) ha
          rcases e1 with e1 | ⟨el,rfl,rfl,enew,rr,rfl⟩
          case inr =>
           have hln:l=[]:=List.eq_nil_of_length_eq_zero el
           subst hln
           obtain ⟨v,y,h1,h2,h3,h4,b1,n1,c1,hv⟩:=qhl (T:=T) hx hd hd2 hi hz (n:=0) (cp:=0) (o:=none) (old:=[]) (ov:=[]) (by simp [q05]) (by rw [Nat.zero_mul]; rfl) (q1o.nil x) rfl hc hr hk r3 (by omega) ⟨by simpa using r1,by simpa using r2⟩
           have h0:q53 T x.s t xt (.slice none 0 0) (.slice bb k c)=some (v,y.s):=by simpa only [q63,isW,qfy,zD] using h1
           refine ⟨v,y,?_,by simpa using h2,by simpa using h3,h4⟩
           simp only [q63,isW,qfy,zC,zD,h0,hv]
          subst e1
          have hc0:c0=l.length∧c0<q05:=by
           simp only [Rel] at ha
           rcases ha with ⟨rfl,h1 | ⟨_,h1⟩⟩ | ⟨i,off,c1,h1,h2,_⟩
           ·cases h1; simp [q05]
           ·cases h1
           ·cases h1; exact h2 trivial
          obtain ⟨v,y,h1,h2,h3,h4,_⟩:=qhl hx hd hd2 hi hz hc0.2 e2 e3 e4 hc hr hk r3 (by omega) ⟨r1,r2⟩
          exact ⟨v,y,h1,h2,h3,h4⟩
         ·cases h
       | sl k' off n cp =>
        simp only at h
        cases hrow:rowOf x.σ k' with
        | none=>simp [hrow] at h
        | some l =>
         simp only [hrow] at h
         cases hs:qfl l off (n*(sz+1)) with
         | none=>simp [hs] at h
         | some old =>
          simp only [hs] at h
          obtain ⟨e',hg,hl⟩:=qki hrow
          obtain ⟨i,hi',hva,hcp,_⟩:=qex hl ha
          split at h
          ·rename_i h0
           obtain ⟨rfl,rfl⟩:=h0
           split at h
           ·rename_i hroom
            simp only [zA,zB] at h
            obtain ⟨rfl,rfl⟩:=h
            subst hva
            exact qm4 hx hd hd2 hi hz (by simp) hc hr hk hlen hroom
           ·cases h
          ·split at h
           ·rename_i hfull
            split at h
            ·rename_i hroom
             obtain ⟨r1,r2,r3⟩:=hroom
             simp only [zA,zB] at h
             obtain ⟨rfl,rfl⟩:=h
             obtain ⟨o,c0,ov,_,e1,e2,e3,e4⟩:=qqg hx (sz:=sz+1) (by omega) (u:=.sl k' off n cp) (k:=n) (new:=wkZ old) (by simp only [qqf,hrow,hs]) ha
             have:o=some ⟨i,off,none⟩∧c0=cp:=by
              rw [hva] at e1
              rcases e1 with e1 | ⟨_,_,_,_,_,e1⟩
              ·cases e1; exact ⟨rfl,rfl⟩
              ·cases e1
             obtain ⟨rfl,rfl⟩:=this
             rw [hva]
             obtain ⟨v,y,h1,h2,h3,h4,_⟩:=qhl hx hd hd2 hi hz hcp e2 e3 e4 hc hr hk r3 hfull ⟨r1,r2⟩
             exact ⟨v,y,h1,h2,h3,h4⟩
            ·cases h
           ·cases h
       | vl K st off n =>
        simp only at h
        cases hg:gt x.σ.h K with
        | none=>simp [hg] at h
        | some b0 =>
         cases b0 with
         | vec l e' sz' st' =>
          simp only [hg,beq_eq] at h
          by_cases hst:st'=st
          ·by_cases he:e'=e
           ·by_cases hsz:sz'=sz+1
            ·subst hst; subst he; subst hsz
             simp only [yC,zC] at h
             cases hs:qfl l (off*(sz+1)) (n*(sz+1)) with
             | none=>simp [hs] at h
             | some p =>
              simp only [hs] at h
              split at h
              ·rename_i hroom
               obtain ⟨r1,r2,r3⟩:=hroom
               simp only [zA,zB] at h
               obtain ⟨rfl,rfl⟩:=h
               obtain ⟨l0,e0,sz0,hg',hvl⟩:=qhx (x:=x) (by simp [live,hg,B.st]) ha
               have:=hg.symm.trans hg'
               cases this
               obtain ⟨_,k1,k2,h3⟩:=hx.ok K _ hg
               obtain ⟨q1,rfl⟩:=qbp hs
               rcases h3 with ⟨rfl,hρ⟩ | ⟨i,l',e1,e2,e3⟩
               ·rw [hρ] at hvl
                obtain ⟨rfl,rfl,o,rfl,ho⟩:=hvl
                cases k with
                | zero =>
                 have:new=[]:=List.eq_nil_of_length_eq_zero (by rw [hlen]; simp)
                 subst this
                 rw [hr.nil_inv] at hc
                 refine ⟨.slice o 0 0,⟨qh9 x.ρ K none,⟨ug x.σ.h K (.vec [] e' (sz+1) (st'+1)),x.σ.nx⟩,x.s⟩,?_,by simp,qkf hx hg rfl ⟨rfl,rfl,o,rfl,ho⟩,qh0 hx hg none x.s (fun i b hb _=>hb) (by simp) hx.bd rfl (fun y _ _=>.inl ⟨rfl,rfl⟩)⟩
                 simp only [q63,isW,qfy,zD,q53,hd,hd2,hi,hc,q78,zC,cap0]
                 rfl
                | succ k =>
                 refine ⟨.slice (some ⟨x.s.nx,0,none⟩) (0+(k+1)) q05,⟨qh9 x.ρ K (some x.s.nx),⟨ug x.σ.h K (.vec new e' (sz+1) (st'+1)),x.σ.nx⟩,Rx.newRow x.s vs e' (sz+1+2)⟩,?_,by simp,qkf hx hg rfl (.inr (by simp)),qh0 hx hg (some x.s.nx) _ (fun i b hb _=>?_) (fun i hi=>.inr (by cases hi; exact zF _)) (fun i b hb=>?_) hk (fun y hy hm=>.inr ⟨x.s.nx,vs,rfl,?_,hm.ke.E hr.bel hr⟩)⟩
                 ·have h1:Nat.ble (0+(k+1)) 0=false:=by
                   cases h:Nat.ble (0+(k+1)) 0 with
                   | false=>rfl
                   | true=>have:=zY h; omega
                  simp only [q63,isW,qfy,zD,q53,hd,hd2,hi,hc,qbe hr hk,zC,qti,cap0,h1,zD,Nat.zero_mul,qm9,hz,qjh r1 r2,List.nil_append]
                 ·have:=hx.bd i b hb
                  simp [Rx.newRow,q2n,show x.s.nx≠i by omega,hb]
                 ·simp only [Rx.newRow,q2n] at hb ⊢
                  split at hb
                  ·omega
                  ·exact Nat.lt_succ_of_lt (hx.bd i b hb)
                 ·simp [Rx.newRow,q2n]
               ·rw [e1] at hvl
                rcases hvl with ⟨h0,rfl,_⟩ | rfl
                ·omega
                ·have hown:ownRow x.s i=some (l',e',sz+1+2):=by simp [ownRow,e2]
                 have hcc:Nat.blt (q05+off) q05=false:=qdu (by omega)
                 have hcd:capD (q05+off)=off:=by simp [capD]
                 have hseg:seg l' (off*(sz+1)) (n*(sz+1))=some ((l'.drop (off*(sz+1))).take (n*(sz+1))):=qsr (by rw [← e3.2]; exact q1)
                 have hoff:Nat.beq (off*(sz+1)) (off*(sz+1))=true:=by simp
                 cases k with
                 | zero =>
                  have:new=[]:=List.eq_nil_of_length_eq_zero (by rw [hlen]; simp)
                  subst this
                  rw [hr.nil_inv] at hc
                  have h0:off=0∧n*(sz+1)=l.length:=by omega
                  obtain ⟨rfl,hfull⟩:=h0
                  have hp:(l.drop (0*(sz+1))).take (n*(sz+1))++[]=l:=by simp [hfull]
                  rw [hp]
                  refine ⟨.slice (some ⟨i,0*(sz+1),none⟩) n (q05+0),⟨qh9 x.ρ K (some i),⟨ug x.σ.h K (.vec l e' (sz+1) (st'+1)),x.σ.nx⟩,x.s⟩,?_,by simp,qkf hx hg rfl (.inr rfl),qh0 hx hg (some i) x.s (fun i b hb _=>hb) (fun j hj=>.inl (by cases hj; exact e1)) hx.bd k1 (fun y _ hm=>.inr ⟨i,l',rfl,e2,hm.ke.E e3.bel e3⟩)⟩
                  simp only [q63,isW,qfy,zD,q53,hd,hd2,hi,hc,q78,zC,hcc,zD,hown,Nat.beq_refl,hcd,hseg]
                 | succ k =>
                  have hpr:q1o x ((l.drop (off*(sz+1))).take (n*(sz+1))++new) ((l'.drop (off*(sz+1))).take (n*(sz+1))++vs):=((e3.drop _).take _).append hr
                  have hpk:=q66 (qcd (q8l k1 (off*(sz+1))) (n*(sz+1))) hk
                  refine ⟨.slice (some ⟨x.s.nx,0,none⟩) (n+(k+1)) q05,⟨qh9 x.ρ K (some x.s.nx),⟨ug x.σ.h K (.vec ((l.drop (off*(sz+1))).take (n*(sz+1))++new) e' (sz+1) (st'+1)),x.σ.nx⟩,⟨(x.s.nx,.inl ((l'.drop (off*(sz+1))).take (n*(sz+1))++vs,e',sz+1+2))::rm x.s.h i,x.s.nx+1⟩⟩,?_,rfl,qkf hx hg rfl (.inr (by simp)),qh0 hx hg (some x.s.nx) _ (fun j b hb hne=>?_) (fun i hi=>.inr (by cases hi; exact zF _)) (fun j b hb=>?_) hpk (fun y hy hm=>.inr ⟨x.s.nx,_,rfl,?_,hm.ke.E hpr.bel hpr⟩)⟩
                  ·simp only [q63,isW,qfy,zD,q53,hd,hd2,hi,hc,qbe hr hk,zC,qti,hcc,zD,hown,Nat.beq_refl,hcd,hseg,hz,qjh r1 r2]
                  ·have:=hx.bd j b hb
                   have hij:i≠j:=fun h=>hne (by rw [e1,h])
                   simp [q2n,z2r,show x.s.nx≠j by omega,hij,hb]
                  ·simp only [q2n,z2r] at hb ⊢
                   split at hb
                   ·omega
                   ·split at hb
                    ·cases hb
                    ·exact Nat.lt_succ_of_lt (hx.bd j b hb)
                  ·simp [q2n]
              ·cases h
            ·simp [hst,he,hsz] at h
           ·simp [hst,he] at h
          ·simp [hst] at h
         | _=>simp [hg] at h
       | _=>simp at h
  | _=>simp [hd,hd2] at h
 | _=>simp [hd] at h
end
theorem z69 (es:List ME) (i:Nat) (f:ME→ME):qza es i f=es.modify i f:=by
 induction es generalizing i with
 | nil=>simp [qza]
 | cons e es ih=>cases i<;>simp [qza,ih]
theorem qy9 (es:List ME) (i:Nat):qoj es i=es.eraseIdx i:=by
 induction es generalizing i with
 | nil=>simp [qoj]
 | cons e es ih=>cases i<;>simp [qoj,ih]
variable {x:Cx}
variable {es:List ME}
variable {vs:List MapEntry}
variable {k:U}
variable {v:U}
variable {kv:Value}
variable {vv:Value}
theorem qns.snoc (h:qns x es vs) (hk:Rel x k kv) (hv:Rel x v vv) (b:Nat):qns x (es++[⟨k,v,b⟩]) (vs++[⟨kv,vv,b⟩]):=by
 refine ⟨by simp [h.1],fun i e he=>?_⟩
 rw [List.getElem?_append] at he ⊢
 rw [← h.1]
 split at he
 ·rename_i hlt; simp only [hlt,if_true]; exact h.2 i e he
 ·rename_i hlt
  simp only [hlt,if_false]
  cases hj:i - es.length with
  | zero=>simp [hj] at he; subst he; exact ⟨⟨kv,vv,b⟩,by simp,hk,hv,rfl⟩
  | succ j=>simp [hj] at he
theorem qns.mod (h:qns x es vs) (j:Nat) (hv:Rel x v vv):qns x (qza es j fun e=>{ e with val:=v }) (z2w vs j fun e=>{ e with val:=vv }):=by
 rw [z69,qts]
 refine ⟨by simp [h.1],fun i e he=>?_⟩
 rw [List.getElem?_modify] at he ⊢
 cases hi:es[i]? with
 | none=>simp [hi] at he
 | some e0 =>
  obtain ⟨v0,q1,q2,q3,q4⟩:=h.2 i e0 hi
  rw [hi] at he
  simp only [Option.map_eq_map,zM,zA] at he
  rw [q1]
  by_cases hji:j=i
  ·simp only [hji,if_true] at he ⊢; subst he; exact ⟨_,rfl,q2,hv,q4⟩
  ·simp only [hji,if_false] at he ⊢; subst he; exact ⟨_,rfl,q2,q3,q4⟩
theorem qns.erase (h:qns x es vs) (j:Nat):qns x (qoj es j) (qmf vs j):=by
 rw [qy9,qra]
 refine ⟨by simp [List.length_eraseIdx,h.1],fun i e he=>?_⟩
 rw [List.getElem?_eraseIdx] at he ⊢
 split at he
 ·rename_i hlt; simp only [hlt,if_true]; exact h.2 i e he
 ·rename_i hlt; simp only [hlt,if_false]; exact h.2 _ e he
theorem qns.mono {y:Cx} (hm:Mo x.σ.nx x y) (h:qns x es vs):qns y es vs:=⟨h.1,fun j e he=>by
  obtain ⟨v,q1,q2,q3,q4⟩:=h.2 j e he
  exact ⟨v,q1,hm.ke _ _ (Rel.bel _ _ q2) q2,hm.ke _ _ (Rel.bel _ _ q3) q3,q4⟩⟩
theorem qui {x : Cx} {b : Int} : ∀ {es : List ME} {vs : List MapEntry} (i : Nat), qns x es vs → qxr b es i = qqz b vs i
  | [], vs, i, h => by have : vs = [] := by have := h.1; simpa using this.symm
                       subst this; rfl
  | e :: es, [], i, h => by have := h.1; simp at this
  | e :: es, v :: vs, i, h => by
    obtain ⟨v0, q0, q1, q2, q3⟩ := h.2 0 e rfl
    simp at q0; subst q0
    have h' : qns x es vs := ⟨by have := h.1; simpa using this, fun j d hd => by simpa using h.2 (j + 1) d (by simpa using hd)⟩
    simp only [qxr, qqz, q3, qui (i + 1) h']
section
variable {T:Tb} {x:Cx} (hx:qfj x)
include hx
variable {m:U}
variable {mv:Value}
theorem qva {m:U} {r:Nat} {cl:Nat} (hm:Rel x (.map r) mv) (hg:gt x.σ.h r=some (.map es cl)):∃ i es',x.ρ r=some i∧mv = .map (some i)∧lk x.s.h i=some (.inr (es',cl))∧qns x es es'∧qdo x.s i=some (es',cl):=by
 obtain ⟨i,hi,rfl⟩:=qlu (x:=x) (by simp [live,hg,B.st]) hm
 obtain ⟨_,i',es',e1,e2,e3⟩:=hx.ok r _ hg
 rw [hi] at e1; cases e1
 exact ⟨i,es',hi,rfl,e2,e3,by simp [qdo,e2]⟩
theorem qhy {r i:Nat} {es1:List ME} {es' es1':List MapEntry} {cl cl1:Nat} (hg:gt x.σ.h r=some (.map es cl)) (hi:x.ρ r=some i) (hl:lk x.s.h i=some (.inr (es',cl))) (hr:qns x es1 es1') :
  Out x ⟨x.ρ,qez x.σ r es1 cl1,qj0 x.s i es1' cl1⟩ :=
 qgz hx hg hi hl rfl (by simp) fun y h1 h2 hm=>⟨i,es1',h1,h2,hr.mono hm⟩
variable {t:TypeId}
variable {r:U}
variable {σ':Sg}
theorem qry (h:qrx T x.σ t m k v=some (r,σ')) (hm:Rel x m mv) (hk:Rel x k kv) (hv:Rel x v vv):∃ rv y,qmx T x.s t mv kv vv=some (rv,y.s)∧y.σ=σ'∧Rel y r rv∧Out x y:=by
 unfold qrx at h
 cases hd:T.und t with
 | none=>simp [hd] at h
 | some d =>
 cases d with
 | map kt et =>
  cases m with
  | map q =>
   simp only [hd] at h
   cases hkv:toV k with
   | none=>simp [hkv] at h
   | some kv0 =>
    simp only [hkv] at h
    have e0:=(q81 _ _ hkv x kv).1 hk
    subst e0
    cases h1:qk5 T 50 kt kv with
    | false=>simp [h1] at h
    | true =>
     cases h2:plain kv with
     | false=>simp [h1,h2] at h
     | true =>
      simp only [h1,h2,zC] at h
      cases hg:gt x.σ.h q with
      | none=>simp [hg] at h
      | some b =>
       cases b with
       | map es cl =>
        simp only [hg] at h
        obtain ⟨i,es',hi,rfl,hl,hr,ho⟩:=qva hx (m:=.map q) hm hg
        cases hf:qhr T kt kv es 0 with
        | none=>simp [hf] at h
        | some f =>
         rcases qio 0 hr hf with ⟨rfl,f1⟩ | ⟨j,u,w,rfl,f1,f2,f3,d,d',f4,f5,f6,f7,f8,f9⟩
         ·simp only [hf,zA,zB] at h
          obtain ⟨rfl,rfl⟩:=h
          exact ⟨undef,_,by simp only [qmx,hd,h1,h2,zC,ho,f1],rfl,by simp [Rel],qhy hx hg hi hl (hr.snoc hk hv cl)⟩
         ·simp only [Nat.sub_zero] at f4 f6
          simp only [hf,q2o,f4] at h
          cases hke:toV d.key with
          | none=>simp [hke] at h
          | some kv' =>
           simp only [hke] at h
           have e1:=(q81 _ _ hke x d'.key).1 f7
           cases hveq:veq 50 kv' kv with
           | false=>simp [hveq] at h
           | true =>
            simp only [hveq,zC,zA,zB] at h
            obtain ⟨rfl,rfl⟩:=h
            exact ⟨undef,_,by simp only [qmx,hd,h1,h2,zC,ho,f1,q2o,f6,e1,hveq],rfl,by simp [Rel],qhy hx hg hi hl (hr.mod j hv)⟩
       | _=>simp [hg] at h
  | _=>simp [hd] at h
 | _=>simp [hd] at h
theorem qwu (h:qtp T x.σ t m k=some (r,σ')) (hm:Rel x m mv) (hk:Rel x k kv):∃ rv y,qka T x.s t mv kv=some (rv,y.s)∧y.σ=σ'∧Rel y r rv∧Out x y:=by
 unfold qtp at h
 cases hd:T.und t with
 | none=>simp [hd] at h
 | some d =>
 cases d with
 | map kt et =>
  cases m with
  | map q =>
   simp only [hd] at h
   cases hkv:toV k with
   | none=>simp [hkv] at h
   | some kv0 =>
    simp only [hkv] at h
    have e0:=(q81 _ _ hkv x kv).1 hk
    subst e0
    cases h1:qk5 T 50 kt kv with
    | false=>simp [h1] at h
    | true =>
     cases h2:plain kv with
     | false=>simp [h1,h2] at h
     | true =>
      simp only [h1,h2,zC] at h
      cases hg:gt x.σ.h q with
      | none=>simp [hg] at h
      | some b =>
       cases b with
       | map es cl =>
        simp only [hg] at h
        obtain ⟨i,es',hi,rfl,hl,hr,ho⟩:=qva hx (m:=.map q) hm hg
        have tup2:∀ {y:Cx} {p:U} {p':Value} {n:Nat},Rel y p p'→Rel y (.tup [p,.int .i64 n]) (.tuple #[p',.int .i64 n]):=fun {y p p' n} hp=>by
         simp only [Rel]; exact ⟨[p',.int .i64 n],rfl,by simp [q3z,hp,Rel],rfl⟩
        cases hf:qhr T kt kv es 0 with
        | none=>simp [hf] at h
        | some f =>
         rcases qio 0 hr hf with ⟨rfl,f1⟩ | ⟨j,u,w,rfl,f1,f2,f3,d,d',f4,f5,f6,f7,f8,f9⟩
         ·simp only [hf] at h
          cases hinf:T.inf et with
          | none=>simp [hinf] at h
          | some z =>
           obtain ⟨z1,z2,z⟩:=z
           simp only [hinf] at h
           cases hz:ofV z with
           | none=>simp [hz] at h
           | some zu =>
            simp only [hz,zA,zB] at h
            obtain ⟨rfl,rfl⟩:=h
            exact ⟨.tuple #[z,.int .i64 cl],_,by simp only [qka,hd,h1,h2,zC,ho,f1,hinf],rfl,tup2 ((qj2 _ _ hz).2 _),qhy hx hg hi hl (hr.snoc hk ((qj2 _ _ hz).2 x) cl)⟩
         ·simp only [Nat.sub_zero] at f4 f6
          simp only [hf,q2o,f4] at h
          cases hke:toV d.key with
          | none=>simp [hke] at h
          | some kv' =>
           simp only [hke] at h
           have e1:=(q81 _ _ hke x d'.key).1 f7
           cases hveq:veq 50 kv' kv with
           | false=>simp [hveq] at h
           | true =>
            simp only [hveq,zC,zA,zB] at h
            obtain ⟨rfl,rfl⟩:=h
            have hout:=qhy hx hg hi hl (cl1:=cl) hr
            exact ⟨.tuple #[w,.int .i64 d'.born],_,by simp only [qka,hd,h1,h2,zC,ho,f1,q2o,f6,e1,hveq],rfl,by rw [f8]; exact tup2 (hout.mo.ke _ _ (Rel.bel _ _ f2) f2),hout⟩
       | _=>simp [hg] at h
  | _=>simp [hd] at h
 | _=>simp [hd] at h
theorem qy8 {st:U} {sv:Value} (h:qy7 x.σ m st v=some (r,σ')) (hm:Rel x m mv) (hs:Rel x st sv) (hv:Rel x v vv):∃ rv y,qr7 x.s mv sv vv=some (rv,y.s)∧y.σ=σ'∧Rel y r rv∧Out x y:=by
 unfold qy7 at h
 cases m with
 | map q =>
  cases st with
  | int k b =>
   simp only at h
   simp only [Rel] at hs
   subst hs
   cases hg:gt x.σ.h q with
   | none=>simp [hg] at h
   | some bb =>
    cases bb with
    | map es cl =>
     simp only [hg] at h
     obtain ⟨i,es',hi,rfl,hl,hr,ho⟩:=qva hx (m:=.map q) hm hg
     cases hb:qxr b es 0 with
     | none=>simp [hb] at h
     | some j =>
      simp only [hb,zA,zB] at h
      obtain ⟨rfl,rfl⟩:=h
      rw [qui 0 hr] at hb
      exact ⟨undef,_,by simp only [qr7,ho,hb],rfl,by simp [Rel],qhy hx hg hi hl (hr.mod j hv)⟩
    | _=>simp [hg] at h
  | _=>simp at h
 | _=>simp at h
theorem z5r (h:delU T x.σ t m k=some (r,σ')) (hm:Rel x m mv) (hk:Rel x k kv):∃ rv y,delX T x.s t mv kv=some (rv,y.s)∧y.σ=σ'∧Rel y r rv∧Out x y:=by
 unfold delU at h
 cases hd:T.und t with
 | none=>simp [hd] at h
 | some d =>
 cases d with
 | map kt et =>
  cases m with
  | map q =>
   simp only [hd] at h
   cases hkv:toV k with
   | none=>simp [hkv] at h
   | some kv0 =>
    simp only [hkv] at h
    have e0:=(q81 _ _ hkv x kv).1 hk
    subst e0
    cases h1:qk5 T 50 kt kv with
    | false=>simp [h1] at h
    | true =>
     simp only [h1,zC] at h
     cases hg:gt x.σ.h q with
     | none=>simp [hg] at h
     | some b =>
      cases b with
      | map es cl =>
       simp only [hg] at h
       obtain ⟨i,es',hi,rfl,hl,hr,ho⟩:=qva hx (m:=.map q) hm hg
       cases hf:qhr T kt kv es 0 with
       | none=>simp [hf] at h
       | some f =>
        rcases qio 0 hr hf with ⟨rfl,f1⟩ | ⟨j,u,w,rfl,f1,_⟩
        ·simp only [hf,zA,zB] at h
         obtain ⟨rfl,rfl⟩:=h
         exact ⟨undef,_,by simp only [delX,hd,h1,zC,ho,f1],rfl,by simp [Rel],qhy hx hg hi hl hr⟩
        ·simp only [hf,zA,zB] at h
         obtain ⟨rfl,rfl⟩:=h
         exact ⟨undef,_,by simp only [delX,hd,h1,zC,ho,f1],rfl,by simp [Rel],qhy hx hg hi hl (hr.erase j)⟩
      | _=>simp [hg] at h
  | _=>simp [hd] at h
 | _=>simp [hd] at h
theorem z1u {d s:U} {dv sv:Value} (h:z5p T x.σ t d s=some (r,σ')) (hd':Rel x d dv) (hs':Rel x s sv):∃ rv y,qy3 T x.s t dv sv=some (rv,y.s)∧y.σ=σ'∧Rel y r rv∧Out x y:=by
 unfold z5p at h
 cases hd:T.und t with
 | none=>simp [hd] at h
 | some dd =>
 cases dd with
 | slice e =>
  simp only [hd] at h
  cases hs:q0x T e with
  | none=>simp [hs] at h
  | some sz =>
   simp only [hs] at h
   cases hsrc:qqf x.σ sz s with
   | none=>simp [hsrc] at h
   | some q =>
    obtain ⟨k,cs⟩:=q
    simp only [hsrc] at h
    cases d with
    | sl a off n c =>
     simp only at h
     cases hrow:rowOf x.σ a with
     | none=>simp [hrow] at h
     | some l =>
      simp only [hrow] at h
      split at h
      ·cases h
      ·rename_i hpos
       have hpos':0<n∧0<k∧0<sz:=by omega
       obtain ⟨b,c0,vs,_,hsv,hc,hr,hk⟩:=qqg hx hpos'.2.2 hsrc hs'
       obtain rfl:sv = .slice b k c0:=by
        rcases hsv with hsv | ⟨h0,_⟩
        ·exact hsv
        ·omega
       have hlen:=z0i hsrc
       cases hput:ql4 l off (cs.take (Nat.min k n*sz)) with
       | none=>simp [hput] at h
       | some l1 =>
        simp only [hput] at h
        obtain ⟨e',hg,hl⟩:=qki hrow
        obtain ⟨i,hi,rfl,_⟩:=qex hl hd'
        obtain ⟨_,k1,i',lv,e1,e2,e3⟩:=hx.ok a _ hg
        rw [hi] at e1; cases e1
        simp only [qo3,hg,zA,zB] at h
        obtain ⟨rfl,rfl⟩:=h
        have hmn:Nat.min k n*sz≤k*sz:=Nat.mul_le_mul_right _ (Nat.min_le_left _ _)
        have hmp:0<Nat.min k n*sz:=Nat.mul_pos (by simp [Nat.min_def]; split<;>omega) hpos'.2.2
        have hcells:q64 x.s b (Nat.min k n*sz)=some (vs.take (Nat.min k n*sz)):=by
         obtain ⟨q1,hq1⟩:∃ q,k*sz=q+1:=⟨k*sz - 1,by have:=Nat.mul_pos hpos'.2.1 hpos'.2.2; omega⟩
         obtain ⟨q2,hq2⟩:∃ q,Nat.min k n*sz=q+1:=⟨Nat.min k n*sz - 1,by omega⟩
         rw [hq1] at hc
         rw [hq2]
         unfold q64 at hc ⊢
         cases b with
         | none=>simp at hc
         | some a =>
          simp only at hc ⊢
          cases hlk:lk x.s.h a.block with
          | none=>simp [hlk] at hc
          | some bb =>
           rcases bb with ⟨l0,e0,md0⟩ | ⟨m0,c1⟩
           ·simp only [hlk] at hc ⊢
            obtain ⟨s1,s2⟩:=qjj hc
            rw [s1,qsr (by omega),List.take_take]
            congr 2
            omega
           ·simp [hlk] at hc
        have hrt:=hr.take (Nat.min k n*sz)
        have hkt:=qcd hk (Nat.min k n*sz)
        obtain ⟨rv,p1,p2,p3⟩:=qpv hput e3 hrt
        have hown:ownRow x.s i=some (lv,e',0):=by simp [ownRow,e2]
        refine ⟨.int .i64 (Nat.min k n),⟨x.ρ,⟨ug x.σ.h a (.row l1 e'),x.σ.nx⟩,⟨up x.s.h i (.inl (rv,e',0)),x.s.nx⟩⟩,?_,rfl,by simp [Rel],qgz hx hg hi e2 rfl (by simp) fun y h1 h2 hm=>⟨p3 k1 hkt,i,rv,h1,h2,hm.ke.E p2.bel p2⟩⟩
        simp only [qy3,hd,hs,hcells,qbe hrt hkt,zC]
        cases hv:vs.take (Nat.min k n*sz) with
        | nil =>
         exfalso
         have h1:=hrt.2
         rw [hv] at h1
         have h2:cs.length=k*sz:=hlen
         rw [List.length_take,h2,Nat.min_eq_left hmn] at h1
         simp only [zS] at h1
         omega
        | cons v0 vs0=>rw [hv] at p1; simp only [hown,p1]
    | _=>simp at h
 | _=>simp [hd] at h
theorem qt7 {xt:TypeId} {a b:U} {va vb:Value} (h:qp3 T x.σ t xt a b=some (r,σ')) (ha:Rel x a va) (hb:Rel x b vb):∃ v y,qhk T x.s t xt va vb=some (v,y.s)∧y.σ=σ'∧Rel y r v∧Out x y:=by
 unfold qp3 at h
 split at h
 ·rename_i e kd kd' i hd hd2
  simp only [Rel] at ha hb
  subst ha; subst hb
  split at h
  ·rename_i sz by_ z hi
   split at h
   ·rename_i zu hz
    split at h
    ·rename_i hc
     obtain ⟨c1,c2,c3,c4,c5⟩:=hc
     simp only [zA,zB] at h
     obtain ⟨rfl,rfl⟩:=h
     obtain ⟨k,hk⟩:∃ k,i.toNat=k+1:=⟨i.toNat - 1,by omega⟩
     have hw:IntKind.i64.wrap i=Int.ofNat (k+1):=by
      rw [wrap_i64 (by omega) (by omega),← hk]; simp; omega
     have hzr:=(qf0 _ _ hz).2 x
     have hrel:q1o x (qa1 zu (k+1)) (zeros z.cells.toList (k+1)):=qel hzr (k+1)
     have hok:okL (qa1 zu (k+1))=true:=qqp c5 _
     have h1:=qbe hrel hok
     have hroom:qgd (k+1) by_=true:=qjh (by rw [← hk]; exact c2) (by rw [← hk]; exact c3)
     have hb:Nat.beq z.cells.toList.length (sz+1)=true:=by simp [beq_eq,c4]
     rw [hk]
     refine ⟨.slice (some ⟨x.s.nx,0,none⟩) (k+1) q05,_,?_,rfl,qgx,qgt hx (qnq hrel) (by rw [qp0]; exact hok) e (by omega)⟩
     have hn:q63 T x.s t xt (.slice none 0 0) (.int kd' i)=none:=by simp [q63,isW,qfy,q53,hd,hd2]
     simp only [qhk,hn,qp2,hd,hd2,hi,hw,hroom,hb,h1,zC]
     rfl
    ·cases h
   ·cases h
  ·cases h
 ·cases h
theorem qt8 {xt:TypeId} {a b:U} {va vb:Value} (h:qln T x.σ t xt a b=some (r,σ')) (ha:Rel x a va) (hb:Rel x b vb):∃ v y,qhk T x.s t xt va vb=some (v,y.s)∧y.σ=σ'∧Rel y r v∧Out x y:=by
 unfold qln at h
 split at h
 ·rename_i q hq
  cases h
  obtain ⟨v,y,h1,h2,h3,h4⟩:=qwd hx hq ha hb
  exact ⟨v,y,by simp only [qhk,h1],h2,h3,h4⟩
 ·exact qt7 hx h ha hb
theorem qy2 {d:U} {dv:Value} (h:qy1 T x.σ t d=some (r,σ')) (hd':Rel x d dv):∃ rv y,qmb T x.s t dv=some (rv,y.s)∧y.σ=σ'∧Rel y r rv∧Out x y:=by
 unfold qy1 at h
 cases hd:T.und t with
 | none=>simp [hd] at h
 | some dd =>
 cases dd with
 | slice e =>
  simp only [hd] at h
  cases hi:T.inf e with
  | none=>simp [hi] at h
  | some q =>
   obtain ⟨sz,by_,z⟩:=q
   simp only [hi] at h
   cases hz:qlg z.cells.toList with
   | none=>simp [hz] at h
   | some zu =>
    simp only [hz] at h
    have hzr:=(qf0 _ _ hz).2 x
    cases hok:okL zu with
    | false=>simp [hok] at h
    | true =>
    rw [hok] at h
    cases hlen:Nat.beq z.cells.toList.length sz with
    | false=>rw [hlen] at h; cases h
    | true =>
     rw [hlen] at h
     simp only [zC] at h
     have hzl:zu.length=sz:=by rw [hzr.2]; simpa [beq_eq] using hlen
     have hzr:=qnq hzr
     have hzl:(wkZ zu).length=sz:=by rw [qqo]; exact hzl
     cases d with
     | nils =>
      simp only [zA,zB] at h
      obtain ⟨rfl,rfl⟩:=h
      simp only [Rel] at hd'
      subst hd'
      exact ⟨undef,x,by simp [qmb,hd],rfl,by simp [Rel],Out.refl hx⟩
     | vl k st off n =>
      simp only at h
      cases hv:qhc x.σ k st with
      | none=>simp [hv] at h
      | some q =>
       obtain ⟨l,e',sz'⟩:=q
       simp only [hv] at h
       cases hs:Nat.beq sz' sz with
       | false=>simp [hs] at h
       | true =>
        have hs':sz'=sz:=by simpa [beq_eq] using hs
        subst hs'
        simp only [hs,zC] at h
        obtain ⟨hg,hl⟩:=qh2 hv
        simp only at hg
        obtain ⟨l2,e2,sz2,hg2,hvo⟩:=qhx hl hd'
        rw [hg] at hg2; cases hg2
        by_cases hn:n=0
        ·simp only [hn,if_true,zA,zB] at h
         obtain ⟨rfl,rfl⟩:=h
         obtain ⟨a,c,rfl⟩:=z0u hvo
         subst hn
         exact ⟨undef,x,by simp [qmb,hd],rfl,by simp [Rel],Out.refl hx⟩
        ·simp only [hn,if_false] at h
         cases hp:ql4 l (off*sz') (qa1 (wkZ zu) n) with
         | none=>simp [hp] at h
         | some l1 =>
          simp only [hp,zA,zB] at h
          obtain ⟨rfl,rfl⟩:=h
          obtain ⟨_,k1,k2,k3⟩:=hx.ok k _ hg
          rcases k3 with ⟨rfl,hno⟩ | ⟨i,lv,hi1,hi2,hi3⟩
          ·exfalso
           have:=(qs6 hp).1
           simp only [qa1,List.length_flatten,List.map_replicate,List.sum_replicate_nat,hzl,zS] at this
           have:=Nat.mul_pos (Nat.pos_of_ne_zero hn) k2
           omega
          ·rw [hi1] at hvo
           simp only [z0y] at hvo
           rcases hvo with ⟨_,h0,_⟩ | rfl
           ·exact absurd h0 hn
           ·obtain ⟨rv,p1,p2,p3⟩:=qpv hp hi3 (qel hzr n)
            obtain ⟨n',rfl⟩:∃ n',n=n'+1:=⟨n - 1,by omega⟩
            have hzo:=qqp (zu:=wkZ zu) (by rw [qp0]; exact hok) (n'+1)
            have h1:=qbe (qel hzr (n'+1)) hzo
            have hown:ownRow x.s i=some (lv,e',sz'+2):=by simp [ownRow,hi2]
            refine ⟨undef,⟨x.ρ,⟨ug x.σ.h k (.vec l1 e' sz' st),x.σ.nx⟩,⟨up x.s.h i (.inl (rv,e',sz'+2)),x.s.nx⟩⟩,?_,rfl,by simp [Rel],qgz hx hg hi1 hi2 rfl (by rintro l e sz st h; cases h; exact ⟨_,rfl⟩) fun y h1 h2 hm=>⟨p3 k1 hzo,k2,.inr ⟨i,rv,h1,h2,hm.ke.E p2.bel p2⟩⟩⟩
            simp only [qmb,hd,hi,h1,zC,hown,p1]
     | _=>simp at h
 | _=>simp [hd] at h
theorem z5s {tm:List U} {tv:List Value} (ht:q1o x tm tv) {op:Op} {u:U} (h:qjr T x.σ tm op=some (u,σ')):Sim T x tv op u σ':=by
 have fin:∀ {v:Value} {y:Cx},q57 T tv op=none→q97 T tv x.s op=none→qnv T tv x.s op=some (v,y.s)→y.σ=σ'→Rel y u v→Out x y→Sim T x tv op u σ':=fun {v y} h1 h2 h3 h4 h5 h6=>⟨v,y,qve h1 h2 h3,h4,h5,h6⟩
 unfold qjr at h
 cases op with
 | alloc e =>
  simp only at h
  cases hi:T.inf e with
  | none=>simp [hi] at h
  | some q =>
   obtain ⟨a,b,z⟩:=q
   simp only [hi] at h
   cases hz:qlg z.cells.toList with
   | none=>simp [hz] at h
   | some zu =>
    simp only [hz] at h
    cases hk:okL zu with
    | false=>simp [hk] at h
    | true =>
     simp only [hk,zC,zA,zB] at h
     obtain ⟨rfl,rfl⟩:=h
     exact fin (v:=.pointer (some ⟨x.s.nx,0,none⟩)) rfl rfl (by simp only [qnv,hi]) rfl (by simp only [Rel]; exact ⟨rfl,qnb rfl ⟨_,rfl,rfl⟩⟩) (qgs hx ((qf0 _ _ hz).2 x) hk e)
 | box e o =>
  simp only at h
  cases ho:q0u tm o with
  | none=>simp [ho] at h
  | some a =>
   simp only [ho] at h
   obtain ⟨va,a1,a2⟩:=q0v ht ho
   cases hc:qa2 a with
   | none=>simp [hc] at h
   | some cs =>
    simp only [hc] at h
    obtain ⟨c1,c2⟩:=qm8 a2 hc
    simp only [c2,zC,zA,zB] at h
    obtain ⟨rfl,rfl⟩:=h
    exact fin (v:=.pointer (some ⟨x.s.nx,0,none⟩)) rfl rfl (by simp only [qnv,a1]) rfl (by simp only [Rel]; exact ⟨rfl,qnb rfl ⟨_,rfl,rfl⟩⟩) (qgs hx c1 c2 e)
 | store t a b =>
  simp only at h
  cases ha:q0u tm a with
  | none=>simp [ha] at h
  | some au =>
   cases hb:q0u tm b with
   | none=>simp [ha,hb] at h
   | some bu =>
    simp only [ha,hb] at h
    obtain ⟨va,a1,a2⟩:=q0v ht ha
    obtain ⟨vb,b1,b2⟩:=q0v ht hb
    obtain ⟨v,y,h1,h2,h3,h4⟩:=z0n hx h a2 b2
    exact fin rfl rfl (by simp only [qnv,a1,b1,h1]) h2 h3 h4
 | buildSlice t n ps =>
  simp only at h
  cases hp:qc0 tm ps.toList with
  | none=>simp [hp] at h
  | some qs =>
   simp only [hp] at h
   obtain ⟨vs,h1,h2⟩:=qmi ht hp
   obtain ⟨v,y,h3,h4,h5,h6⟩:=qrw hx h h2
   exact fin rfl rfl (by simp only [qnv,h1,h3]) h4 h5 h6
 | makeSlice t a b =>
  simp only at h
  cases ha:q0u tm a with
  | none=>simp [ha] at h
  | some au =>
   cases hb:q0u tm b with
   | none=>simp [ha,hb] at h
   | some bu =>
    simp only [ha,hb] at h
    obtain ⟨va,a1,a2⟩:=q0v ht ha
    obtain ⟨vb,b1,b2⟩:=q0v ht hb
    obtain ⟨v,y,h1,h2,h3,h4⟩:=z2u hx h a2 b2
    exact fin rfl rfl (by simp only [qnv,a1,b1,h1]) h2 h3 h4
 | makeMap t r =>
  cases r with
  | none =>
   simp only [zA,zB] at h
   obtain ⟨rfl,rfl⟩:=h
   exact fin (v:=.map (some x.s.nx)) rfl rfl (by simp only [qnv]) rfl (by simp only [Rel]; exact ⟨rfl,qnb rfl ⟨_,rfl,rfl⟩⟩) (qqi hx (.map [] 0) (.inr ([],0)) fun y h1 h2 hm=>⟨_,[],h1,h2,rfl,by simp⟩)
  | some r=>simp at h
 | mapUpdate t m k v =>
  simp only at h
  cases hm:q0u tm m with
  | none=>simp [hm] at h
  | some mu =>
   cases hk:q0u tm k with
   | none=>simp [hm,hk] at h
   | some ku =>
    cases hv:q0u tm v with
    | none=>simp [hm,hk,hv] at h
    | some vu =>
     simp only [hm,hk,hv] at h
     obtain ⟨va,a1,a2⟩:=q0v ht hm
     obtain ⟨vb,b1,b2⟩:=q0v ht hk
     obtain ⟨vc,c1,c2⟩:=q0v ht hv
     obtain ⟨w,y,h1,h2,h3,h4⟩:=qry hx h a2 b2 c2
     exact fin rfl rfl (by simp only [qnv,a1,b1,c1,h1]) h2 h3 h4
 | insert t m k v =>
  simp only at h
  cases hm:q0u tm m with
  | none=>simp [hm] at h
  | some mu =>
   cases hk:q0u tm k with
   | none=>simp [hm,hk] at h
   | some ku =>
    cases hv:q0u tm v with
    | none=>simp [hm,hk,hv] at h
    | some vu =>
     simp only [hm,hk,hv] at h
     obtain ⟨va,a1,a2⟩:=q0v ht hm
     obtain ⟨vb,b1,b2⟩:=q0v ht hk
     obtain ⟨vc,c1,c2⟩:=q0v ht hv
     obtain ⟨w,y,h1,h2,h3,h4⟩:=qry hx h a2 b2 c2
     exact fin rfl rfl (by simp only [qnv,a1,b1,c1,h1]) h2 h3 h4
 | mapEntry t m k =>
  simp only at h
  cases hm:q0u tm m with
  | none=>simp [hm] at h
  | some mu =>
   cases hk:q0u tm k with
   | none=>simp [hm,hk] at h
   | some ku =>
    simp only [hm,hk] at h
    obtain ⟨va,a1,a2⟩:=q0v ht hm
    obtain ⟨vb,b1,b2⟩:=q0v ht hk
    obtain ⟨w,y,h1,h2,h3,h4⟩:=qwu hx h a2 b2
    exact fin rfl rfl (by simp only [qnv,a1,b1,h1]) h2 h3 h4
 | entryStore t m k v =>
  simp only at h
  cases hm:q0u tm m with
  | none=>simp [hm] at h
  | some mu =>
   cases hk:q0u tm k with
   | none=>simp [hm,hk] at h
   | some ku =>
    cases hv:q0u tm v with
    | none=>simp [hm,hk,hv] at h
    | some vu =>
     simp only [hm,hk,hv] at h
     obtain ⟨va,a1,a2⟩:=q0v ht hm
     obtain ⟨vb,b1,b2⟩:=q0v ht hk
     obtain ⟨vc,c1,c2⟩:=q0v ht hv
     obtain ⟨w,y,h1,h2,h3,h4⟩:=qy8 hx h a2 b2 c2
     exact fin rfl rfl (by simp only [qnv,a1,b1,c1,h1]) h2 h3 h4
 | call c =>
  simp only at h
  obtain ⟨callee,args,ats⟩:=c
  cases callee with
  | builtin b =>
   have two:∀ {us:List U} {a b:U},q4o tm args.toList=some us→us=[a,b]→∃ va vb,q6o tv args.toList=some [va,vb]∧Rel x a va∧Rel x b vb:=fun {us a b} h1 h2=>by
    subst h2
    obtain ⟨vs,a1,a2⟩:=q9b ht h1
    obtain ⟨va,vs',rfl,r1,r2⟩:=a2.inv
    obtain ⟨vb,vs'',rfl,r3,r4⟩:=r2.inv
    rw [r4.nil_inv] at a1
    exact ⟨va,vb,a1,r1,r3⟩
   cases b with
   | append =>
    simp only at h
    split at h
    ·rename_i a b t xt h1 h2
     obtain ⟨va,vb,e1,r1,r2⟩:=two h1 rfl
     obtain ⟨w,y,q1,q2,q3,q4⟩:=qt8 hx h r1 r2
     exact fin (by simp only [q57]) (by simp only [q97]) (by simp only [qnv,e1,h2,q1]) q2 q3 q4
    ·cases h
   | copy =>
    simp only at h
    split at h
    ·rename_i a b t ts h1 h2
     obtain ⟨va,vb,e1,r1,r2⟩:=two h1 rfl
     obtain ⟨w,y,q1,q2,q3,q4⟩:=z1u hx h r1 r2
     exact fin (by simp only [q57]) (by simp only [q97]) (by simp only [qnv,e1,h2,q1]) q2 q3 q4
    ·cases h
   | delete =>
    simp only at h
    split at h
    ·rename_i a b t ts h1 h2
     obtain ⟨va,vb,e1,r1,r2⟩:=two h1 rfl
     obtain ⟨w,y,q1,q2,q3,q4⟩:=z5r hx h r1 r2
     exact fin (by simp only [q57]) (by simp only [q97]) (by simp only [qnv,e1,h2,q1]) q2 q3 q4
    ·cases h
   | clear =>
    simp only at h
    split at h
    ·rename_i a t ts h1 h2
     obtain ⟨vs,a1,a2⟩:=q9b ht h1
     obtain ⟨va,vs',rfl,r1,r2⟩:=a2.inv
     rw [r2.nil_inv] at a1
     obtain ⟨w,y,q1,q2,q3,q4⟩:=qy2 hx h r1
     exact fin (by simp only [q57]) (by simp only [q97]) (by simp only [qnv,a1,h2,q1]) q2 q3 q4
    ·cases h
   | _=>simp at h
  | _=>simp at h
 | _=>simp at h
theorem op_sim {tm:List U} {tv:List Value} (ht:q1o x tm tv) {op:Op} {u:U} (h:opU T x.σ tm op=some (u,σ')):Sim T x tv op u σ':=by
 unfold opU at h
 cases h1:q59 T x.σ tm op with
 | some v=>simp only [h1,zA,zB] at h; obtain ⟨rfl,rfl⟩:=h; exact z39 hx ht h1
 | none =>
  simp only [h1] at h
  cases h2:qbw T x.σ tm op with
  | some v=>simp only [h2,zA,zB] at h; obtain ⟨rfl,rfl⟩:=h; exact qvq hx ht h2
  | none=>simp only [h2] at h; exact z5s hx ht h
omit hx in
theorem quj {tm:List U} {tv:List Value} (ht:q1o x tm tv) {op:Op} {f:FuncId} {args:List U} (h:q6z T tm op=some (f,args)):∃ vs,callOf T tv op=some (f,vs)∧q1o x args vs:=by
 unfold q6z at h
 cases op with
 | call c =>
  simp only at h
  obtain ⟨callee,as,ats⟩:=c
  cases callee with
  | value o =>
   simp only at h
   cases ho:q0u tm o with
   | none=>simp [ho] at h
   | some a =>
    obtain ⟨va,a1,a2⟩:=q0v ht ho
    cases a with
    | fn fn first cap =>
     cases fn with
     | func g =>
      simp only [ho] at h
      simp only [Rel] at a2
      obtain ⟨p,q,rfl,r1,r2,r3,r4⟩:=a2
      cases hg:T.fn g with
      | none=>simp [hg] at h
      | some fd =>
       simp only [hg] at h
       cases hbd:fd.body.isSome with
       | false=>simp [hbd] at h
       | true =>
        simp only [hbd,zC] at h
        cases hl:q4o tm as.toList with
        | none=>simp [hl] at h
        | some us =>
         simp only [hl,zA,zB] at h
         obtain ⟨rfl,rfl⟩:=h
         obtain ⟨vs,e1,e2⟩:=q9b ht hl
         exact ⟨p++vs++q,by simp only [callOf,a1,hg,hbd,zC,e1],((show q1o x first p from ⟨r1,r2⟩).append e2).append ⟨r3,r4⟩⟩
     | _=>simp [ho] at h
    | _=>simp [ho] at h
  | _=>simp at h
 | _=>simp at h
end
end Go.Vx
end
