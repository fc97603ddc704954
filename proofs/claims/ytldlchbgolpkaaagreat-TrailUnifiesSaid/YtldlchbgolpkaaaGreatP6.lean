/-
  Texts of the walk: VxH.
-/
import Derived.Test.YtldlchbgolpkaaaGreatP5
set_option linter.unusedSimpArgs false
set_option linter.unusedVariables false
section
namespace Go.Vx
open Go Go.Rx
variable {n:Nat}
theorem qis {b:Nat} (h1:n*b≤140737488355328) (h2:n≤140737488355328):qft n b=true:=by
 simp [qft,Nat.ble_eq_true_of_le h1,Nat.ble_eq_true_of_le h2]
variable {e:TypeId}
theorem qj6 {s:S} {i off:Nat} {l:List Value} {md:Nat} (hl:lk s.h i=some (.inl (l,e,md))) (h:off+n≤l.length):q5z s (some ⟨i,off,none⟩) n=some ((l.drop off).take n):=by
 cases n with
 | zero=>simp [q5z]
 | succ n=>simp only [q5z,hl]; exact qrr h
theorem qlf (s:S) (b:Option Addr):q5z s b 0=some []:=rfl
section
variable {T:Tb} {x:Cx} (hx:qf1 x)
include hx
variable {sz:Nat}
variable {k:Nat}
variable {new:List U}
theorem qph (hsz:0<sz) {u:U} {v:Value} (h:srcU x.σ sz u=some (k,new)) (hr:Rel x u v):∃ b c vs,qff v = .slice b k c∧(v = .slice b k c∨k=0∧b=none∧c=0∧new=[]∧∃ r,v = .chan (some r))∧q5z x.s b (k*sz)=some vs∧q1l x new vs∧okL new=true:=by
 unfold srcU at h
 cases u with
 | nils =>
  simp only [zA,zB] at h
  obtain ⟨rfl,rfl⟩:=h
  simp only [Rel] at hr
  subst hr
  exact ⟨none,0,[],rfl,.inl rfl,by rw [Nat.zero_mul]; rfl,q1l.nil x,rfl⟩
 | isl t l =>
  simp only at h
  split at h
  ·rename_i hall
   simp only [zA,zB] at h
   obtain ⟨rfl,rfl⟩:=h
   simp only [Rel] at hr
   rcases hr with ⟨rfl,rfl | ⟨r,rfl⟩⟩ | ⟨i,off,c,rfl,_,hrow⟩
   ·exact ⟨none,0,[],rfl,.inl rfl,by rw [zS,Nat.zero_mul]; rfl,q1l.nil x,rfl⟩
   ·exact ⟨none,0,[],rfl,.inr ⟨rfl,rfl,rfl,rfl,r,rfl⟩,by rw [zS,Nat.zero_mul]; rfl,q1l.nil x,rfl⟩
   ·by_cases hne:l=[]
    ·subst hne
     exact ⟨_,c,[],rfl,.inl rfl,by rw [zS,Nat.zero_mul]; rfl,q1l.nil x,rfl⟩
    ·rcases hrow with hrow | ⟨row,e,sz',g1,g2,g3⟩
     ·exact absurd hrow hne
     ·have:=qz1 g2 hne hall
      subst this
      obtain ⟨f1,f2⟩:=qri g2
      have hlen:=ql4 g2
      rw [List.length_drop] at hlen
      have:0<l.length*sz':=Nat.mul_pos (by cases l<;>simp_all) hsz
      exact ⟨_,c,_,rfl,.inl rfl,qj6 g1 (by omega),f1,f2⟩
  ·cases h
 | sl k' off n c =>
  simp only at h
  cases hrow:rowOf x.σ k' with
  | none=>simp [hrow] at h
  | some l =>
   simp only [hrow] at h
   cases hs:segU l off (n*sz) with
   | none=>simp [hs] at h
   | some cs =>
    simp only [hs,zA,zB] at h
    obtain ⟨rfl,rfl⟩:=h
    obtain ⟨e,hg,hl⟩:=qjs hrow
    obtain ⟨i,hi,rfl,_⟩:=qeg hl hr
    obtain ⟨_,k1,i',lv,e1,e2,e3⟩:=hx.ok k' _ hg
    rw [hi] at e1; cases e1
    obtain ⟨s1,s2⟩:=qz8 hs e3
    obtain ⟨q1,rfl⟩:=qbd hs
    exact ⟨_,c,_,rfl,.inl rfl,qj6 e2 (by rw [← e3.2]; exact q1),qmv s2,by rw [qo2]; exact qbz (q8c k1 _) _⟩
 | vl k' st off n =>
  simp only at h
  cases hv:vecOf x.σ k' st with
  | none=>simp [hv] at h
  | some q =>
   obtain ⟨l,e,sz'⟩:=q
   obtain ⟨hg,hl⟩:=qgh hv
   simp only [hv,beq_eq] at h
   by_cases hz:sz'=sz
   ·subst hz
    simp only [yC,zC] at h
    cases hs:segU l (off*sz') (n*sz') with
    | none=>simp [hs] at h
    | some cs =>
     simp only [hs,zA,zB] at h
     obtain ⟨rfl,rfl⟩:=h
     obtain ⟨q1,rfl⟩:=qbd hs
     by_cases hn:n=0
     ·subst hn
      obtain ⟨_,_,_,_,hvl⟩:=qh9 hl hr
      obtain ⟨b,c,rfl⟩:=qzr hvl
      exact ⟨b,c,[],rfl,.inl rfl,by rw [Nat.zero_mul]; rfl,by simpa using q1l.nil x,by simp [okL]⟩
     ·obtain ⟨i,l0,e0,sz0,l',h1,h2,rfl,h4,h5,h6,h7⟩:=qpo hx hl hr (by omega)
      have:=hg.symm.trans h1
      cases this
      obtain ⟨s1,s2⟩:=qz8 hs h5
      exact ⟨_,_,_,rfl,.inl rfl,qj6 h4 (by rw [← h5.2]; exact q1),s2,qbz (q8c h7 _) _⟩
   ·simp [hz] at h
 | _=>simp at h
omit hx in
theorem qgc {l:List U} {e:TypeId} {sz N:Nat} {c:Blk}:Rel ⟨qgn x.ρ x.σ.nx (some x.s.nx),newU x.σ (.vec l e sz 0),⟨(x.s.nx,c)::x.s.h,x.s.nx+1⟩⟩ (.vl x.σ.nx 0 0 N) (.slice (some ⟨x.s.nx,0,none⟩) N q05):=by
 simp only [Rel]
 refine ⟨rfl,by simp [newU],fun b hb=>?_⟩
 simp only [newU,q28,if_true,zA] at hb
 subst hb
 exact ⟨zF _,fun _=>⟨l,e,sz,rfl,by simp [qgn,qzv]⟩⟩
omit hx in
theorem qhf {e:TypeId} {sz:Nat} {o:Option Addr} (ho:∀ a,o=some a→a.spot=none):Rel ⟨qgn x.ρ x.σ.nx none,newU x.σ (.vec [] e sz 0),x.s⟩ (.vl x.σ.nx 0 0 0) (.slice o 0 0):=by
 simp only [Rel]
 refine ⟨rfl,by simp [newU],fun b hb=>?_⟩
 simp only [newU,q28,if_true,zA] at hb
 subst hb
 exact ⟨zF _,fun _=>⟨[],e,sz,rfl,by simpa [qgn,qzv] using ho⟩⟩
variable {t:TypeId}
variable {xt:TypeId}
theorem qla {e2:TypeId} {by_:Nat} {z:Value} (hd:T.und t=some (.slice e)) (hd2:T.und xt=some (.slice e2)) (hi:T.inf e=some (sz+1,by_,z)) (hz:Nat.beq z.cells.toList.length (sz+1)=true)
  {o:Option Addr} (ho:∀ a,o=some a→a.spot=none) {b:Option Addr} {c:Nat} {vs:List Value} (hc:q5z x.s b (k*(sz+1))=some vs) (hr:q1l x new vs) (hk:okL new=true) (hlen:new.length=k*(sz+1)) (hroom:k*by_≤140737488355328∧k≤140737488355328) :
  ∃ v y,q5y T x.s t xt (.slice o 0 0) (.slice b k c)=some (v,y.s)∧y.σ=newU x.σ (.vec new e (sz+1) 0)∧Rel y (.vl x.σ.nx 0 0 k) v∧Out x y:=by
 cases k with
 | zero =>
  have:new=[]:=List.eq_nil_of_length_eq_zero (by rw [hlen]; simp)
  subst this
  rw [hr.nil_inv] at hc
  refine ⟨.slice o 0 0,⟨qgn x.ρ x.σ.nx none,newU x.σ (.vec [] e (sz+1) 0),x.s⟩,?_,rfl,qhf ho,qiw hx e (sz+1) (by omega)⟩
  simp only [q5y,isW,qff,zD,q4z,hd,hd2,hi,hc,q72,zC,cap0]
  rfl
 | succ k =>
  refine ⟨.slice (some ⟨x.s.nx,0,none⟩) (k+1) q05,_,?_,rfl,qgc,qg8 hx hr hk e (by omega)⟩
  simp only [q5y,isW,qff,zD,q4z,hd,hd2,hi,hc,qb2 hr hk,zC,qsi,cap0,show Nat.ble (k+1) 0=false from rfl,zD,Nat.zero_mul,qlf,hz,Nat.zero_add,qis hroom.1 hroom.2,List.nil_append,Rx.newRow]
theorem qgy {e2:TypeId} {by_:Nat} {z:Value} (hd:T.und t=some (.slice e)) (hd2:T.und xt=some (.slice e2)) (hi:T.inf e=some (sz+1,by_,z)) (hz:Nat.beq z.cells.toList.length (sz+1)=true)
  {o:Option Addr} {cp:Nat} {old:List U} {ov:List Value} (hcp:cp<q05) (hold:q5z x.s o (n*(sz+1))=some ov) (hor:q1l x old ov) (hok:okL old=true) {b:Option Addr} {c:Nat} {vs:List Value} (hc:q5z x.s b (k*(sz+1))=some vs) (hr:q1l x new vs) (hk:okL new=true)
  (hk0:0<k) (hfull:cp<n+k) (hroom:(n+k)*by_≤140737488355328∧n+k≤140737488355328) :
  ∃ v y,q5y T x.s t xt (.slice o n cp) (.slice b k c)=some (v,y.s)∧y.σ=newU x.σ (.vec (old++new) e (sz+1) 0)∧Rel y (.vl x.σ.nx 0 0 (n+k)) v∧Out x y∧∃ b n c,v = .slice (some b) n c:=by
 cases k with
 | zero=>omega
 | succ k =>
  refine ⟨.slice (some ⟨x.s.nx,0,none⟩) (n+(k+1)) q05,_,?_,rfl,qgc,qg8 hx (hor.append hr) (q61 hok hk) e (by omega),_,_,_,rfl⟩
  have h1:Nat.ble (n+(k+1)) cp=false:=by
   cases h:Nat.ble (n+(k+1)) cp with
   | false=>rfl
   | true=>have:=zY h; omega
  simp only [q5y,isW,qff,zD,q4z,hd,hd2,hi,hc,qb2 hr hk,zC,qsi,q6i hcp,h1,zD,hold,hz,qis hroom.1 hroom.2,Rx.newRow]
theorem qgf {K:Nat} {l l1:List U} {st:Nat} (hg:gt x.σ.h K=some (.vec l e sz st)) (o:Option Nat) (s':S) (hrows:∀ i b,lk x.s.h i=some b→x.ρ K≠some i→lk s'.h i=some b) (hfresh:∀ i,o=some i→x.ρ K=some i∨x.s.nx≤i)
  (hbd:∀ i b,lk s'.h i=some b→i<s'.nx) (hk:okL l1=true) (hB:∀ y:Cx,y.s=s'→Mo x.σ.nx x y→l1=[]∧o=none∨∃ i l',o=some i∧lk s'.h i=some (.inl (l',e,sz+2))∧q1l y l1 l') :
  Out x ⟨qgn x.ρ K o,⟨ug x.σ.h K (.vec l1 e sz (st+1)),x.σ.nx⟩,s'⟩:=by
 have hsz:0<sz:=(hx.ok K _ hg).2.2.1
 refine step1 hx K (.vec l1 e sz (st+1)) (zF _) (hx.ok K _ hg).1 (fun k hk=>⟨by simp [qqm,Ne.symm hk],qt4 _ _ hk⟩) (by simp [qqm,hg]) (.inl ⟨_,hg,Nat.le_succ _,fun h=>by simp [B.st] at h⟩) (fun i b hb hne=>hrows i b hb (hne _ hg)) (fun i hi=>?_) hbd (fun hm=>⟨hk,hsz,?_⟩)
 ·change qgn _ _ _ _=some i at hi
  rw [qml] at hi
  rcases hfresh i hi with h | h
  ·exact .inl ⟨_,hg,h⟩
  ·exact .inr h
 ·rcases hB _ rfl hm with ⟨h1,h2⟩ | ⟨i,l',h1,h2,h3⟩
  ·exact .inl ⟨h1,by simp [qgn,h2]⟩
  ·exact .inr ⟨i,l',by simp [qgn,h1],h2,h3⟩
omit hx in
theorem qjp {K:Nat} {l l1:List U} {e:TypeId} {sz st N:Nat} (hx:qf1 x) (hg:gt x.σ.h K=some (.vec l e sz st)) {o:Option Nat} {s':S} {v:Value} (h1:v.oneCell'=true) (h:qzv 0 N v sz o) :
  Rel ⟨qgn x.ρ K o,⟨ug x.σ.h K (.vec l1 e sz (st+1)),x.σ.nx⟩,s'⟩ (.vl K (st+1) 0 N) v:=by
 simp only [Rel]
 refine ⟨h1,(hx.ok K _ hg).1,fun b hb=>?_⟩
 simp only [qqm,if_true,hg,zM,zA] at hb
 subst hb
 exact ⟨zF _,fun _=>⟨l1,e,sz,rfl,by simpa [qgn] using h⟩⟩
omit hx in
theorem qzf {sz:Nat} {u:U} {k:Nat} {new:List U} (h:srcU x.σ sz u=some (k,new)):new.length=k*sz:=by
 unfold srcU at h
 cases u with
 | nils=>simp only [zA,zB] at h; obtain ⟨rfl,rfl⟩:=h; simp
 | isl t l =>
  simp only at h
  split at h
  ·rename_i hall
   simp only [zA,zB] at h
   obtain ⟨rfl,rfl⟩:=h
   have:=z2p hall
   clear hall
   induction l with
   | nil=>simp
   | cons c l ih =>
    have h1:=this c (by simp)
    have h2:=ih fun d hd=>this d (by simp [hd])
    simp only [List.flatten_cons,zU,zO,Nat.succ_mul,h2,h1]
    omega
  ·cases h
 | sl k' off n c =>
  simp only at h
  cases hrow:rowOf x.σ k' with
  | none=>simp [hrow] at h
  | some l =>
   simp only [hrow] at h
   cases hs:segU l off (n*sz) with
   | none=>simp [hs] at h
   | some cs =>
    simp only [hs,zA,zB] at h
    obtain ⟨rfl,rfl⟩:=h
    obtain ⟨q1,rfl⟩:=qbd hs
    rw [qpp]; simp; omega
 | vl k' st off n =>
  simp only at h
  cases hv:vecOf x.σ k' st with
  | none=>simp [hv] at h
  | some q =>
   obtain ⟨l,e,sz'⟩:=q
   simp only [hv,beq_eq] at h
   by_cases hz:sz'=sz
   ·simp only [hz,yC,zC] at h
    cases hs:segU l (off*sz) (n*sz) with
    | none=>simp [hs] at h
    | some cs =>
     simp only [hs,zA,zB] at h
     obtain ⟨rfl,rfl⟩:=h
     obtain ⟨q1,rfl⟩:=qbd hs
     simp; omega
   ·simp [hz] at h
 | _=>simp at h
theorem qvb {a b r:U} {va vb:Value} {σ':Sg} (h:appendU T x.σ t xt a b=some (r,σ')) (ha:Rel x a va) (hb:Rel x b vb):∃ v y,q5y T x.s t xt va vb=some (v,y.s)∧y.σ=σ'∧Rel y r v∧Out x y:=by
 unfold appendU at h
 cases hd:T.und t with
 | none=>simp [hd] at h
 | some d =>
 cases d with
 | slice e =>
  cases hd2:T.und xt with
  | none=>simp [hd,hd2] at h
  | some d2 =>
  cases d2 with
  | slice e2 =>
   simp only [hd,hd2] at h
   cases hi:T.inf e with
   | none=>simp [hi] at h
   | some q =>
    obtain ⟨sz,by_,z⟩:=q
    cases sz with
    | zero=>simp [hi] at h
    | succ sz =>
     simp only [hi] at h
     cases hz:Nat.beq z.cells.toList.length (sz+1) with
     | false=>simp only [hz,zD] at h; cases h
     | true =>
      simp only [hz,zC] at h
      cases hsrc:srcU x.σ (sz+1) b with
      | none=>simp [hsrc] at h
      | some q =>
       obtain ⟨k,new⟩:=q
       simp only [hsrc] at h
       have hlen:=qzf hsrc
       obtain ⟨bb,c,vs,hfl,_,hc,hr,hk⟩:=qph hx (by omega) hsrc hb
       have happ:∀ va',q5y T x.s t xt va' vb=q5y T x.s t xt va' (.slice bb k c):=fun va'=>by
        unfold q5y; rw [hfl]; simp only [qff,isW,zD]
       rw [happ]
       cases a with
       | nils =>
        simp only at h
        split at h
        ·rename_i hroom
         simp only [zA,zB] at h
         obtain ⟨rfl,rfl⟩:=h
         simp only [Rel] at ha
         subst ha
         exact qla hx hd hd2 hi hz (by simp) hc hr hk hlen hroom
        ·cases h
       | isl tt l =>
        cases tt with
        | false=>simp at h
        | true =>
         simp only at h
         split at h
         ·rename_i hroom
          obtain ⟨r1,r2,r3,r4⟩:=hroom
          simp only [zA,zB] at h
          obtain ⟨rfl,rfl⟩:=h
          obtain ⟨o,c0,ov,_,e1,e2,e3,e4⟩:=qph hx (sz:=sz+1) (by omega) (u:=.isl true l) (k:=l.length) (new:=l.flatten) (by simp only [srcU,r4,if_true]) ha
          rcases e1 with e1 | ⟨el,rfl,rfl,enew,rr,rfl⟩
          case inr =>
           have hln:l=[]:=List.eq_nil_of_length_eq_zero el
           subst hln
           obtain ⟨v,y,h1,h2,h3,h4,b1,n1,c1,hv⟩:=qgy (T:=T) hx hd hd2 hi hz (n:=0) (cp:=0) (o:=none) (old:=[]) (ov:=[]) (by simp [q05]) (by rw [Nat.zero_mul]; rfl) (q1l.nil x) rfl hc hr hk r3 (by omega) ⟨by simpa using r1,by simpa using r2⟩
           have h0:q4z T x.s t xt (.slice none 0 0) (.slice bb k c)=some (v,y.s):=by simpa only [q5y,isW,qff,zD] using h1
           refine ⟨v,y,?_,by simpa using h2,by simpa using h3,h4⟩
           simp only [q5y,isW,qff,zC,zD,h0,hv]
          subst e1
          have hc0:c0=l.length∧c0<q05:=by
           simp only [Rel] at ha
           rcases ha with ⟨rfl,h1 | ⟨_,h1⟩⟩ | ⟨i,off,c1,h1,h2,_⟩
           ·cases h1; simp [q05]
           ·cases h1
           ·cases h1; exact h2 trivial
          obtain ⟨v,y,h1,h2,h3,h4,_⟩:=qgy hx hd hd2 hi hz hc0.2 e2 e3 e4 hc hr hk r3 (by omega) ⟨r1,r2⟩
          exact ⟨v,y,h1,h2,h3,h4⟩
         ·cases h
       | sl k' off n cp =>
        simp only at h
        cases hrow:rowOf x.σ k' with
        | none=>simp [hrow] at h
        | some l =>
         simp only [hrow] at h
         cases hs:segU l off (n*(sz+1)) with
         | none=>simp [hs] at h
         | some old =>
          simp only [hs] at h
          obtain ⟨e',hg,hl⟩:=qjs hrow
          obtain ⟨i,hi',hva,hcp,_⟩:=qeg hl ha
          split at h
          ·rename_i h0
           obtain ⟨rfl,rfl⟩:=h0
           split at h
           ·rename_i hroom
            simp only [zA,zB] at h
            obtain ⟨rfl,rfl⟩:=h
            subst hva
            exact qla hx hd hd2 hi hz (by simp) hc hr hk hlen hroom
           ·cases h
          ·split at h
           ·rename_i hfull
            split at h
            ·rename_i hroom
             obtain ⟨r1,r2,r3⟩:=hroom
             simp only [zA,zB] at h
             obtain ⟨rfl,rfl⟩:=h
             obtain ⟨o,c0,ov,_,e1,e2,e3,e4⟩:=qph hx (sz:=sz+1) (by omega) (u:=.sl k' off n cp) (k:=n) (new:=wkZ old) (by simp only [srcU,hrow,hs]) ha
             have:o=some ⟨i,off,none⟩∧c0=cp:=by
              rw [hva] at e1
              rcases e1 with e1 | ⟨_,_,_,_,_,e1⟩
              ·cases e1; exact ⟨rfl,rfl⟩
              ·cases e1
             obtain ⟨rfl,rfl⟩:=this
             rw [hva]
             obtain ⟨v,y,h1,h2,h3,h4,_⟩:=qgy hx hd hd2 hi hz hcp e2 e3 e4 hc hr hk r3 hfull ⟨r1,r2⟩
             exact ⟨v,y,h1,h2,h3,h4⟩
            ·cases h
           ·cases h
       | vl K st off n =>
        simp only at h
        cases hg:gt x.σ.h K with
        | none=>simp [hg] at h
        | some b0 =>
         cases b0 with
         | vec l e' sz' st' =>
          simp only [hg,beq_eq] at h
          by_cases hst:st'=st
          ·by_cases he:e'=e
           ·by_cases hsz:sz'=sz+1
            ·subst hst; subst he; subst hsz
             simp only [yC,zC] at h
             cases hs:segU l (off*(sz+1)) (n*(sz+1)) with
             | none=>simp [hs] at h
             | some p =>
              simp only [hs] at h
              split at h
              ·rename_i hroom
               obtain ⟨r1,r2,r3⟩:=hroom
               simp only [zA,zB] at h
               obtain ⟨rfl,rfl⟩:=h
               obtain ⟨l0,e0,sz0,hg',hvl⟩:=qh9 (x:=x) (by simp [live,hg,B.st]) ha
               have:=hg.symm.trans hg'
               cases this
               obtain ⟨_,k1,k2,h3⟩:=hx.ok K _ hg
               obtain ⟨q1,rfl⟩:=qbd hs
               rcases h3 with ⟨rfl,hρ⟩ | ⟨i,l',e1,e2,e3⟩
               ·rw [hρ] at hvl
                obtain ⟨rfl,rfl,o,rfl,ho⟩:=hvl
                cases k with
                | zero =>
                 have:new=[]:=List.eq_nil_of_length_eq_zero (by rw [hlen]; simp)
                 subst this
                 rw [hr.nil_inv] at hc
                 refine ⟨.slice o 0 0,⟨qgn x.ρ K none,⟨ug x.σ.h K (.vec [] e' (sz+1) (st'+1)),x.σ.nx⟩,x.s⟩,?_,by simp,qjp hx hg rfl ⟨rfl,rfl,o,rfl,ho⟩,qgf hx hg none x.s (fun i b hb _=>hb) (by simp) hx.bd rfl (fun y _ _=>.inl ⟨rfl,rfl⟩)⟩
                 simp only [q5y,isW,qff,zD,q4z,hd,hd2,hi,hc,q72,zC,cap0]
                 rfl
                | succ k =>
                 refine ⟨.slice (some ⟨x.s.nx,0,none⟩) (0+(k+1)) q05,⟨qgn x.ρ K (some x.s.nx),⟨ug x.σ.h K (.vec new e' (sz+1) (st'+1)),x.σ.nx⟩,Rx.newRow x.s vs e' (sz+1+2)⟩,?_,by simp,qjp hx hg rfl (.inr (by simp)),qgf hx hg (some x.s.nx) _ (fun i b hb _=>?_) (fun i hi=>.inr (by cases hi; exact zF _)) (fun i b hb=>?_) hk (fun y hy hm=>.inr ⟨x.s.nx,vs,rfl,?_,hm.ke.E hr.bel hr⟩)⟩
                 ·have h1:Nat.ble (0+(k+1)) 0=false:=by
                   cases h:Nat.ble (0+(k+1)) 0 with
                   | false=>rfl
                   | true=>have:=zY h; omega
                  simp only [q5y,isW,qff,zD,q4z,hd,hd2,hi,hc,qb2 hr hk,zC,qsi,cap0,h1,zD,Nat.zero_mul,qlf,hz,qis r1 r2,List.nil_append]
                 ·have:=hx.bd i b hb
                  simp [Rx.newRow,q2k,show x.s.nx≠i by omega,hb]
                 ·simp only [Rx.newRow,q2k] at hb ⊢
                  split at hb
                  ·omega
                  ·exact Nat.lt_succ_of_lt (hx.bd i b hb)
                 ·simp [Rx.newRow,q2k]
               ·rw [e1] at hvl
                rcases hvl with ⟨h0,rfl,_⟩ | rfl
                ·omega
                ·have hown:ownRow x.s i=some (l',e',sz+1+2):=by simp [ownRow,e2]
                 have hcc:Nat.blt (q05+off) q05=false:=qdf (by omega)
                 have hcd:capD (q05+off)=off:=by simp [capD]
                 have hseg:seg l' (off*(sz+1)) (n*(sz+1))=some ((l'.drop (off*(sz+1))).take (n*(sz+1))):=qrr (by rw [← e3.2]; exact q1)
                 have hoff:Nat.beq (off*(sz+1)) (off*(sz+1))=true:=by simp
                 cases k with
                 | zero =>
                  have:new=[]:=List.eq_nil_of_length_eq_zero (by rw [hlen]; simp)
                  subst this
                  rw [hr.nil_inv] at hc
                  have h0:off=0∧n*(sz+1)=l.length:=by omega
                  obtain ⟨rfl,hfull⟩:=h0
                  have hp:(l.drop (0*(sz+1))).take (n*(sz+1))++[]=l:=by simp [hfull]
                  rw [hp]
                  refine ⟨.slice (some ⟨i,0*(sz+1),none⟩) n (q05+0),⟨qgn x.ρ K (some i),⟨ug x.σ.h K (.vec l e' (sz+1) (st'+1)),x.σ.nx⟩,x.s⟩,?_,by simp,qjp hx hg rfl (.inr rfl),qgf hx hg (some i) x.s (fun i b hb _=>hb) (fun j hj=>.inl (by cases hj; exact e1)) hx.bd k1 (fun y _ hm=>.inr ⟨i,l',rfl,e2,hm.ke.E e3.bel e3⟩)⟩
                  simp only [q5y,isW,qff,zD,q4z,hd,hd2,hi,hc,q72,zC,hcc,zD,hown,Nat.beq_refl,hcd,hseg]
                 | succ k =>
                  have hpr:q1l x ((l.drop (off*(sz+1))).take (n*(sz+1))++new) ((l'.drop (off*(sz+1))).take (n*(sz+1))++vs):=((e3.drop _).take _).append hr
                  have hpk:=q61 (qbz (q8c k1 (off*(sz+1))) (n*(sz+1))) hk
                  refine ⟨.slice (some ⟨x.s.nx,0,none⟩) (n+(k+1)) q05,⟨qgn x.ρ K (some x.s.nx),⟨ug x.σ.h K (.vec ((l.drop (off*(sz+1))).take (n*(sz+1))++new) e' (sz+1) (st'+1)),x.σ.nx⟩,⟨(x.s.nx,.inl ((l'.drop (off*(sz+1))).take (n*(sz+1))++vs,e',sz+1+2))::rm x.s.h i,x.s.nx+1⟩⟩,?_,rfl,qjp hx hg rfl (.inr (by simp)),qgf hx hg (some x.s.nx) _ (fun j b hb hne=>?_) (fun i hi=>.inr (by cases hi; exact zF _)) (fun j b hb=>?_) hpk (fun y hy hm=>.inr ⟨x.s.nx,_,rfl,?_,hm.ke.E hpr.bel hpr⟩)⟩
                  ·simp only [q5y,isW,qff,zD,q4z,hd,hd2,hi,hc,qb2 hr hk,zC,qsi,hcc,zD,hown,Nat.beq_refl,hcd,hseg,hz,qis r1 r2]
                  ·have:=hx.bd j b hb
                   have hij:i≠j:=fun h=>hne (by rw [e1,h])
                   simp [q2k,z1f,show x.s.nx≠j by omega,hij,hb]
                  ·simp only [q2k,z1f] at hb ⊢
                   split at hb
                   ·omega
                   ·split at hb
                    ·cases hb
                    ·exact Nat.lt_succ_of_lt (hx.bd j b hb)
                  ·simp [q2k]
              ·cases h
            ·simp [hst,he,hsz] at h
           ·simp [hst,he] at h
          ·simp [hst] at h
         | _=>simp [hg] at h
       | _=>simp at h
  | _=>simp [hd,hd2] at h
 | _=>simp [hd] at h
end
theorem z54 (es:List ME) (i:Nat) (f:ME→ME):qy7 es i f=es.modify i f:=by
 induction es generalizing i with
 | nil=>simp [qy7]
 | cons e es ih=>cases i<;>simp [qy7,ih]
theorem qx7 (es:List ME) (i:Nat):qnl es i=es.eraseIdx i:=by
 induction es generalizing i with
 | nil=>simp [qnl]
 | cons e es ih=>cases i<;>simp [qnl,ih]
variable {x:Cx}
variable {es:List ME}
variable {vs:List MapEntry}
variable {k:U}
variable {v:U}
variable {kv:Value}
variable {vv:Value}
theorem qmx.snoc (h:qmx x es vs) (hk:Rel x k kv) (hv:Rel x v vv) (b:Nat):qmx x (es++[⟨k,v,b⟩]) (vs++[⟨kv,vv,b⟩]):=by
 refine ⟨by simp [h.1],fun i e he=>?_⟩
 rw [List.getElem?_append] at he ⊢
 rw [← h.1]
 split at he
 ·rename_i hlt; simp only [hlt,if_true]; exact h.2 i e he
 ·rename_i hlt
  simp only [hlt,if_false]
  cases hj:i - es.length with
  | zero=>simp [hj] at he; subst he; exact ⟨⟨kv,vv,b⟩,by simp,hk,hv,rfl⟩
  | succ j=>simp [hj] at he
theorem qmx.mod (h:qmx x es vs) (j:Nat) (hv:Rel x v vv):qmx x (qy7 es j fun e=>{ e with val:=v }) (z1k vs j fun e=>{ e with val:=vv }):=by
 rw [z54,qsr]
 refine ⟨by simp [h.1],fun i e he=>?_⟩
 rw [List.getElem?_modify] at he ⊢
 cases hi:es[i]? with
 | none=>simp [hi] at he
 | some e0 =>
  obtain ⟨v0,q1,q2,q3,q4⟩:=h.2 i e0 hi
  rw [hi] at he
  simp only [Option.map_eq_map,zM,zA] at he
  rw [q1]
  by_cases hji:j=i
  ·simp only [hji,if_true] at he ⊢; subst he; exact ⟨_,rfl,q2,hv,q4⟩
  ·simp only [hji,if_false] at he ⊢; subst he; exact ⟨_,rfl,q2,q3,q4⟩
theorem qmx.erase (h:qmx x es vs) (j:Nat):qmx x (qnl es j) (qll vs j):=by
 rw [qx7,qqb]
 refine ⟨by simp [List.length_eraseIdx,h.1],fun i e he=>?_⟩
 rw [List.getElem?_eraseIdx] at he ⊢
 split at he
 ·rename_i hlt; simp only [hlt,if_true]; exact h.2 i e he
 ·rename_i hlt; simp only [hlt,if_false]; exact h.2 _ e he
theorem qmx.mono {y:Cx} (hm:Mo x.σ.nx x y) (h:qmx x es vs):qmx y es vs:=⟨h.1,fun j e he=>by
  obtain ⟨v,q1,q2,q3,q4⟩:=h.2 j e he
  exact ⟨v,q1,hm.ke _ _ (Rel.bel _ _ q2) q2,hm.ke _ _ (Rel.bel _ _ q3) q3,q4⟩⟩
theorem qth {x : Cx} {b : Int} : ∀ {es : List ME} {vs : List MapEntry} (i : Nat), qmx x es vs → qwp b es i = qq0 b vs i
  | [], vs, i, h => by have : vs = [] := by have := h.1; simpa using this.symm
                       subst this; rfl
  | e :: es, [], i, h => by have := h.1; simp at this
  | e :: es, v :: vs, i, h => by
    obtain ⟨v0, q0, q1, q2, q3⟩ := h.2 0 e rfl
    simp at q0; subst q0
    have h' : qmx x es vs := ⟨by have := h.1; simpa using this, fun j d hd => by simpa using h.2 (j + 1) d (by simpa using hd)⟩
    simp only [qwp, qq0, q3, qth (i + 1) h']
section
variable {T:Tb} {x:Cx} (hx:qf1 x)
include hx
variable {m:U}
variable {mv:Value}
theorem qu7 {m:U} {r:Nat} {cl:Nat} (hm:Rel x (.map r) mv) (hg:gt x.σ.h r=some (.map es cl)):∃ i es',x.ρ r=some i∧mv = .map (some i)∧lk x.s.h i=some (.inr (es',cl))∧qmx x es es'∧qda x.s i=some (es',cl):=by
 obtain ⟨i,hi,rfl⟩:=ql0 (x:=x) (by simp [live,hg,B.st]) hm
 obtain ⟨_,i',es',e1,e2,e3⟩:=hx.ok r _ hg
 rw [hi] at e1; cases e1
 exact ⟨i,es',hi,rfl,e2,e3,by simp [qda,e2]⟩
theorem qha {r i:Nat} {es1:List ME} {es' es1':List MapEntry} {cl cl1:Nat} (hg:gt x.σ.h r=some (.map es cl)) (hi:x.ρ r=some i) (hl:lk x.s.h i=some (.inr (es',cl))) (hr:qmx x es1 es1') :
  Out x ⟨x.ρ,qei x.σ r es1 cl1,qib x.s i es1' cl1⟩ :=
 qge hx hg hi hl rfl (by simp) fun y h1 h2 hm=>⟨i,es1',h1,h2,hr.mono hm⟩
variable {t:TypeId}
variable {r:U}
variable {σ':Sg}
theorem qqz (h:qqy T x.σ t m k v=some (r,σ')) (hm:Rel x m mv) (hk:Rel x k kv) (hv:Rel x v vv):∃ rv y,qm3 T x.s t mv kv vv=some (rv,y.s)∧y.σ=σ'∧Rel y r rv∧Out x y:=by
 unfold qqy at h
 cases hd:T.und t with
 | none=>simp [hd] at h
 | some d =>
 cases d with
 | map kt et =>
  cases m with
  | map q =>
   simp only [hd] at h
   cases hkv:toV k with
   | none=>simp [hkv] at h
   | some kv0 =>
    simp only [hkv] at h
    have e0:=(q7v _ _ hkv x kv).1 hk
    subst e0
    cases h1:qjf T 50 kt kv with
    | false=>simp [h1] at h
    | true =>
     cases h2:plain kv with
     | false=>simp [h1,h2] at h
     | true =>
      simp only [h1,h2,zC] at h
      cases hg:gt x.σ.h q with
      | none=>simp [hg] at h
      | some b =>
       cases b with
       | map es cl =>
        simp only [hg] at h
        obtain ⟨i,es',hi,rfl,hl,hr,ho⟩:=qu7 hx (m:=.map q) hm hg
        cases hf:qh3 T kt kv es 0 with
        | none=>simp [hf] at h
        | some f =>
         rcases qhz 0 hr hf with ⟨rfl,f1⟩ | ⟨j,u,w,rfl,f1,f2,f3,d,d',f4,f5,f6,f7,f8,f9⟩
         ·simp only [hf,zA,zB] at h
          obtain ⟨rfl,rfl⟩:=h
          exact ⟨undef,_,by simp only [qm3,hd,h1,h2,zC,ho,f1],rfl,by simp [Rel],qha hx hg hi hl (hr.snoc hk hv cl)⟩
         ·simp only [Nat.sub_zero] at f4 f6
          simp only [hf,q2l,f4] at h
          cases hke:toV d.key with
          | none=>simp [hke] at h
          | some kv' =>
           simp only [hke] at h
           have e1:=(q7v _ _ hke x d'.key).1 f7
           cases hveq:veq 50 kv' kv with
           | false=>simp [hveq] at h
           | true =>
            simp only [hveq,zC,zA,zB] at h
            obtain ⟨rfl,rfl⟩:=h
            exact ⟨undef,_,by simp only [qm3,hd,h1,h2,zC,ho,f1,q2l,f6,e1,hveq],rfl,by simp [Rel],qha hx hg hi hl (hr.mod j hv)⟩
       | _=>simp [hg] at h
  | _=>simp [hd] at h
 | _=>simp [hd] at h
theorem qvs (h:qsp T x.σ t m k=some (r,σ')) (hm:Rel x m mv) (hk:Rel x k kv):∃ rv y,qjk T x.s t mv kv=some (rv,y.s)∧y.σ=σ'∧Rel y r rv∧Out x y:=by
 unfold qsp at h
 cases hd:T.und t with
 | none=>simp [hd] at h
 | some d =>
 cases d with
 | map kt et =>
  cases m with
  | map q =>
   simp only [hd] at h
   cases hkv:toV k with
   | none=>simp [hkv] at h
   | some kv0 =>
    simp only [hkv] at h
    have e0:=(q7v _ _ hkv x kv).1 hk
    subst e0
    cases h1:qjf T 50 kt kv with
    | false=>simp [h1] at h
    | true =>
     cases h2:plain kv with
     | false=>simp [h1,h2] at h
     | true =>
      simp only [h1,h2,zC] at h
      cases hg:gt x.σ.h q with
      | none=>simp [hg] at h
      | some b =>
       cases b with
       | map es cl =>
        simp only [hg] at h
        obtain ⟨i,es',hi,rfl,hl,hr,ho⟩:=qu7 hx (m:=.map q) hm hg
        have tup2:∀ {y:Cx} {p:U} {p':Value} {n:Nat},Rel y p p'→Rel y (.tup [p,.int .i64 n]) (.tuple #[p',.int .i64 n]):=fun {y p p' n} hp=>by
         simp only [Rel]; exact ⟨[p',.int .i64 n],rfl,by simp [q3w,hp,Rel],rfl⟩
        cases hf:qh3 T kt kv es 0 with
        | none=>simp [hf] at h
        | some f =>
         rcases qhz 0 hr hf with ⟨rfl,f1⟩ | ⟨j,u,w,rfl,f1,f2,f3,d,d',f4,f5,f6,f7,f8,f9⟩
         ·simp only [hf] at h
          cases hinf:T.inf et with
          | none=>simp [hinf] at h
          | some z =>
           obtain ⟨z1,z2,z⟩:=z
           simp only [hinf] at h
           cases hz:ofV z with
           | none=>simp [hz] at h
           | some zu =>
            simp only [hz,zA,zB] at h
            obtain ⟨rfl,rfl⟩:=h
            exact ⟨.tuple #[z,.int .i64 cl],_,by simp only [qjk,hd,h1,h2,zC,ho,f1,hinf],rfl,tup2 ((qid _ _ hz).2 _),qha hx hg hi hl (hr.snoc hk ((qid _ _ hz).2 x) cl)⟩
         ·simp only [Nat.sub_zero] at f4 f6
          simp only [hf,q2l,f4] at h
          cases hke:toV d.key with
          | none=>simp [hke] at h
          | some kv' =>
           simp only [hke] at h
           have e1:=(q7v _ _ hke x d'.key).1 f7
           cases hveq:veq 50 kv' kv with
           | false=>simp [hveq] at h
           | true =>
            simp only [hveq,zC,zA,zB] at h
            obtain ⟨rfl,rfl⟩:=h
            have hout:=qha hx hg hi hl (cl1:=cl) hr
            exact ⟨.tuple #[w,.int .i64 d'.born],_,by simp only [qjk,hd,h1,h2,zC,ho,f1,q2l,f6,e1,hveq],rfl,by rw [f8]; exact tup2 (hout.mo.ke _ _ (Rel.bel _ _ f2) f2),hout⟩
       | _=>simp [hg] at h
  | _=>simp [hd] at h
 | _=>simp [hd] at h
theorem qx6 {st:U} {sv:Value} (h:qx5 x.σ m st v=some (r,σ')) (hm:Rel x m mv) (hs:Rel x st sv) (hv:Rel x v vv):∃ rv y,qq8 x.s mv sv vv=some (rv,y.s)∧y.σ=σ'∧Rel y r rv∧Out x y:=by
 unfold qx5 at h
 cases m with
 | map q =>
  cases st with
  | int k b =>
   simp only at h
   simp only [Rel] at hs
   subst hs
   cases hg:gt x.σ.h q with
   | none=>simp [hg] at h
   | some bb =>
    cases bb with
    | map es cl =>
     simp only [hg] at h
     obtain ⟨i,es',hi,rfl,hl,hr,ho⟩:=qu7 hx (m:=.map q) hm hg
     cases hb:qwp b es 0 with
     | none=>simp [hb] at h
     | some j =>
      simp only [hb,zA,zB] at h
      obtain ⟨rfl,rfl⟩:=h
      rw [qth 0 hr] at hb
      exact ⟨undef,_,by simp only [qq8,ho,hb],rfl,by simp [Rel],qha hx hg hi hl (hr.mod j hv)⟩
    | _=>simp [hg] at h
  | _=>simp at h
 | _=>simp at h
theorem z4k (h:delU T x.σ t m k=some (r,σ')) (hm:Rel x m mv) (hk:Rel x k kv):∃ rv y,delX T x.s t mv kv=some (rv,y.s)∧y.σ=σ'∧Rel y r rv∧Out x y:=by
 unfold delU at h
 cases hd:T.und t with
 | none=>simp [hd] at h
 | some d =>
 cases d with
 | map kt et =>
  cases m with
  | map q =>
   simp only [hd] at h
   cases hkv:toV k with
   | none=>simp [hkv] at h
   | some kv0 =>
    simp only [hkv] at h
    have e0:=(q7v _ _ hkv x kv).1 hk
    subst e0
    cases h1:qjf T 50 kt kv with
    | false=>simp [h1] at h
    | true =>
     simp only [h1,zC] at h
     cases hg:gt x.σ.h q with
     | none=>simp [hg] at h
     | some b =>
      cases b with
      | map es cl =>
       simp only [hg] at h
       obtain ⟨i,es',hi,rfl,hl,hr,ho⟩:=qu7 hx (m:=.map q) hm hg
       cases hf:qh3 T kt kv es 0 with
       | none=>simp [hf] at h
       | some f =>
        rcases qhz 0 hr hf with ⟨rfl,f1⟩ | ⟨j,u,w,rfl,f1,_⟩
        ·simp only [hf,zA,zB] at h
         obtain ⟨rfl,rfl⟩:=h
         exact ⟨undef,_,by simp only [delX,hd,h1,zC,ho,f1],rfl,by simp [Rel],qha hx hg hi hl hr⟩
        ·simp only [hf,zA,zB] at h
         obtain ⟨rfl,rfl⟩:=h
         exact ⟨undef,_,by simp only [delX,hd,h1,zC,ho,f1],rfl,by simp [Rel],qha hx hg hi hl (hr.erase j)⟩
      | _=>simp [hg] at h
  | _=>simp [hd] at h
 | _=>simp [hd] at h
theorem z0h {d s:U} {dv sv:Value} (h:z4i T x.σ t d s=some (r,σ')) (hd':Rel x d dv) (hs':Rel x s sv):∃ rv y,qx1 T x.s t dv sv=some (rv,y.s)∧y.σ=σ'∧Rel y r rv∧Out x y:=by
 unfold z4i at h
 cases hd:T.und t with
 | none=>simp [hd] at h
 | some dd =>
 cases dd with
 | slice e =>
  simp only [hd] at h
  cases hs:sizeX T e with
  | none=>simp [hs] at h
  | some sz =>
   simp only [hs] at h
   cases hsrc:srcU x.σ sz s with
   | none=>simp [hsrc] at h
   | some q =>
    obtain ⟨k,cs⟩:=q
    simp only [hsrc] at h
    cases d with
    | sl a off n c =>
     simp only at h
     cases hrow:rowOf x.σ a with
     | none=>simp [hrow] at h
     | some l =>
      simp only [hrow] at h
      split at h
      ·cases h
      ·rename_i hpos
       have hpos':0<n∧0<k∧0<sz:=by omega
       obtain ⟨b,c0,vs,_,hsv,hc,hr,hk⟩:=qph hx hpos'.2.2 hsrc hs'
       obtain rfl:sv = .slice b k c0:=by
        rcases hsv with hsv | ⟨h0,_⟩
        ·exact hsv
        ·omega
       have hlen:=qzf hsrc
       cases hput:putU l off (cs.take (Nat.min k n*sz)) with
       | none=>simp [hput] at h
       | some l1 =>
        simp only [hput] at h
        obtain ⟨e',hg,hl⟩:=qjs hrow
        obtain ⟨i,hi,rfl,_⟩:=qeg hl hd'
        obtain ⟨_,k1,i',lv,e1,e2,e3⟩:=hx.ok a _ hg
        rw [hi] at e1; cases e1
        simp only [putOf,hg,zA,zB] at h
        obtain ⟨rfl,rfl⟩:=h
        have hmn:Nat.min k n*sz≤k*sz:=Nat.mul_le_mul_right _ (Nat.min_le_left _ _)
        have hmp:0<Nat.min k n*sz:=Nat.mul_pos (by simp [Nat.min_def]; split<;>omega) hpos'.2.2
        have hcells:q5z x.s b (Nat.min k n*sz)=some (vs.take (Nat.min k n*sz)):=by
         obtain ⟨q1,hq1⟩:∃ q,k*sz=q+1:=⟨k*sz - 1,by have:=Nat.mul_pos hpos'.2.1 hpos'.2.2; omega⟩
         obtain ⟨q2,hq2⟩:∃ q,Nat.min k n*sz=q+1:=⟨Nat.min k n*sz - 1,by omega⟩
         rw [hq1] at hc
         rw [hq2]
         unfold q5z at hc ⊢
         cases b with
         | none=>simp at hc
         | some a =>
          simp only at hc ⊢
          cases hlk:lk x.s.h a.block with
          | none=>simp [hlk] at hc
          | some bb =>
           rcases bb with ⟨l0,e0,md0⟩ | ⟨m0,c1⟩
           ·simp only [hlk] at hc ⊢
            obtain ⟨s1,s2⟩:=qiu hc
            rw [s1,qrr (by omega),List.take_take]
            congr 2
            omega
           ·simp [hlk] at hc
        have hrt:=hr.take (Nat.min k n*sz)
        have hkt:=qbz hk (Nat.min k n*sz)
        obtain ⟨rv,p1,p2,p3⟩:=qox hput e3 hrt
        have hown:ownRow x.s i=some (lv,e',0):=by simp [ownRow,e2]
        refine ⟨.int .i64 (Nat.min k n),⟨x.ρ,⟨ug x.σ.h a (.row l1 e'),x.σ.nx⟩,⟨up x.s.h i (.inl (rv,e',0)),x.s.nx⟩⟩,?_,rfl,by simp [Rel],qge hx hg hi e2 rfl (by simp) fun y h1 h2 hm=>⟨p3 k1 hkt,i,rv,h1,h2,hm.ke.E p2.bel p2⟩⟩
        simp only [qx1,hd,hs,hcells,qb2 hrt hkt,zC]
        cases hv:vs.take (Nat.min k n*sz) with
        | nil =>
         exfalso
         have h1:=hrt.2
         rw [hv] at h1
         have h2:cs.length=k*sz:=hlen
         rw [List.length_take,h2,Nat.min_eq_left hmn] at h1
         simp only [zS] at h1
         omega
        | cons v0 vs0=>rw [hv] at p1; simp only [hown,p1]
    | _=>simp at h
 | _=>simp [hd] at h
theorem qs7 {xt:TypeId} {a b:U} {va vb:Value} (h:qo5 T x.σ t xt a b=some (r,σ')) (ha:Rel x a va) (hb:Rel x b vb):∃ v y,qgx T x.s t xt va vb=some (v,y.s)∧y.σ=σ'∧Rel y r v∧Out x y:=by
 unfold qo5 at h
 split at h
 ·rename_i e kd kd' i hd hd2
  simp only [Rel] at ha hb
  subst ha; subst hb
  split at h
  ·rename_i sz by_ z hi
   split at h
   ·rename_i zu hz
    split at h
    ·rename_i hc
     obtain ⟨c1,c2,c3,c4,c5⟩:=hc
     simp only [zA,zB] at h
     obtain ⟨rfl,rfl⟩:=h
     obtain ⟨k,hk⟩:∃ k,i.toNat=k+1:=⟨i.toNat - 1,by omega⟩
     have hw:IntKind.i64.wrap i=Int.ofNat (k+1):=by
      rw [wrap_i64 (by omega) (by omega),← hk]; simp; omega
     have hzr:=(qej _ _ hz).2 x
     have hrel:q1l x (zerosU zu (k+1)) (zeros z.cells.toList (k+1)):=qe4 hzr (k+1)
     have hok:okL (zerosU zu (k+1))=true:=qpq c5 _
     have h1:=qb2 hrel hok
     have hroom:qft (k+1) by_=true:=qis (by rw [← hk]; exact c2) (by rw [← hk]; exact c3)
     have hb:Nat.beq z.cells.toList.length (sz+1)=true:=by simp [beq_eq,c4]
     rw [hk]
     refine ⟨.slice (some ⟨x.s.nx,0,none⟩) (k+1) q05,_,?_,rfl,qgc,qg8 hx (qmv hrel) (by rw [qo2]; exact hok) e (by omega)⟩
     have hn:q5y T x.s t xt (.slice none 0 0) (.int kd' i)=none:=by simp [q5y,isW,qff,q4z,hd,hd2]
     simp only [qgx,hn,qo4,hd,hd2,hi,hw,hroom,hb,h1,zC]
     rfl
    ·cases h
   ·cases h
  ·cases h
 ·cases h
theorem qs8 {xt:TypeId} {a b:U} {va vb:Value} (h:qku T x.σ t xt a b=some (r,σ')) (ha:Rel x a va) (hb:Rel x b vb):∃ v y,qgx T x.s t xt va vb=some (v,y.s)∧y.σ=σ'∧Rel y r v∧Out x y:=by
 unfold qku at h
 split at h
 ·rename_i q hq
  cases h
  obtain ⟨v,y,h1,h2,h3,h4⟩:=qvb hx hq ha hb
  exact ⟨v,y,by simp only [qgx,h1],h2,h3,h4⟩
 ·exact qs7 hx h ha hb
theorem qx0 {d:U} {dv:Value} (h:qwz T x.σ t d=some (r,σ')) (hd':Rel x d dv):∃ rv y,qlh T x.s t dv=some (rv,y.s)∧y.σ=σ'∧Rel y r rv∧Out x y:=by
 unfold qwz at h
 cases hd:T.und t with
 | none=>simp [hd] at h
 | some dd =>
 cases dd with
 | slice e =>
  simp only [hd] at h
  cases hi:T.inf e with
  | none=>simp [hi] at h
  | some q =>
   obtain ⟨sz,by_,z⟩:=q
   simp only [hi] at h
   cases hz:ofVL z.cells.toList with
   | none=>simp [hz] at h
   | some zu =>
    simp only [hz] at h
    have hzr:=(qej _ _ hz).2 x
    cases hok:okL zu with
    | false=>simp [hok] at h
    | true =>
    rw [hok] at h
    cases hlen:Nat.beq z.cells.toList.length sz with
    | false=>rw [hlen] at h; cases h
    | true =>
     rw [hlen] at h
     simp only [zC] at h
     have hzl:zu.length=sz:=by rw [hzr.2]; simpa [beq_eq] using hlen
     have hzr:=qmv hzr
     have hzl:(wkZ zu).length=sz:=by rw [qpp]; exact hzl
     cases d with
     | nils =>
      simp only [zA,zB] at h
      obtain ⟨rfl,rfl⟩:=h
      simp only [Rel] at hd'
      subst hd'
      exact ⟨undef,x,by simp [qlh,hd],rfl,by simp [Rel],Out.refl hx⟩
     | vl k st off n =>
      simp only at h
      cases hv:vecOf x.σ k st with
      | none=>simp [hv] at h
      | some q =>
       obtain ⟨l,e',sz'⟩:=q
       simp only [hv] at h
       cases hs:Nat.beq sz' sz with
       | false=>simp [hs] at h
       | true =>
        have hs':sz'=sz:=by simpa [beq_eq] using hs
        subst hs'
        simp only [hs,zC] at h
        obtain ⟨hg,hl⟩:=qgh hv
        simp only at hg
        obtain ⟨l2,e2,sz2,hg2,hvo⟩:=qh9 hl hd'
        rw [hg] at hg2; cases hg2
        by_cases hn:n=0
        ·simp only [hn,if_true,zA,zB] at h
         obtain ⟨rfl,rfl⟩:=h
         obtain ⟨a,c,rfl⟩:=qzr hvo
         subst hn
         exact ⟨undef,x,by simp [qlh,hd],rfl,by simp [Rel],Out.refl hx⟩
        ·simp only [hn,if_false] at h
         cases hp:putU l (off*sz') (zerosU (wkZ zu) n) with
         | none=>simp [hp] at h
         | some l1 =>
          simp only [hp,zA,zB] at h
          obtain ⟨rfl,rfl⟩:=h
          obtain ⟨_,k1,k2,k3⟩:=hx.ok k _ hg
          rcases k3 with ⟨rfl,hno⟩ | ⟨i,lv,hi1,hi2,hi3⟩
          ·exfalso
           have:=(qr6 hp).1
           simp only [zerosU,List.length_flatten,List.map_replicate,List.sum_replicate_nat,hzl,zS] at this
           have:=Nat.mul_pos (Nat.pos_of_ne_zero hn) k2
           omega
          ·rw [hi1] at hvo
           simp only [qzv] at hvo
           rcases hvo with ⟨_,h0,_⟩ | rfl
           ·exact absurd h0 hn
           ·obtain ⟨rv,p1,p2,p3⟩:=qox hp hi3 (qe4 hzr n)
            obtain ⟨n',rfl⟩:∃ n',n=n'+1:=⟨n - 1,by omega⟩
            have hzo:=qpq (zu:=wkZ zu) (by rw [qo2]; exact hok) (n'+1)
            have h1:=qb2 (qe4 hzr (n'+1)) hzo
            have hown:ownRow x.s i=some (lv,e',sz'+2):=by simp [ownRow,hi2]
            refine ⟨undef,⟨x.ρ,⟨ug x.σ.h k (.vec l1 e' sz' st),x.σ.nx⟩,⟨up x.s.h i (.inl (rv,e',sz'+2)),x.s.nx⟩⟩,?_,rfl,by simp [Rel],qge hx hg hi1 hi2 rfl (by rintro l e sz st h; cases h; exact ⟨_,rfl⟩) fun y h1 h2 hm=>⟨p3 k1 hzo,k2,.inr ⟨i,rv,h1,h2,hm.ke.E p2.bel p2⟩⟩⟩
            simp only [qlh,hd,hi,h1,zC,hown,p1]
     | _=>simp at h
 | _=>simp [hd] at h
theorem z4l {tm:List U} {tv:List Value} (ht:q1l x tm tv) {op:Op} {u:U} (h:effU T x.σ tm op=some (u,σ')):Sim T x tv op u σ':=by
 have fin:∀ {v:Value} {y:Cx},q53 T tv op=none→q8y T tv x.s op=none→qn0 T tv x.s op=some (v,y.s)→y.σ=σ'→Rel y u v→Out x y→Sim T x tv op u σ':=fun {v y} h1 h2 h3 h4 h5 h6=>⟨v,y,qub h1 h2 h3,h4,h5,h6⟩
 unfold effU at h
 cases op with
 | alloc e =>
  simp only at h
  cases hi:T.inf e with
  | none=>simp [hi] at h
  | some q =>
   obtain ⟨a,b,z⟩:=q
   simp only [hi] at h
   cases hz:ofVL z.cells.toList with
   | none=>simp [hz] at h
   | some zu =>
    simp only [hz] at h
    cases hk:okL zu with
    | false=>simp [hk] at h
    | true =>
     simp only [hk,zC,zA,zB] at h
     obtain ⟨rfl,rfl⟩:=h
     exact fin (v:=.pointer (some ⟨x.s.nx,0,none⟩)) rfl rfl (by simp only [qn0,hi]) rfl (by simp only [Rel]; exact ⟨rfl,qmh rfl ⟨_,rfl,rfl⟩⟩) (qg7 hx ((qej _ _ hz).2 x) hk e)
 | box e o =>
  simp only at h
  cases ho:evalU tm o with
  | none=>simp [ho] at h
  | some a =>
   simp only [ho] at h
   obtain ⟨va,a1,a2⟩:=q0t ht ho
   cases hc:cellsO a with
   | none=>simp [hc] at h
   | some cs =>
    simp only [hc] at h
    obtain ⟨c1,c2⟩:=qle a2 hc
    simp only [c2,zC,zA,zB] at h
    obtain ⟨rfl,rfl⟩:=h
    exact fin (v:=.pointer (some ⟨x.s.nx,0,none⟩)) rfl rfl (by simp only [qn0,a1]) rfl (by simp only [Rel]; exact ⟨rfl,qmh rfl ⟨_,rfl,rfl⟩⟩) (qg7 hx c1 c2 e)
 | store t a b =>
  simp only at h
  cases ha:evalU tm a with
  | none=>simp [ha] at h
  | some au =>
   cases hb:evalU tm b with
   | none=>simp [ha,hb] at h
   | some bu =>
    simp only [ha,hb] at h
    obtain ⟨va,a1,a2⟩:=q0t ht ha
    obtain ⟨vb,b1,b2⟩:=q0t ht hb
    obtain ⟨v,y,h1,h2,h3,h4⟩:=qzk hx h a2 b2
    exact fin rfl rfl (by simp only [qn0,a1,b1,h1]) h2 h3 h4
 | buildSlice t n ps =>
  simp only at h
  cases hp:evalUP tm ps.toList with
  | none=>simp [hp] at h
  | some qs =>
   simp only [hp] at h
   obtain ⟨vs,h1,h2⟩:=qlo ht hp
   obtain ⟨v,y,h3,h4,h5,h6⟩:=qqx hx h h2
   exact fin rfl rfl (by simp only [qn0,h1,h3]) h4 h5 h6
 | makeSlice t a b =>
  simp only at h
  cases ha:evalU tm a with
  | none=>simp [ha] at h
  | some au =>
   cases hb:evalU tm b with
   | none=>simp [ha,hb] at h
   | some bu =>
    simp only [ha,hb] at h
    obtain ⟨va,a1,a2⟩:=q0t ht ha
    obtain ⟨vb,b1,b2⟩:=q0t ht hb
    obtain ⟨v,y,h1,h2,h3,h4⟩:=z1i hx h a2 b2
    exact fin rfl rfl (by simp only [qn0,a1,b1,h1]) h2 h3 h4
 | makeMap t r =>
  cases r with
  | none =>
   simp only [zA,zB] at h
   obtain ⟨rfl,rfl⟩:=h
   exact fin (v:=.map (some x.s.nx)) rfl rfl (by simp only [qn0]) rfl (by simp only [Rel]; exact ⟨rfl,qmh rfl ⟨_,rfl,rfl⟩⟩) (qpj hx (.map [] 0) (.inr ([],0)) fun y h1 h2 hm=>⟨_,[],h1,h2,rfl,by simp⟩)
  | some r=>simp at h
 | mapUpdate t m k v =>
  simp only at h
  cases hm:evalU tm m with
  | none=>simp [hm] at h
  | some mu =>
   cases hk:evalU tm k with
   | none=>simp [hm,hk] at h
   | some ku =>
    cases hv:evalU tm v with
    | none=>simp [hm,hk,hv] at h
    | some vu =>
     simp only [hm,hk,hv] at h
     obtain ⟨va,a1,a2⟩:=q0t ht hm
     obtain ⟨vb,b1,b2⟩:=q0t ht hk
     obtain ⟨vc,c1,c2⟩:=q0t ht hv
     obtain ⟨w,y,h1,h2,h3,h4⟩:=qqz hx h a2 b2 c2
     exact fin rfl rfl (by simp only [qn0,a1,b1,c1,h1]) h2 h3 h4
 | insert t m k v =>
  simp only at h
  cases hm:evalU tm m with
  | none=>simp [hm] at h
  | some mu =>
   cases hk:evalU tm k with
   | none=>simp [hm,hk] at h
   | some ku =>
    cases hv:evalU tm v with
    | none=>simp [hm,hk,hv] at h
    | some vu =>
     simp only [hm,hk,hv] at h
     obtain ⟨va,a1,a2⟩:=q0t ht hm
     obtain ⟨vb,b1,b2⟩:=q0t ht hk
     obtain ⟨vc,c1,c2⟩:=q0t ht hv
     obtain ⟨w,y,h1,h2,h3,h4⟩:=qqz hx h a2 b2 c2
     exact fin rfl rfl (by simp only [qn0,a1,b1,c1,h1]) h2 h3 h4
 | mapEntry t m k =>
  simp only at h
  cases hm:evalU tm m with
  | none=>simp [hm] at h
  | some mu =>
   cases hk:evalU tm k with
   | none=>simp [hm,hk] at h
   | some ku =>
    simp only [hm,hk] at h
    obtain ⟨va,a1,a2⟩:=q0t ht hm
    obtain ⟨vb,b1,b2⟩:=q0t ht hk
    obtain ⟨w,y,h1,h2,h3,h4⟩:=qvs hx h a2 b2
    exact fin rfl rfl (by simp only [qn0,a1,b1,h1]) h2 h3 h4
 | entryStore t m k v =>
  simp only at h
  cases hm:evalU tm m with
  | none=>simp [hm] at h
  | some mu =>
   cases hk:evalU tm k with
   | none=>simp [hm,hk] at h
   | some ku =>
    cases hv:evalU tm v with
    | none=>simp [hm,hk,hv] at h
    | some vu =>
     simp only [hm,hk,hv] at h
     obtain ⟨va,a1,a2⟩:=q0t ht hm
     obtain ⟨vb,b1,b2⟩:=q0t ht hk
     obtain ⟨vc,c1,c2⟩:=q0t ht hv
     obtain ⟨w,y,h1,h2,h3,h4⟩:=qx6 hx h a2 b2 c2
     exact fin rfl rfl (by simp only [qn0,a1,b1,c1,h1]) h2 h3 h4
 | call c =>
  simp only at h
  obtain ⟨callee,args,ats⟩:=c
  cases callee with
  | builtin b =>
   have two:∀ {us:List U} {a b:U},evalUL tm args.toList=some us→us=[a,b]→∃ va vb,q6j tv args.toList=some [va,vb]∧Rel x a va∧Rel x b vb:=fun {us a b} h1 h2=>by
    subst h2
    obtain ⟨vs,a1,a2⟩:=q92 ht h1
    obtain ⟨va,vs',rfl,r1,r2⟩:=a2.inv
    obtain ⟨vb,vs'',rfl,r3,r4⟩:=r2.inv
    rw [r4.nil_inv] at a1
    exact ⟨va,vb,a1,r1,r3⟩
   cases b with
   | append =>
    simp only at h
    split at h
    ·rename_i a b t xt h1 h2
     obtain ⟨va,vb,e1,r1,r2⟩:=two h1 rfl
     obtain ⟨w,y,q1,q2,q3,q4⟩:=qs8 hx h r1 r2
     exact fin (by simp only [q53]) (by simp only [q8y]) (by simp only [qn0,e1,h2,q1]) q2 q3 q4
    ·cases h
   | copy =>
    simp only at h
    split at h
    ·rename_i a b t ts h1 h2
     obtain ⟨va,vb,e1,r1,r2⟩:=two h1 rfl
     obtain ⟨w,y,q1,q2,q3,q4⟩:=z0h hx h r1 r2
     exact fin (by simp only [q53]) (by simp only [q8y]) (by simp only [qn0,e1,h2,q1]) q2 q3 q4
    ·cases h
   | delete =>
    simp only at h
    split at h
    ·rename_i a b t ts h1 h2
     obtain ⟨va,vb,e1,r1,r2⟩:=two h1 rfl
     obtain ⟨w,y,q1,q2,q3,q4⟩:=z4k hx h r1 r2
     exact fin (by simp only [q53]) (by simp only [q8y]) (by simp only [qn0,e1,h2,q1]) q2 q3 q4
    ·cases h
   | clear =>
    simp only at h
    split at h
    ·rename_i a t ts h1 h2
     obtain ⟨vs,a1,a2⟩:=q92 ht h1
     obtain ⟨va,vs',rfl,r1,r2⟩:=a2.inv
     rw [r2.nil_inv] at a1
     obtain ⟨w,y,q1,q2,q3,q4⟩:=qx0 hx h r1
     exact fin (by simp only [q53]) (by simp only [q8y]) (by simp only [qn0,a1,h2,q1]) q2 q3 q4
    ·cases h
   | _=>simp at h
  | _=>simp at h
 | _=>simp at h
theorem op_sim {tm:List U} {tv:List Value} (ht:q1l x tm tv) {op:Op} {u:U} (h:opU T x.σ tm op=some (u,σ')):Sim T x tv op u σ':=by
 unfold opU at h
 cases h1:pureU T x.σ tm op with
 | some v=>simp only [h1,zA,zB] at h; obtain ⟨rfl,rfl⟩:=h; exact z1u hx ht h1
 | none =>
  simp only [h1] at h
  cases h2:readU T x.σ tm op with
  | some v=>simp only [h2,zA,zB] at h; obtain ⟨rfl,rfl⟩:=h; exact qun hx ht h2
  | none=>simp only [h2] at h; exact z4l hx ht h
omit hx in
theorem qti {tm:List U} {tv:List Value} (ht:q1l x tm tv) {op:Op} {f:FuncId} {args:List U} (h:q6u T tm op=some (f,args)):∃ vs,callOf T tv op=some (f,vs)∧q1l x args vs:=by
 unfold q6u at h
 cases op with
 | call c =>
  simp only at h
  obtain ⟨callee,as,ats⟩:=c
  cases callee with
  | value o =>
   simp only at h
   cases ho:evalU tm o with
   | none=>simp [ho] at h
   | some a =>
    obtain ⟨va,a1,a2⟩:=q0t ht ho
    cases a with
    | fn fn first cap =>
     cases fn with
     | func g =>
      simp only [ho] at h
      simp only [Rel] at a2
      obtain ⟨p,q,rfl,r1,r2,r3,r4⟩:=a2
      cases hg:T.fn g with
      | none=>simp [hg] at h
      | some fd =>
       simp only [hg] at h
       cases hbd:fd.body.isSome with
       | false=>simp [hbd] at h
       | true =>
        simp only [hbd,zC] at h
        cases hl:evalUL tm as.toList with
        | none=>simp [hl] at h
        | some us =>
         simp only [hl,zA,zB] at h
         obtain ⟨rfl,rfl⟩:=h
         obtain ⟨vs,e1,e2⟩:=q92 ht hl
         exact ⟨p++vs++q,by simp only [callOf,a1,hg,hbd,zC,e1],((show q1l x first p from ⟨r1,r2⟩).append e2).append ⟨r3,r4⟩⟩
     | _=>simp [ho] at h
    | _=>simp [ho] at h
  | _=>simp at h
 | _=>simp at h
end
end Go.Vx
end
