/-
  Texts of the walk: VxH VxI VxJ VxK.
-/
import Derived.Test.YtafbldphahfemaaP5
section
namespace Go.Vx
open Go Go.Rx
set_option linter.unusedVariables false
theorem q9y {n b:Nat} (h1:n*b≤140737488355328) (h2:n≤140737488355328):roomX n b=true:=by
 simp [roomX,Nat.ble_eq_true_of_le h1,Nat.ble_eq_true_of_le h2]
theorem qaa {s:S} {i off n:Nat} {l:List Value} {e:TypeId} {md:Nat} (hl:lk s.h i=some (.inl (l,e,md))) (h:off+n≤l.length):cellsX s (some ⟨i,off,none⟩) n=some ((l.drop off).take n):=by
 cases n with
 | zero=>simp [cellsX]
 | succ n=>simp only [cellsX,hl]; exact seg_of h
theorem qbx (s:S) (b:Option Addr):cellsX s b 0=some []:=rfl
section
variable {T:Tb} {x:Cx} (hx:HRel x)
include hx
theorem src_sim {sz:Nat} (hsz:0<sz) {u:U} {v:Value} {k:Nat} {new:List U} (h:srcU x.σ sz u=some (k,new)) (hr:Rel x u v):∃ b c vs,flatW v = .slice b k c∧(v = .slice b k c∨k=0∧b=none∧c=0∧new=[]∧∃ r,v = .chan (some r))∧cellsX x.s b (k*sz)=some vs∧RelE x new vs∧okL new=true:=by
 unfold srcU at h
 cases u with
 | nils =>
  simp only [Option.some.injEq,Prod.mk.injEq] at h
  obtain ⟨rfl,rfl⟩:=h
  simp only [Rel] at hr
  subst hr
  exact ⟨none,0,[],rfl,.inl rfl,by rw [Nat.zero_mul]; rfl,RelE.nil x,rfl⟩
 | isl t l =>
  simp only at h
  split at h
  ·rename_i hall
   simp only [Option.some.injEq,Prod.mk.injEq] at h
   obtain ⟨rfl,rfl⟩:=h
   simp only [Rel] at hr
   rcases hr with ⟨rfl,rfl | ⟨r,rfl⟩⟩ | ⟨i,off,c,rfl,_,hrow⟩
   ·exact ⟨none,0,[],rfl,.inl rfl,by rw [List.length_nil,Nat.zero_mul]; rfl,RelE.nil x,rfl⟩
   ·exact ⟨none,0,[],rfl,.inr ⟨rfl,rfl,rfl,rfl,r,rfl⟩,by rw [List.length_nil,Nat.zero_mul]; rfl,RelE.nil x,rfl⟩
   ·by_cases hne:l=[]
    ·subst hne
     exact ⟨_,c,[],rfl,.inl rfl,by rw [List.length_nil,Nat.zero_mul]; rfl,RelE.nil x,rfl⟩
    ·rcases hrow with hrow | ⟨row,e,sz',g1,g2,g3⟩
     ·exact absurd hrow hne
     ·have:=relR_sz g2 hne hall
      subst this
      obtain ⟨f1,f2⟩:=relR_flat g2
      have hlen:=qbh g2
      rw [List.length_drop] at hlen
      have:0<l.length*sz':=Nat.mul_pos (by cases l<;>simp_all) hsz
      exact ⟨_,c,_,rfl,.inl rfl,qaa g1 (by omega),f1,f2⟩
  ·cases h
 | sl k' off n c =>
  simp only at h
  cases hrow:rowOf x.σ k' with
  | none=>simp [hrow] at h
  | some l =>
   simp only [hrow] at h
   cases hs:segU l off (n*sz) with
   | none=>simp [hs] at h
   | some cs =>
    simp only [hs,Option.some.injEq,Prod.mk.injEq] at h
    obtain ⟨rfl,rfl⟩:=h
    obtain ⟨e,hg,hl⟩:=qas hrow
    obtain ⟨i,hi,rfl,_⟩:=q7d hl hr
    obtain ⟨_,k1,i',lv,e1,e2,e3⟩:=hx.ok k' _ hg
    rw [hi] at e1; cases e1
    obtain ⟨s1,s2⟩:=segU_ok hs e3
    obtain ⟨q1,rfl⟩:=q6t hs
    exact ⟨_,c,_,rfl,.inl rfl,qaa e2 (by rw [← e3.2]; exact q1),qcp s2,by rw [wkZ_ok]; exact q76 (q4p k1 _) _⟩
 | vl k' st off n =>
  simp only at h
  cases hv:vecOf x.σ k' st with
  | none=>simp [hv] at h
  | some q =>
   obtain ⟨l,e,sz'⟩:=q
   obtain ⟨hg,hl⟩:=q8v hv
   simp only [hv,beq_eq] at h
   by_cases hz:sz'=sz
   ·subst hz
    simp only [decide_true,cond_true] at h
    cases hs:segU l (off*sz') (n*sz') with
    | none=>simp [hs] at h
    | some cs =>
     simp only [hs,Option.some.injEq,Prod.mk.injEq] at h
     obtain ⟨rfl,rfl⟩:=h
     obtain ⟨q1,rfl⟩:=q6t hs
     by_cases hn:n=0
     ·subst hn
      obtain ⟨_,_,_,_,hvl⟩:=q9a hl hr
      obtain ⟨b,c,rfl⟩:=vl_len hvl
      exact ⟨b,c,[],rfl,.inl rfl,by rw [Nat.zero_mul]; rfl,by simpa using RelE.nil x,by simp [okL]⟩
     ·obtain ⟨i,l0,e0,sz0,l',h1,h2,rfl,h4,h5,h6,h7⟩:=vl_there hx hl hr (by omega)
      have:=hg.symm.trans h1
      cases this
      obtain ⟨s1,s2⟩:=segU_ok hs h5
      exact ⟨_,_,_,rfl,.inl rfl,qaa h4 (by rw [← h5.2]; exact q1),s2,q76 (q4p h7 _) _⟩
   ·simp [hz] at h
 | _=>simp at h
omit hx in
theorem qaq {l:List U} {e:TypeId} {sz N:Nat} {c:Blk}:Rel ⟨setρ x.ρ x.σ.nx (some x.s.nx),newU x.σ (.vec l e sz 0),⟨(x.s.nx,c)::x.s.h,x.s.nx+1⟩⟩ (.vl x.σ.nx 0 0 N) (.slice (some ⟨x.s.nx,0,none⟩) N capBase):=by
 simp only [Rel]
 refine ⟨rfl,by simp [newU],fun b hb=>?_⟩
 simp only [newU,q31,if_true,Option.some.injEq] at hb
 subst hb
 exact ⟨Nat.le_refl _,fun _=>⟨l,e,sz,rfl,by simp [setρ,VlOk]⟩⟩
omit hx in
theorem q7x {e:TypeId} {sz:Nat} {o:Option Addr} (ho:∀ a,o=some a→a.spot=none):Rel ⟨setρ x.ρ x.σ.nx none,newU x.σ (.vec [] e sz 0),x.s⟩ (.vl x.σ.nx 0 0 0) (.slice o 0 0):=by
 simp only [Rel]
 refine ⟨rfl,by simp [newU],fun b hb=>?_⟩
 simp only [newU,q31,if_true,Option.some.injEq] at hb
 subst hb
 exact ⟨Nat.le_refl _,fun _=>⟨[],e,sz,rfl,by simpa [setρ,VlOk] using ho⟩⟩
theorem qbq {t xt e e2:TypeId} {sz by_:Nat} {z:Value} (hd:T.und t=some (.slice e)) (hd2:T.und xt=some (.slice e2)) (hi:T.inf e=some (sz+1,by_,z)) (hz:Nat.beq z.cells.toList.length (sz+1)=true)
  {o:Option Addr} (ho:∀ a,o=some a→a.spot=none) {b:Option Addr} {k c:Nat} {new:List U} {vs:List Value} (hc:cellsX x.s b (k*(sz+1))=some vs) (hr:RelE x new vs) (hk:okL new=true) (hlen:new.length=k*(sz+1)) (hroom:k*by_≤140737488355328∧k≤140737488355328) :
  ∃ v y,appendX T x.s t xt (.slice o 0 0) (.slice b k c)=some (v,y.s)∧y.σ=newU x.σ (.vec new e (sz+1) 0)∧Rel y (.vl x.σ.nx 0 0 k) v∧Out x y:=by
 cases k with
 | zero =>
  have:new=[]:=List.eq_nil_of_length_eq_zero (by rw [hlen]; simp)
  subst this
  rw [hr.nil_inv] at hc
  refine ⟨.slice o 0 0,⟨setρ x.ρ x.σ.nx none,newU x.σ (.vec [] e (sz+1) 0),x.s⟩,?_,rfl,q7x ho,qa4 hx e (sz+1) (by omega)⟩
  simp only [appendX,isW,flatW,cond_false,appendX0,hd,hd2,hi,hc,allOne,cond_true,cap0]
  rfl
 | succ k =>
  refine ⟨.slice (some ⟨x.s.nx,0,none⟩) (k+1) capBase,_,?_,rfl,qaq,qam hx hr hk e (by omega)⟩
  simp only [appendX,isW,flatW,cond_false,appendX0,hd,hd2,hi,hc,q60 hr hk,cond_true,growX,cap0,show Nat.ble (k+1) 0=false from rfl,cond_false,Nat.zero_mul,qbx,hz,Nat.zero_add,q9y hroom.1 hroom.2,List.nil_append,Rx.newRow]
theorem q92 {t xt e e2:TypeId} {sz by_:Nat} {z:Value} (hd:T.und t=some (.slice e)) (hd2:T.und xt=some (.slice e2)) (hi:T.inf e=some (sz+1,by_,z)) (hz:Nat.beq z.cells.toList.length (sz+1)=true)
  {o:Option Addr} {n cp:Nat} {old:List U} {ov:List Value} (hcp:cp<capBase) (hold:cellsX x.s o (n*(sz+1))=some ov) (hor:RelE x old ov) (hok:okL old=true) {b:Option Addr} {k c:Nat} {new:List U} {vs:List Value} (hc:cellsX x.s b (k*(sz+1))=some vs) (hr:RelE x new vs) (hk:okL new=true)
  (hk0:0<k) (hfull:cp<n+k) (hroom:(n+k)*by_≤140737488355328∧n+k≤140737488355328) :
  ∃ v y,appendX T x.s t xt (.slice o n cp) (.slice b k c)=some (v,y.s)∧y.σ=newU x.σ (.vec (old++new) e (sz+1) 0)∧Rel y (.vl x.σ.nx 0 0 (n+k)) v∧Out x y∧∃ b n c,v = .slice (some b) n c:=by
 cases k with
 | zero=>omega
 | succ k =>
  refine ⟨.slice (some ⟨x.s.nx,0,none⟩) (n+(k+1)) capBase,_,?_,rfl,qaq,qam hx (hor.append hr) (q4a hok hk) e (by omega),_,_,_,rfl⟩
  have h1:Nat.ble (n+(k+1)) cp=false:=by
   cases h:Nat.ble (n+(k+1)) cp with
   | false=>rfl
   | true=>have:=Nat.le_of_ble_eq_true h; omega
  simp only [appendX,isW,flatW,cond_false,appendX0,hd,hd2,hi,hc,q60 hr hk,cond_true,growX,q3e hcp,h1,cond_false,hold,hz,q9y hroom.1 hroom.2,Rx.newRow]
theorem qbj {K:Nat} {l l1:List U} {e:TypeId} {sz st:Nat} (hg:gt x.σ.h K=some (.vec l e sz st)) (o:Option Nat) (s':S) (hrows:∀ i b,lk x.s.h i=some b→x.ρ K≠some i→lk s'.h i=some b) (hfresh:∀ i,o=some i→x.ρ K=some i∨x.s.nx≤i)
  (hbd:∀ i b,lk s'.h i=some b→i<s'.nx) (hk:okL l1=true) (hB:∀ y:Cx,y.s=s'→Mo x.σ.nx x y→l1=[]∧o=none∨∃ i l',o=some i∧lk s'.h i=some (.inl (l',e,sz+2))∧RelE y l1 l') :
  Out x ⟨setρ x.ρ K o,⟨ug x.σ.h K (.vec l1 e sz (st+1)),x.σ.nx⟩,s'⟩:=by
 have hsz:0<sz:=(hx.ok K _ hg).2.2.1
 refine step1 hx K (.vec l1 e sz (st+1)) (Nat.le_refl _) (hx.ok K _ hg).1 (fun k hk=>⟨by simp [gt_ug,Ne.symm hk],setρ_ne _ _ hk⟩) (by simp [gt_ug,hg]) (.inl ⟨_,hg,Nat.le_succ _,fun h=>by simp [B.st] at h⟩) (fun i b hb hne=>hrows i b hb (hne _ hg)) (fun i hi=>?_) hbd (fun hm=>⟨hk,hsz,?_⟩)
 ·change setρ _ _ _ _=some i at hi
  rw [qcl] at hi
  rcases hfresh i hi with h | h
  ·exact .inl ⟨_,hg,h⟩
  ·exact .inr h
 ·rcases hB _ rfl hm with ⟨h1,h2⟩ | ⟨i,l',h1,h2,h3⟩
  ·exact .inl ⟨h1,by simp [setρ,h2]⟩
  ·exact .inr ⟨i,l',by simp [setρ,h1],h2,h3⟩
omit hx in
theorem rel_vec {K:Nat} {l l1:List U} {e:TypeId} {sz st N:Nat} (hx:HRel x) (hg:gt x.σ.h K=some (.vec l e sz st)) {o:Option Nat} {s':S} {v:Value} (h1:v.oneCell'=true) (h:VlOk 0 N v sz o) :
  Rel ⟨setρ x.ρ K o,⟨ug x.σ.h K (.vec l1 e sz (st+1)),x.σ.nx⟩,s'⟩ (.vl K (st+1) 0 N) v:=by
 simp only [Rel]
 refine ⟨h1,(hx.ok K _ hg).1,fun b hb=>?_⟩
 simp only [gt_ug,if_true,hg,Option.map_some,Option.some.injEq] at hb
 subst hb
 exact ⟨Nat.le_refl _,fun _=>⟨l1,e,sz,rfl,by simpa [setρ] using h⟩⟩
omit hx in
theorem src_len {sz:Nat} {u:U} {k:Nat} {new:List U} (h:srcU x.σ sz u=some (k,new)):new.length=k*sz:=by
 unfold srcU at h
 cases u with
 | nils=>simp only [Option.some.injEq,Prod.mk.injEq] at h; obtain ⟨rfl,rfl⟩:=h; simp
 | isl t l =>
  simp only at h
  split at h
  ·rename_i hall
   simp only [Option.some.injEq,Prod.mk.injEq] at h
   obtain ⟨rfl,rfl⟩:=h
   have:=all_sz hall
   clear hall
   induction l with
   | nil=>simp
   | cons c l ih =>
    have h1:=this c (by simp)
    have h2:=ih fun d hd=>this d (by simp [hd])
    simp only [List.flatten_cons,List.length_append,List.length_cons,Nat.succ_mul,h2,h1]
    omega
  ·cases h
 | sl k' off n c =>
  simp only at h
  cases hrow:rowOf x.σ k' with
  | none=>simp [hrow] at h
  | some l =>
   simp only [hrow] at h
   cases hs:segU l off (n*sz) with
   | none=>simp [hs] at h
   | some cs =>
    simp only [hs,Option.some.injEq,Prod.mk.injEq] at h
    obtain ⟨rfl,rfl⟩:=h
    obtain ⟨q1,rfl⟩:=q6t hs
    rw [wkZ_len]; simp; omega
 | vl k' st off n =>
  simp only at h
  cases hv:vecOf x.σ k' st with
  | none=>simp [hv] at h
  | some q =>
   obtain ⟨l,e,sz'⟩:=q
   simp only [hv,beq_eq] at h
   by_cases hz:sz'=sz
   ·simp only [hz,decide_true,cond_true] at h
    cases hs:segU l (off*sz) (n*sz) with
    | none=>simp [hs] at h
    | some cs =>
     simp only [hs,Option.some.injEq,Prod.mk.injEq] at h
     obtain ⟨rfl,rfl⟩:=h
     obtain ⟨q1,rfl⟩:=q6t hs
     simp; omega
   ·simp [hz] at h
 | _=>simp at h
theorem append_sim {t xt:TypeId} {a b r:U} {va vb:Value} {σ':Sg} (h:appendU T x.σ t xt a b=some (r,σ')) (ha:Rel x a va) (hb:Rel x b vb):∃ v y,appendX T x.s t xt va vb=some (v,y.s)∧y.σ=σ'∧Rel y r v∧Out x y:=by
 unfold appendU at h
 cases hd:T.und t with
 | none=>simp [hd] at h
 | some d =>
 cases d with
 | slice e =>
  cases hd2:T.und xt with
  | none=>simp [hd,hd2] at h
  | some d2 =>
  cases d2 with
  | slice e2 =>
   simp only [hd,hd2] at h
   cases hi:T.inf e with
   | none=>simp [hi] at h
   | some q =>
    obtain ⟨sz,by_,z⟩:=q
    cases sz with
    | zero=>simp [hi] at h
    | succ sz =>
     simp only [hi] at h
     cases hz:Nat.beq z.cells.toList.length (sz+1) with
     | false=>simp only [hz,cond_false] at h; cases h
     | true =>
      simp only [hz,cond_true] at h
      cases hsrc:srcU x.σ (sz+1) b with
      | none=>simp [hsrc] at h
      | some q =>
       obtain ⟨k,new⟩:=q
       simp only [hsrc] at h
       have hlen:=src_len hsrc
       obtain ⟨bb,c,vs,hfl,_,hc,hr,hk⟩:=src_sim hx (by omega) hsrc hb
       have happ:∀ va',appendX T x.s t xt va' vb=appendX T x.s t xt va' (.slice bb k c):=fun va'=>by
        unfold appendX; rw [hfl]; simp only [flatW,isW,cond_false]
       rw [happ]
       cases a with
       | nils =>
        simp only at h
        split at h
        ·rename_i hroom
         simp only [Option.some.injEq,Prod.mk.injEq] at h
         obtain ⟨rfl,rfl⟩:=h
         simp only [Rel] at ha
         subst ha
         exact qbq hx hd hd2 hi hz (by simp) hc hr hk hlen hroom
        ·cases h
       | isl tt l =>
        cases tt with
        | false=>simp at h
        | true =>
         simp only at h
         split at h
         ·rename_i hroom
          obtain ⟨r1,r2,r3,r4⟩:=hroom
          simp only [Option.some.injEq,Prod.mk.injEq] at h
          obtain ⟨rfl,rfl⟩:=h
          obtain ⟨o,c0,ov,_,e1,e2,e3,e4⟩:=src_sim hx (sz:=sz+1) (by omega) (u:=.isl true l) (k:=l.length) (new:=l.flatten) (by simp only [srcU,r4,if_true]) ha
          rcases e1 with e1 | ⟨el,rfl,rfl,enew,rr,rfl⟩
          case inr =>
           have hln:l=[]:=List.eq_nil_of_length_eq_zero el
           subst hln
           obtain ⟨v,y,h1,h2,h3,h4,b1,n1,c1,hv⟩:=q92 (T:=T) hx hd hd2 hi hz (n:=0) (cp:=0) (o:=none) (old:=[]) (ov:=[]) (by simp [capBase]) (by rw [Nat.zero_mul]; rfl) (RelE.nil x) rfl hc hr hk r3 (by omega) ⟨by simpa using r1,by simpa using r2⟩
           have h0:appendX0 T x.s t xt (.slice none 0 0) (.slice bb k c)=some (v,y.s):=by simpa only [appendX,isW,flatW,cond_false] using h1
           refine ⟨v,y,?_,by simpa using h2,by simpa using h3,h4⟩
           simp only [appendX,isW,flatW,cond_true,cond_false,h0,hv]
          subst e1
          have hc0:c0=l.length∧c0<capBase:=by
           simp only [Rel] at ha
           rcases ha with ⟨rfl,h1 | ⟨_,h1⟩⟩ | ⟨i,off,c1,h1,h2,_⟩
           ·cases h1; simp [capBase]
           ·cases h1
           ·cases h1; exact h2 trivial
          obtain ⟨v,y,h1,h2,h3,h4,_⟩:=q92 hx hd hd2 hi hz hc0.2 e2 e3 e4 hc hr hk r3 (by omega) ⟨r1,r2⟩
          exact ⟨v,y,h1,h2,h3,h4⟩
         ·cases h
       | sl k' off n cp =>
        simp only at h
        cases hrow:rowOf x.σ k' with
        | none=>simp [hrow] at h
        | some l =>
         simp only [hrow] at h
         cases hs:segU l off (n*(sz+1)) with
         | none=>simp [hs] at h
         | some old =>
          simp only [hs] at h
          obtain ⟨e',hg,hl⟩:=qas hrow
          obtain ⟨i,hi',hva,hcp,_⟩:=q7d hl ha
          split at h
          ·rename_i h0
           obtain ⟨rfl,rfl⟩:=h0
           split at h
           ·rename_i hroom
            simp only [Option.some.injEq,Prod.mk.injEq] at h
            obtain ⟨rfl,rfl⟩:=h
            subst hva
            exact qbq hx hd hd2 hi hz (by simp) hc hr hk hlen hroom
           ·cases h
          ·split at h
           ·rename_i hfull
            split at h
            ·rename_i hroom
             obtain ⟨r1,r2,r3⟩:=hroom
             simp only [Option.some.injEq,Prod.mk.injEq] at h
             obtain ⟨rfl,rfl⟩:=h
             obtain ⟨o,c0,ov,_,e1,e2,e3,e4⟩:=src_sim hx (sz:=sz+1) (by omega) (u:=.sl k' off n cp) (k:=n) (new:=wkZ old) (by simp only [srcU,hrow,hs]) ha
             have:o=some ⟨i,off,none⟩∧c0=cp:=by
              rw [hva] at e1
              rcases e1 with e1 | ⟨_,_,_,_,_,e1⟩
              ·cases e1; exact ⟨rfl,rfl⟩
              ·cases e1
             obtain ⟨rfl,rfl⟩:=this
             rw [hva]
             obtain ⟨v,y,h1,h2,h3,h4,_⟩:=q92 hx hd hd2 hi hz hcp e2 e3 e4 hc hr hk r3 hfull ⟨r1,r2⟩
             exact ⟨v,y,h1,h2,h3,h4⟩
            ·cases h
           ·cases h
       | vl K st off n =>
        simp only at h
        cases hg:gt x.σ.h K with
        | none=>simp [hg] at h
        | some b0 =>
         cases b0 with
         | vec l e' sz' st' =>
          simp only [hg,beq_eq] at h
          by_cases hst:st'=st
          ·by_cases he:e'=e
           ·by_cases hsz:sz'=sz+1
            ·subst hst; subst he; subst hsz
             simp only [decide_true,cond_true] at h
             cases hs:segU l (off*(sz+1)) (n*(sz+1)) with
             | none=>simp [hs] at h
             | some p =>
              simp only [hs] at h
              split at h
              ·rename_i hroom
               obtain ⟨r1,r2,r3⟩:=hroom
               simp only [Option.some.injEq,Prod.mk.injEq] at h
               obtain ⟨rfl,rfl⟩:=h
               obtain ⟨l0,e0,sz0,hg',hvl⟩:=q9a (x:=x) (by simp [live,hg,B.st]) ha
               have:=hg.symm.trans hg'
               cases this
               obtain ⟨_,k1,k2,h3⟩:=hx.ok K _ hg
               obtain ⟨q1,rfl⟩:=q6t hs
               rcases h3 with ⟨rfl,hρ⟩ | ⟨i,l',e1,e2,e3⟩
               ·rw [hρ] at hvl
                obtain ⟨rfl,rfl,o,rfl,ho⟩:=hvl
                cases k with
                | zero =>
                 have:new=[]:=List.eq_nil_of_length_eq_zero (by rw [hlen]; simp)
                 subst this
                 rw [hr.nil_inv] at hc
                 refine ⟨.slice o 0 0,⟨setρ x.ρ K none,⟨ug x.σ.h K (.vec [] e' (sz+1) (st'+1)),x.σ.nx⟩,x.s⟩,?_,by simp,rel_vec hx hg rfl ⟨rfl,rfl,o,rfl,ho⟩,qbj hx hg none x.s (fun i b hb _=>hb) (by simp) hx.bd rfl (fun y _ _=>.inl ⟨rfl,rfl⟩)⟩
                 simp only [appendX,isW,flatW,cond_false,appendX0,hd,hd2,hi,hc,allOne,cond_true,cap0]
                 rfl
                | succ k =>
                 refine ⟨.slice (some ⟨x.s.nx,0,none⟩) (0+(k+1)) capBase,⟨setρ x.ρ K (some x.s.nx),⟨ug x.σ.h K (.vec new e' (sz+1) (st'+1)),x.σ.nx⟩,Rx.newRow x.s vs e' (sz+1+2)⟩,?_,by simp,rel_vec hx hg rfl (.inr (by simp)),qbj hx hg (some x.s.nx) _ (fun i b hb _=>?_) (fun i hi=>.inr (by cases hi; exact Nat.le_refl _)) (fun i b hb=>?_) hk (fun y hy hm=>.inr ⟨x.s.nx,vs,rfl,?_,hm.ke.E hr.bel hr⟩)⟩
                 ·have h1:Nat.ble (0+(k+1)) 0=false:=by
                   cases h:Nat.ble (0+(k+1)) 0 with
                   | false=>rfl
                   | true=>have:=Nat.le_of_ble_eq_true h; omega
                  simp only [appendX,isW,flatW,cond_false,appendX0,hd,hd2,hi,hc,q60 hr hk,cond_true,growX,cap0,h1,cond_false,Nat.zero_mul,qbx,hz,q9y r1 r2,List.nil_append]
                 ·have:=hx.bd i b hb
                  simp [Rx.newRow,q1v,show x.s.nx≠i by omega,hb]
                 ·simp only [Rx.newRow,q1v] at hb ⊢
                  split at hb
                  ·omega
                  ·exact Nat.lt_succ_of_lt (hx.bd i b hb)
                 ·simp [Rx.newRow,q1v]
               ·rw [e1] at hvl
                rcases hvl with ⟨h0,rfl,_⟩ | rfl
                ·omega
                ·have hown:ownRow x.s i=some (l',e',sz+1+2):=by simp [ownRow,e2]
                 have hcc:Nat.blt (capBase+off) capBase=false:=q67 (by omega)
                 have hcd:capD (capBase+off)=off:=by simp [capD]
                 have hseg:seg l' (off*(sz+1)) (n*(sz+1))=some ((l'.drop (off*(sz+1))).take (n*(sz+1))):=seg_of (by rw [← e3.2]; exact q1)
                 have hoff:Nat.beq (off*(sz+1)) (off*(sz+1))=true:=by simp
                 cases k with
                 | zero =>
                  have:new=[]:=List.eq_nil_of_length_eq_zero (by rw [hlen]; simp)
                  subst this
                  rw [hr.nil_inv] at hc
                  have h0:off=0∧n*(sz+1)=l.length:=by omega
                  obtain ⟨rfl,hfull⟩:=h0
                  have hp:(l.drop (0*(sz+1))).take (n*(sz+1))++[]=l:=by simp [hfull]
                  rw [hp]
                  refine ⟨.slice (some ⟨i,0*(sz+1),none⟩) n (capBase+0),⟨setρ x.ρ K (some i),⟨ug x.σ.h K (.vec l e' (sz+1) (st'+1)),x.σ.nx⟩,x.s⟩,?_,by simp,rel_vec hx hg rfl (.inr rfl),qbj hx hg (some i) x.s (fun i b hb _=>hb) (fun j hj=>.inl (by cases hj; exact e1)) hx.bd k1 (fun y _ hm=>.inr ⟨i,l',rfl,e2,hm.ke.E e3.bel e3⟩)⟩
                  simp only [appendX,isW,flatW,cond_false,appendX0,hd,hd2,hi,hc,allOne,cond_true,hcc,cond_false,hown,Nat.beq_refl,hcd,hseg]
                 | succ k =>
                  have hpr:RelE x ((l.drop (off*(sz+1))).take (n*(sz+1))++new) ((l'.drop (off*(sz+1))).take (n*(sz+1))++vs):=((e3.drop _).take _).append hr
                  have hpk:=q4a (q76 (q4p k1 (off*(sz+1))) (n*(sz+1))) hk
                  refine ⟨.slice (some ⟨x.s.nx,0,none⟩) (n+(k+1)) capBase,⟨setρ x.ρ K (some x.s.nx),⟨ug x.σ.h K (.vec ((l.drop (off*(sz+1))).take (n*(sz+1))++new) e' (sz+1) (st'+1)),x.σ.nx⟩,⟨(x.s.nx,.inl ((l'.drop (off*(sz+1))).take (n*(sz+1))++vs,e',sz+1+2))::rm x.s.h i,x.s.nx+1⟩⟩,?_,rfl,rel_vec hx hg rfl (.inr (by simp)),qbj hx hg (some x.s.nx) _ (fun j b hb hne=>?_) (fun i hi=>.inr (by cases hi; exact Nat.le_refl _)) (fun j b hb=>?_) hpk (fun y hy hm=>.inr ⟨x.s.nx,_,rfl,?_,hm.ke.E hpr.bel hpr⟩)⟩
                  ·simp only [appendX,isW,flatW,cond_false,appendX0,hd,hd2,hi,hc,q60 hr hk,cond_true,growX,hcc,cond_false,hown,Nat.beq_refl,hcd,hseg,hz,q9y r1 r2]
                  ·have:=hx.bd j b hb
                   have hij:i≠j:=fun h=>hne (by rw [e1,h])
                   simp [q1v,lk_rm,show x.s.nx≠j by omega,hij,hb]
                  ·simp only [q1v,lk_rm] at hb ⊢
                   split at hb
                   ·omega
                   ·split at hb
                    ·cases hb
                    ·exact Nat.lt_succ_of_lt (hx.bd j b hb)
                  ·simp [q1v]
              ·cases h
            ·simp [hst,he,hsz] at h
           ·simp [hst,he] at h
          ·simp [hst] at h
         | _=>simp [hg] at h
       | _=>simp at h
  | _=>simp [hd,hd2] at h
 | _=>simp [hd] at h
end
end Go.Vx
end
section
namespace Go.Vx
open Go Go.Rx
set_option linter.unusedVariables false
theorem modU_eq (es:List ME) (i:Nat) (f:ME→ME):modU es i f=es.modify i f:=by
 induction es generalizing i with
 | nil=>simp [modU]
 | cons e es ih=>cases i<;>simp [modU,ih]
theorem eraseU_eq (es:List ME) (i:Nat):eraseU es i=es.eraseIdx i:=by
 induction es generalizing i with
 | nil=>simp [eraseU]
 | cons e es ih=>cases i<;>simp [eraseU,ih]
theorem RelM.snoc {x:Cx} {es:List ME} {vs:List MapEntry} (h:RelM x es vs) {k v:U} {kv vv:Value} (hk:Rel x k kv) (hv:Rel x v vv) (b:Nat):RelM x (es++[⟨k,v,b⟩]) (vs++[⟨kv,vv,b⟩]):=by
 refine ⟨by simp [h.1],fun i e he=>?_⟩
 rw [List.getElem?_append] at he ⊢
 rw [← h.1]
 split at he
 ·rename_i hlt; simp only [hlt,if_true]; exact h.2 i e he
 ·rename_i hlt
  simp only [hlt,if_false]
  cases hj:i - es.length with
  | zero=>simp [hj] at he; subst he; exact ⟨⟨kv,vv,b⟩,by simp,hk,hv,rfl⟩
  | succ j=>simp [hj] at he
theorem RelM.mod {x:Cx} {es:List ME} {vs:List MapEntry} (h:RelM x es vs) (j:Nat) {v:U} {vv:Value} (hv:Rel x v vv):RelM x (modU es j fun e=>{ e with val:=v }) (modX vs j fun e=>{ e with val:=vv }):=by
 rw [modU_eq,modX_eq]
 refine ⟨by simp [h.1],fun i e he=>?_⟩
 rw [List.getElem?_modify] at he ⊢
 cases hi:es[i]? with
 | none=>simp [hi] at he
 | some e0 =>
  obtain ⟨v0,q1,q2,q3,q4⟩:=h.2 i e0 hi
  rw [hi] at he
  simp only [Option.map_eq_map,Option.map_some,Option.some.injEq] at he
  rw [q1]
  by_cases hji:j=i
  ·simp only [hji,if_true] at he ⊢; subst he; exact ⟨_,rfl,q2,hv,q4⟩
  ·simp only [hji,if_false] at he ⊢; subst he; exact ⟨_,rfl,q2,q3,q4⟩
theorem RelM.erase {x:Cx} {es:List ME} {vs:List MapEntry} (h:RelM x es vs) (j:Nat):RelM x (eraseU es j) (eraseX vs j):=by
 rw [eraseU_eq,eraseX_eq]
 refine ⟨by simp [List.length_eraseIdx,h.1],fun i e he=>?_⟩
 rw [List.getElem?_eraseIdx] at he ⊢
 split at he
 ·rename_i hlt; simp only [hlt,if_true]; exact h.2 i e he
 ·rename_i hlt; simp only [hlt,if_false]; exact h.2 _ e he
theorem RelM.mono {x y:Cx} (hm:Mo x.σ.nx x y) {es:List ME} {vs:List MapEntry} (h:RelM x es vs):RelM y es vs:=⟨h.1,fun j e he=>by
  obtain ⟨v,q1,q2,q3,q4⟩:=h.2 j e he
  exact ⟨v,q1,hm.ke _ _ (Rel.bel _ _ q2) q2,hm.ke _ _ (Rel.bel _ _ q3) q3,q4⟩⟩
theorem born_sim {x : Cx} {b : Int} : ∀ {es : List ME} {vs : List MapEntry} (i : Nat), RelM x es vs → bornU b es i = bornX b vs i
  | [], vs, i, h => by have : vs = [] := by have := h.1; simpa using this.symm
                       subst this; rfl
  | e :: es, [], i, h => by have := h.1; simp at this
  | e :: es, v :: vs, i, h => by
    obtain ⟨v0, q0, q1, q2, q3⟩ := h.2 0 e rfl
    simp at q0; subst q0
    have h' : RelM x es vs := ⟨by have := h.1; simpa using this, fun j d hd => by simpa using h.2 (j + 1) d (by simpa using hd)⟩
    simp only [bornU, bornX, q3, born_sim (i + 1) h']
section
variable {T:Tb} {x:Cx} (hx:HRel x)
include hx
theorem map_at {m:U} {mv:Value} {r:Nat} {es:List ME} {cl:Nat} (hm:Rel x (.map r) mv) (hg:gt x.σ.h r=some (.map es cl)):∃ i es',x.ρ r=some i∧mv = .map (some i)∧lk x.s.h i=some (.inr (es',cl))∧RelM x es es'∧ownMap x.s i=some (es',cl):=by
 obtain ⟨i,hi,rfl⟩:=qbe (x:=x) (by simp [live,hg,B.st]) hm
 obtain ⟨_,i',es',e1,e2,e3⟩:=hx.ok r _ hg
 rw [hi] at e1; cases e1
 exact ⟨i,es',hi,rfl,e2,e3,by simp [ownMap,e2]⟩
theorem q9b {r i:Nat} {es es1:List ME} {es' es1':List MapEntry} {cl cl1:Nat} (hg:gt x.σ.h r=some (.map es cl)) (hi:x.ρ r=some i) (hl:lk x.s.h i=some (.inr (es',cl))) (hr:RelM x es1 es1') :
  Out x ⟨x.ρ,mapSetU x.σ r es1 cl1,mapSet x.s i es1' cl1⟩ :=
 q8r hx hg hi hl rfl (by simp) fun y h1 h2 hm=>⟨i,es1',h1,h2,hr.mono hm⟩
theorem mapUp_sim {t:TypeId} {m k v r:U} {mv kv vv:Value} {σ':Sg} (h:mapUpU T x.σ t m k v=some (r,σ')) (hm:Rel x m mv) (hk:Rel x k kv) (hv:Rel x v vv):∃ rv y,mapUpX T x.s t mv kv vv=some (rv,y.s)∧y.σ=σ'∧Rel y r rv∧Out x y:=by
 unfold mapUpU at h
 cases hd:T.und t with
 | none=>simp [hd] at h
 | some d =>
 cases d with
 | map kt et =>
  cases m with
  | map q =>
   simp only [hd] at h
   cases hkv:toV k with
   | none=>simp [hkv] at h
   | some kv0 =>
    simp only [hkv] at h
    have e0:=(q44 _ _ hkv x kv).1 hk
    subst e0
    cases h1:keyX T 50 kt kv with
    | false=>simp [h1] at h
    | true =>
     cases h2:plain kv with
     | false=>simp [h1,h2] at h
     | true =>
      simp only [h1,h2,cond_true] at h
      cases hg:gt x.σ.h q with
      | none=>simp [hg] at h
      | some b =>
       cases b with
       | map es cl =>
        simp only [hg] at h
        obtain ⟨i,es',hi,rfl,hl,hr,ho⟩:=map_at hx (m:=.map q) hm hg
        cases hf:findU T kt kv es 0 with
        | none=>simp [hf] at h
        | some f =>
         rcases q9m 0 hr hf with ⟨rfl,f1⟩ | ⟨j,u,w,rfl,f1,f2,f3,d,d',f4,f5,f6,f7,f8,f9⟩
         ·simp only [hf,Option.some.injEq,Prod.mk.injEq] at h
          obtain ⟨rfl,rfl⟩:=h
          exact ⟨undef,_,by simp only [mapUpX,hd,h1,h2,cond_true,ho,f1],rfl,by simp [Rel],q9b hx hg hi hl (hr.snoc hk hv cl)⟩
         ·simp only [Nat.sub_zero] at f4 f6
          simp only [hf,q1n,f4] at h
          cases hke:toV d.key with
          | none=>simp [hke] at h
          | some kv' =>
           simp only [hke] at h
           have e1:=(q44 _ _ hke x d'.key).1 f7
           cases hveq:veq 50 kv' kv with
           | false=>simp [hveq] at h
           | true =>
            simp only [hveq,cond_true,Option.some.injEq,Prod.mk.injEq] at h
            obtain ⟨rfl,rfl⟩:=h
            exact ⟨undef,_,by simp only [mapUpX,hd,h1,h2,cond_true,ho,f1,q1n,f6,e1,hveq],rfl,by simp [Rel],q9b hx hg hi hl (hr.mod j hv)⟩
       | _=>simp [hg] at h
  | _=>simp [hd] at h
 | _=>simp [hd] at h
theorem mapEnt_sim {t:TypeId} {m k r:U} {mv kv:Value} {σ':Sg} (h:mapEntU T x.σ t m k=some (r,σ')) (hm:Rel x m mv) (hk:Rel x k kv):∃ rv y,mapEntX T x.s t mv kv=some (rv,y.s)∧y.σ=σ'∧Rel y r rv∧Out x y:=by
 unfold mapEntU at h
 cases hd:T.und t with
 | none=>simp [hd] at h
 | some d =>
 cases d with
 | map kt et =>
  cases m with
  | map q =>
   simp only [hd] at h
   cases hkv:toV k with
   | none=>simp [hkv] at h
   | some kv0 =>
    simp only [hkv] at h
    have e0:=(q44 _ _ hkv x kv).1 hk
    subst e0
    cases h1:keyX T 50 kt kv with
    | false=>simp [h1] at h
    | true =>
     cases h2:plain kv with
     | false=>simp [h1,h2] at h
     | true =>
      simp only [h1,h2,cond_true] at h
      cases hg:gt x.σ.h q with
      | none=>simp [hg] at h
      | some b =>
       cases b with
       | map es cl =>
        simp only [hg] at h
        obtain ⟨i,es',hi,rfl,hl,hr,ho⟩:=map_at hx (m:=.map q) hm hg
        have tup2:∀ {y:Cx} {p:U} {p':Value} {n:Nat},Rel y p p'→Rel y (.tup [p,.int .i64 n]) (.tuple #[p',.int .i64 n]):=fun {y p p' n} hp=>by
         simp only [Rel]; exact ⟨[p',.int .i64 n],rfl,by simp [RelP,hp,Rel],rfl⟩
        cases hf:findU T kt kv es 0 with
        | none=>simp [hf] at h
        | some f =>
         rcases q9m 0 hr hf with ⟨rfl,f1⟩ | ⟨j,u,w,rfl,f1,f2,f3,d,d',f4,f5,f6,f7,f8,f9⟩
         ·simp only [hf] at h
          cases hinf:T.inf et with
          | none=>simp [hinf] at h
          | some z =>
           obtain ⟨z1,z2,z⟩:=z
           simp only [hinf] at h
           cases hz:ofV z with
           | none=>simp [hz] at h
           | some zu =>
            simp only [hz,Option.some.injEq,Prod.mk.injEq] at h
            obtain ⟨rfl,rfl⟩:=h
            exact ⟨.tuple #[z,.int .i64 cl],_,by simp only [mapEntX,hd,h1,h2,cond_true,ho,f1,hinf],rfl,tup2 ((q9s _ _ hz).2 _),q9b hx hg hi hl (hr.snoc hk ((q9s _ _ hz).2 x) cl)⟩
         ·simp only [Nat.sub_zero] at f4 f6
          simp only [hf,q1n,f4] at h
          cases hke:toV d.key with
          | none=>simp [hke] at h
          | some kv' =>
           simp only [hke] at h
           have e1:=(q44 _ _ hke x d'.key).1 f7
           cases hveq:veq 50 kv' kv with
           | false=>simp [hveq] at h
           | true =>
            simp only [hveq,cond_true,Option.some.injEq,Prod.mk.injEq] at h
            obtain ⟨rfl,rfl⟩:=h
            have hout:=q9b hx hg hi hl (cl1:=cl) hr
            exact ⟨.tuple #[w,.int .i64 d'.born],_,by simp only [mapEntX,hd,h1,h2,cond_true,ho,f1,q1n,f6,e1,hveq],rfl,by rw [f8]; exact tup2 (hout.mo.ke _ _ (Rel.bel _ _ f2) f2),hout⟩
       | _=>simp [hg] at h
  | _=>simp [hd] at h
 | _=>simp [hd] at h
theorem entSt_sim {m st v r:U} {mv sv vv:Value} {σ':Sg} (h:entStU x.σ m st v=some (r,σ')) (hm:Rel x m mv) (hs:Rel x st sv) (hv:Rel x v vv):∃ rv y,entStX x.s mv sv vv=some (rv,y.s)∧y.σ=σ'∧Rel y r rv∧Out x y:=by
 unfold entStU at h
 cases m with
 | map q =>
  cases st with
  | int k b =>
   simp only at h
   simp only [Rel] at hs
   subst hs
   cases hg:gt x.σ.h q with
   | none=>simp [hg] at h
   | some bb =>
    cases bb with
    | map es cl =>
     simp only [hg] at h
     obtain ⟨i,es',hi,rfl,hl,hr,ho⟩:=map_at hx (m:=.map q) hm hg
     cases hb:bornU b es 0 with
     | none=>simp [hb] at h
     | some j =>
      simp only [hb,Option.some.injEq,Prod.mk.injEq] at h
      obtain ⟨rfl,rfl⟩:=h
      rw [born_sim 0 hr] at hb
      exact ⟨undef,_,by simp only [entStX,ho,hb],rfl,by simp [Rel],q9b hx hg hi hl (hr.mod j hv)⟩
    | _=>simp [hg] at h
  | _=>simp at h
 | _=>simp at h
theorem del_sim {t:TypeId} {m k r:U} {mv kv:Value} {σ':Sg} (h:delU T x.σ t m k=some (r,σ')) (hm:Rel x m mv) (hk:Rel x k kv):∃ rv y,delX T x.s t mv kv=some (rv,y.s)∧y.σ=σ'∧Rel y r rv∧Out x y:=by
 unfold delU at h
 cases hd:T.und t with
 | none=>simp [hd] at h
 | some d =>
 cases d with
 | map kt et =>
  cases m with
  | map q =>
   simp only [hd] at h
   cases hkv:toV k with
   | none=>simp [hkv] at h
   | some kv0 =>
    simp only [hkv] at h
    have e0:=(q44 _ _ hkv x kv).1 hk
    subst e0
    cases h1:keyX T 50 kt kv with
    | false=>simp [h1] at h
    | true =>
     simp only [h1,cond_true] at h
     cases hg:gt x.σ.h q with
     | none=>simp [hg] at h
     | some b =>
      cases b with
      | map es cl =>
       simp only [hg] at h
       obtain ⟨i,es',hi,rfl,hl,hr,ho⟩:=map_at hx (m:=.map q) hm hg
       cases hf:findU T kt kv es 0 with
       | none=>simp [hf] at h
       | some f =>
        rcases q9m 0 hr hf with ⟨rfl,f1⟩ | ⟨j,u,w,rfl,f1,_⟩
        ·simp only [hf,Option.some.injEq,Prod.mk.injEq] at h
         obtain ⟨rfl,rfl⟩:=h
         exact ⟨undef,_,by simp only [delX,hd,h1,cond_true,ho,f1],rfl,by simp [Rel],q9b hx hg hi hl hr⟩
        ·simp only [hf,Option.some.injEq,Prod.mk.injEq] at h
         obtain ⟨rfl,rfl⟩:=h
         exact ⟨undef,_,by simp only [delX,hd,h1,cond_true,ho,f1],rfl,by simp [Rel],q9b hx hg hi hl (hr.erase j)⟩
      | _=>simp [hg] at h
  | _=>simp [hd] at h
 | _=>simp [hd] at h
theorem copy_sim {t:TypeId} {d s r:U} {dv sv:Value} {σ':Sg} (h:copyU T x.σ t d s=some (r,σ')) (hd':Rel x d dv) (hs':Rel x s sv):∃ rv y,copyX T x.s t dv sv=some (rv,y.s)∧y.σ=σ'∧Rel y r rv∧Out x y:=by
 unfold copyU at h
 cases hd:T.und t with
 | none=>simp [hd] at h
 | some dd =>
 cases dd with
 | slice e =>
  simp only [hd] at h
  cases hs:sizeX T e with
  | none=>simp [hs] at h
  | some sz =>
   simp only [hs] at h
   cases hsrc:srcU x.σ sz s with
   | none=>simp [hsrc] at h
   | some q =>
    obtain ⟨k,cs⟩:=q
    simp only [hsrc] at h
    cases d with
    | sl a off n c =>
     simp only at h
     cases hrow:rowOf x.σ a with
     | none=>simp [hrow] at h
     | some l =>
      simp only [hrow] at h
      split at h
      ·cases h
      ·rename_i hpos
       have hpos':0<n∧0<k∧0<sz:=by omega
       obtain ⟨b,c0,vs,_,hsv,hc,hr,hk⟩:=src_sim hx hpos'.2.2 hsrc hs'
       obtain rfl:sv = .slice b k c0:=by
        rcases hsv with hsv | ⟨h0,_⟩
        ·exact hsv
        ·omega
       have hlen:=src_len hsrc
       cases hput:putU l off (cs.take (Nat.min k n*sz)) with
       | none=>simp [hput] at h
       | some l1 =>
        simp only [hput] at h
        obtain ⟨e',hg,hl⟩:=qas hrow
        obtain ⟨i,hi,rfl,_⟩:=q7d hl hd'
        obtain ⟨_,k1,i',lv,e1,e2,e3⟩:=hx.ok a _ hg
        rw [hi] at e1; cases e1
        simp only [putOf,hg,Option.some.injEq,Prod.mk.injEq] at h
        obtain ⟨rfl,rfl⟩:=h
        have hmn:Nat.min k n*sz≤k*sz:=Nat.mul_le_mul_right _ (Nat.min_le_left _ _)
        have hmp:0<Nat.min k n*sz:=Nat.mul_pos (by simp [Nat.min_def]; split<;>omega) hpos'.2.2
        have hcells:cellsX x.s b (Nat.min k n*sz)=some (vs.take (Nat.min k n*sz)):=by
         obtain ⟨q1,hq1⟩:∃ q,k*sz=q+1:=⟨k*sz - 1,by have:=Nat.mul_pos hpos'.2.1 hpos'.2.2; omega⟩
         obtain ⟨q2,hq2⟩:∃ q,Nat.min k n*sz=q+1:=⟨Nat.min k n*sz - 1,by omega⟩
         rw [hq1] at hc
         rw [hq2]
         unfold cellsX at hc ⊢
         cases b with
         | none=>simp at hc
         | some a =>
          simp only at hc ⊢
          cases hlk:lk x.s.h a.block with
          | none=>simp [hlk] at hc
          | some bb =>
           rcases bb with ⟨l0,e0,md0⟩ | ⟨m0,c1⟩
           ·simp only [hlk] at hc ⊢
            obtain ⟨s1,s2⟩:=qa0 hc
            rw [s1,seg_of (by omega),List.take_take]
            congr 2
            omega
           ·simp [hlk] at hc
        have hrt:=hr.take (Nat.min k n*sz)
        have hkt:=q76 hk (Nat.min k n*sz)
        obtain ⟨rv,p1,p2,p3⟩:=putU_ok hput e3 hrt
        have hown:ownRow x.s i=some (lv,e',0):=by simp [ownRow,e2]
        refine ⟨.int .i64 (Nat.min k n),⟨x.ρ,⟨ug x.σ.h a (.row l1 e'),x.σ.nx⟩,⟨up x.s.h i (.inl (rv,e',0)),x.s.nx⟩⟩,?_,rfl,by simp [Rel],q8r hx hg hi e2 rfl (by simp) fun y h1 h2 hm=>⟨p3 k1 hkt,i,rv,h1,h2,hm.ke.E p2.bel p2⟩⟩
        simp only [copyX,hd,hs,hcells,q60 hrt hkt,cond_true]
        cases hv:vs.take (Nat.min k n*sz) with
        | nil =>
         exfalso
         have h1:=hrt.2
         rw [hv] at h1
         have h2:cs.length=k*sz:=hlen
         rw [List.length_take,h2,Nat.min_eq_left hmn] at h1
         simp only [List.length_nil] at h1
         omega
        | cons v0 vs0=>rw [hv] at p1; simp only [hown,p1]
    | _=>simp at h
 | _=>simp [hd] at h
theorem appendM_sim {t xt:TypeId} {a b r:U} {va vb:Value} {σ':Sg} (h:appendMU T x.σ t xt a b=some (r,σ')) (ha:Rel x a va) (hb:Rel x b vb):∃ v y,appendY T x.s t xt va vb=some (v,y.s)∧y.σ=σ'∧Rel y r v∧Out x y:=by
 unfold appendMU at h
 split at h
 ·rename_i e kd kd' i hd hd2
  simp only [Rel] at ha hb
  subst ha; subst hb
  split at h
  ·rename_i sz by_ z hi
   split at h
   ·rename_i zu hz
    split at h
    ·rename_i hc
     obtain ⟨c1,c2,c3,c4,c5⟩:=hc
     simp only [Option.some.injEq,Prod.mk.injEq] at h
     obtain ⟨rfl,rfl⟩:=h
     obtain ⟨k,hk⟩:∃ k,i.toNat=k+1:=⟨i.toNat - 1,by omega⟩
     have hw:IntKind.i64.wrap i=Int.ofNat (k+1):=by
      rw [qbm (by omega) (by omega),← hk]; simp; omega
     have hzr:=(q7u _ _ hz).2 x
     have hrel:RelE x (zerosU zu (k+1)) (zeros z.cells.toList (k+1)):=q8g hzr (k+1)
     have hok:okL (zerosU zu (k+1))=true:=zeros_ok c5 _
     have h1:=q60 hrel hok
     have hroom:roomX (k+1) by_=true:=q9y (by rw [← hk]; exact c2) (by rw [← hk]; exact c3)
     have hb:Nat.beq z.cells.toList.length (sz+1)=true:=by simp [beq_eq,c4]
     rw [hk]
     refine ⟨.slice (some ⟨x.s.nx,0,none⟩) (k+1) capBase,_,?_,rfl,qaq,qam hx (qcp hrel) (by rw [wkZ_ok]; exact hok) e (by omega)⟩
     have hn:appendX T x.s t xt (.slice none 0 0) (.int kd' i)=none:=by simp [appendX,isW,flatW,appendX0,hd,hd2]
     simp only [appendY,hn,appendM,hd,hd2,hi,hw,hroom,hb,h1,cond_true]
     rfl
    ·cases h
   ·cases h
  ·cases h
 ·cases h
theorem appendY_sim {t xt:TypeId} {a b r:U} {va vb:Value} {σ':Sg} (h:appendYU T x.σ t xt a b=some (r,σ')) (ha:Rel x a va) (hb:Rel x b vb):∃ v y,appendY T x.s t xt va vb=some (v,y.s)∧y.σ=σ'∧Rel y r v∧Out x y:=by
 unfold appendYU at h
 split at h
 ·rename_i q hq
  cases h
  obtain ⟨v,y,h1,h2,h3,h4⟩:=append_sim hx hq ha hb
  exact ⟨v,y,by simp only [appendY,h1],h2,h3,h4⟩
 ·exact appendM_sim hx h ha hb
theorem clear_sim {t:TypeId} {d r:U} {dv:Value} {σ':Sg} (h:clearU T x.σ t d=some (r,σ')) (hd':Rel x d dv):∃ rv y,clearX T x.s t dv=some (rv,y.s)∧y.σ=σ'∧Rel y r rv∧Out x y:=by
 unfold clearU at h
 cases hd:T.und t with
 | none=>simp [hd] at h
 | some dd =>
 cases dd with
 | slice e =>
  simp only [hd] at h
  cases hi:T.inf e with
  | none=>simp [hi] at h
  | some q =>
   obtain ⟨sz,by_,z⟩:=q
   simp only [hi] at h
   cases hz:ofVL z.cells.toList with
   | none=>simp [hz] at h
   | some zu =>
    simp only [hz] at h
    have hzr:=(q7u _ _ hz).2 x
    cases hok:okL zu with
    | false=>simp [hok] at h
    | true =>
    rw [hok] at h
    cases hlen:Nat.beq z.cells.toList.length sz with
    | false=>rw [hlen] at h; cases h
    | true =>
     rw [hlen] at h
     simp only [cond_true] at h
     have hzl:zu.length=sz:=by rw [hzr.2]; simpa [beq_eq] using hlen
     have hzr:=qcp hzr
     have hzl:(wkZ zu).length=sz:=by rw [wkZ_len]; exact hzl
     cases d with
     | nils =>
      simp only [Option.some.injEq,Prod.mk.injEq] at h
      obtain ⟨rfl,rfl⟩:=h
      simp only [Rel] at hd'
      subst hd'
      exact ⟨undef,x,by simp [clearX,hd],rfl,by simp [Rel],Out.refl hx⟩
     | vl k st off n =>
      simp only at h
      cases hv:vecOf x.σ k st with
      | none=>simp [hv] at h
      | some q =>
       obtain ⟨l,e',sz'⟩:=q
       simp only [hv] at h
       cases hs:Nat.beq sz' sz with
       | false=>simp [hs] at h
       | true =>
        have hs':sz'=sz:=by simpa [beq_eq] using hs
        subst hs'
        simp only [hs,cond_true] at h
        obtain ⟨hg,hl⟩:=q8v hv
        simp only at hg
        obtain ⟨l2,e2,sz2,hg2,hvo⟩:=q9a hl hd'
        rw [hg] at hg2; cases hg2
        by_cases hn:n=0
        ·simp only [hn,if_true,Option.some.injEq,Prod.mk.injEq] at h
         obtain ⟨rfl,rfl⟩:=h
         obtain ⟨a,c,rfl⟩:=vl_len hvo
         subst hn
         exact ⟨undef,x,by simp [clearX,hd],rfl,by simp [Rel],Out.refl hx⟩
        ·simp only [hn,if_false] at h
         cases hp:putU l (off*sz') (zerosU (wkZ zu) n) with
         | none=>simp [hp] at h
         | some l1 =>
          simp only [hp,Option.some.injEq,Prod.mk.injEq] at h
          obtain ⟨rfl,rfl⟩:=h
          obtain ⟨_,k1,k2,k3⟩:=hx.ok k _ hg
          rcases k3 with ⟨rfl,hno⟩ | ⟨i,lv,hi1,hi2,hi3⟩
          ·exfalso
           have:=(putU_some hp).1
           simp only [zerosU,List.length_flatten,List.map_replicate,List.sum_replicate_nat,hzl,List.length_nil] at this
           have:=Nat.mul_pos (Nat.pos_of_ne_zero hn) k2
           omega
          ·rw [hi1] at hvo
           simp only [VlOk] at hvo
           rcases hvo with ⟨_,h0,_⟩ | rfl
           ·exact absurd h0 hn
           ·obtain ⟨rv,p1,p2,p3⟩:=putU_ok hp hi3 (q8g hzr n)
            obtain ⟨n',rfl⟩:∃ n',n=n'+1:=⟨n - 1,by omega⟩
            have hzo:=zeros_ok (zu:=wkZ zu) (by rw [wkZ_ok]; exact hok) (n'+1)
            have h1:=q60 (q8g hzr (n'+1)) hzo
            have hown:ownRow x.s i=some (lv,e',sz'+2):=by simp [ownRow,hi2]
            refine ⟨undef,⟨x.ρ,⟨ug x.σ.h k (.vec l1 e' sz' st),x.σ.nx⟩,⟨up x.s.h i (.inl (rv,e',sz'+2)),x.s.nx⟩⟩,?_,rfl,by simp [Rel],q8r hx hg hi1 hi2 rfl (by rintro l e sz st h; cases h; exact ⟨_,rfl⟩) fun y h1 h2 hm=>⟨p3 k1 hzo,k2,.inr ⟨i,rv,h1,h2,hm.ke.E p2.bel p2⟩⟩⟩
            simp only [clearX,hd,hi,h1,cond_true,hown,p1]
     | _=>simp at h
 | _=>simp [hd] at h
theorem eff_sim {tm:List U} {tv:List Value} (ht:RelE x tm tv) {op:Op} {u:U} {σ':Sg} (h:effU T x.σ tm op=some (u,σ')):Sim T x tv op u σ':=by
 have fin:∀ {v:Value} {y:Cx},pureX T tv op=none→readX T tv x.s op=none→effX T tv x.s op=some (v,y.s)→y.σ=σ'→Rel y u v→Out x y→Sim T x tv op u σ':=fun {v y} h1 h2 h3 h4 h5 h6=>⟨v,y,opX_effX h1 h2 h3,h4,h5,h6⟩
 unfold effU at h
 cases op with
 | alloc e =>
  simp only at h
  cases hi:T.inf e with
  | none=>simp [hi] at h
  | some q =>
   obtain ⟨a,b,z⟩:=q
   simp only [hi] at h
   cases hz:ofVL z.cells.toList with
   | none=>simp [hz] at h
   | some zu =>
    simp only [hz] at h
    cases hk:okL zu with
    | false=>simp [hk] at h
    | true =>
     simp only [hk,cond_true,Option.some.injEq,Prod.mk.injEq] at h
     obtain ⟨rfl,rfl⟩:=h
     exact fin (v:=.pointer (some ⟨x.s.nx,0,none⟩)) rfl rfl (by simp only [effX,hi]) rfl (by simp only [Rel]; exact ⟨rfl,qci rfl ⟨_,rfl,rfl⟩⟩) (q8p hx ((q7u _ _ hz).2 x) hk e)
 | box e o =>
  simp only at h
  cases ho:evalU tm o with
  | none=>simp [ho] at h
  | some a =>
   simp only [ho] at h
   obtain ⟨va,a1,a2⟩:=q0k ht ho
   cases hc:cellsO a with
   | none=>simp [hc] at h
   | some cs =>
    simp only [hc] at h
    obtain ⟨c1,c2⟩:=qbw a2 hc
    simp only [c2,cond_true,Option.some.injEq,Prod.mk.injEq] at h
    obtain ⟨rfl,rfl⟩:=h
    exact fin (v:=.pointer (some ⟨x.s.nx,0,none⟩)) rfl rfl (by simp only [effX,a1]) rfl (by simp only [Rel]; exact ⟨rfl,qci rfl ⟨_,rfl,rfl⟩⟩) (q8p hx c1 c2 e)
 | store t a b =>
  simp only at h
  cases ha:evalU tm a with
  | none=>simp [ha] at h
  | some au =>
   cases hb:evalU tm b with
   | none=>simp [ha,hb] at h
   | some bu =>
    simp only [ha,hb] at h
    obtain ⟨va,a1,a2⟩:=q0k ht ha
    obtain ⟨vb,b1,b2⟩:=q0k ht hb
    obtain ⟨v,y,h1,h2,h3,h4⟩:=store_sim hx h a2 b2
    exact fin rfl rfl (by simp only [effX,a1,b1,h1]) h2 h3 h4
 | buildSlice t n ps =>
  simp only at h
  cases hp:evalUP tm ps.toList with
  | none=>simp [hp] at h
  | some qs =>
   simp only [hp] at h
   obtain ⟨vs,h1,h2⟩:=evalUP_ok ht hp
   obtain ⟨v,y,h3,h4,h5,h6⟩:=makeList_sim hx h h2
   exact fin rfl rfl (by simp only [effX,h1,h3]) h4 h5 h6
 | makeSlice t a b =>
  simp only at h
  cases ha:evalU tm a with
  | none=>simp [ha] at h
  | some au =>
   cases hb:evalU tm b with
   | none=>simp [ha,hb] at h
   | some bu =>
    simp only [ha,hb] at h
    obtain ⟨va,a1,a2⟩:=q0k ht ha
    obtain ⟨vb,b1,b2⟩:=q0k ht hb
    obtain ⟨v,y,h1,h2,h3,h4⟩:=make_sim hx h a2 b2
    exact fin rfl rfl (by simp only [effX,a1,b1,h1]) h2 h3 h4
 | makeMap t r =>
  cases r with
  | none =>
   simp only [Option.some.injEq,Prod.mk.injEq] at h
   obtain ⟨rfl,rfl⟩:=h
   exact fin (v:=.map (some x.s.nx)) rfl rfl (by simp only [effX]) rfl (by simp only [Rel]; exact ⟨rfl,qci rfl ⟨_,rfl,rfl⟩⟩) (step_new hx (.map [] 0) (.inr ([],0)) fun y h1 h2 hm=>⟨_,[],h1,h2,rfl,by simp⟩)
  | some r=>simp at h
 | mapUpdate t m k v =>
  simp only at h
  cases hm:evalU tm m with
  | none=>simp [hm] at h
  | some mu =>
   cases hk:evalU tm k with
   | none=>simp [hm,hk] at h
   | some ku =>
    cases hv:evalU tm v with
    | none=>simp [hm,hk,hv] at h
    | some vu =>
     simp only [hm,hk,hv] at h
     obtain ⟨va,a1,a2⟩:=q0k ht hm
     obtain ⟨vb,b1,b2⟩:=q0k ht hk
     obtain ⟨vc,c1,c2⟩:=q0k ht hv
     obtain ⟨w,y,h1,h2,h3,h4⟩:=mapUp_sim hx h a2 b2 c2
     exact fin rfl rfl (by simp only [effX,a1,b1,c1,h1]) h2 h3 h4
 | insert t m k v =>
  simp only at h
  cases hm:evalU tm m with
  | none=>simp [hm] at h
  | some mu =>
   cases hk:evalU tm k with
   | none=>simp [hm,hk] at h
   | some ku =>
    cases hv:evalU tm v with
    | none=>simp [hm,hk,hv] at h
    | some vu =>
     simp only [hm,hk,hv] at h
     obtain ⟨va,a1,a2⟩:=q0k ht hm
     obtain ⟨vb,b1,b2⟩:=q0k ht hk
     obtain ⟨vc,c1,c2⟩:=q0k ht hv
     obtain ⟨w,y,h1,h2,h3,h4⟩:=mapUp_sim hx h a2 b2 c2
     exact fin rfl rfl (by simp only [effX,a1,b1,c1,h1]) h2 h3 h4
 | mapEntry t m k =>
  simp only at h
  cases hm:evalU tm m with
  | none=>simp [hm] at h
  | some mu =>
   cases hk:evalU tm k with
   | none=>simp [hm,hk] at h
   | some ku =>
    simp only [hm,hk] at h
    obtain ⟨va,a1,a2⟩:=q0k ht hm
    obtain ⟨vb,b1,b2⟩:=q0k ht hk
    obtain ⟨w,y,h1,h2,h3,h4⟩:=mapEnt_sim hx h a2 b2
    exact fin rfl rfl (by simp only [effX,a1,b1,h1]) h2 h3 h4
 | entryStore t m k v =>
  simp only at h
  cases hm:evalU tm m with
  | none=>simp [hm] at h
  | some mu =>
   cases hk:evalU tm k with
   | none=>simp [hm,hk] at h
   | some ku =>
    cases hv:evalU tm v with
    | none=>simp [hm,hk,hv] at h
    | some vu =>
     simp only [hm,hk,hv] at h
     obtain ⟨va,a1,a2⟩:=q0k ht hm
     obtain ⟨vb,b1,b2⟩:=q0k ht hk
     obtain ⟨vc,c1,c2⟩:=q0k ht hv
     obtain ⟨w,y,h1,h2,h3,h4⟩:=entSt_sim hx h a2 b2 c2
     exact fin rfl rfl (by simp only [effX,a1,b1,c1,h1]) h2 h3 h4
 | call c =>
  simp only at h
  obtain ⟨callee,args,ats⟩:=c
  cases callee with
  | builtin b =>
   have two:∀ {us:List U} {a b:U},evalUL tm args.toList=some us→us=[a,b]→∃ va vb,evalL tv args.toList=some [va,vb]∧Rel x a va∧Rel x b vb:=fun {us a b} h1 h2=>by
    subst h2
    obtain ⟨vs,a1,a2⟩:=q57 ht h1
    obtain ⟨va,vs',rfl,r1,r2⟩:=a2.inv
    obtain ⟨vb,vs'',rfl,r3,r4⟩:=r2.inv
    rw [r4.nil_inv] at a1
    exact ⟨va,vb,a1,r1,r3⟩
   cases b with
   | append =>
    simp only at h
    split at h
    ·rename_i a b t xt h1 h2
     obtain ⟨va,vb,e1,r1,r2⟩:=two h1 rfl
     obtain ⟨w,y,q1,q2,q3,q4⟩:=appendY_sim hx h r1 r2
     exact fin (by simp only [pureX]) (by simp only [readX]) (by simp only [effX,e1,h2,q1]) q2 q3 q4
    ·cases h
   | copy =>
    simp only at h
    split at h
    ·rename_i a b t ts h1 h2
     obtain ⟨va,vb,e1,r1,r2⟩:=two h1 rfl
     obtain ⟨w,y,q1,q2,q3,q4⟩:=copy_sim hx h r1 r2
     exact fin (by simp only [pureX]) (by simp only [readX]) (by simp only [effX,e1,h2,q1]) q2 q3 q4
    ·cases h
   | delete =>
    simp only at h
    split at h
    ·rename_i a b t ts h1 h2
     obtain ⟨va,vb,e1,r1,r2⟩:=two h1 rfl
     obtain ⟨w,y,q1,q2,q3,q4⟩:=del_sim hx h r1 r2
     exact fin (by simp only [pureX]) (by simp only [readX]) (by simp only [effX,e1,h2,q1]) q2 q3 q4
    ·cases h
   | clear =>
    simp only at h
    split at h
    ·rename_i a t ts h1 h2
     obtain ⟨vs,a1,a2⟩:=q57 ht h1
     obtain ⟨va,vs',rfl,r1,r2⟩:=a2.inv
     rw [r2.nil_inv] at a1
     obtain ⟨w,y,q1,q2,q3,q4⟩:=clear_sim hx h r1
     exact fin (by simp only [pureX]) (by simp only [readX]) (by simp only [effX,a1,h2,q1]) q2 q3 q4
    ·cases h
   | _=>simp at h
  | _=>simp at h
 | _=>simp at h
theorem op_sim {tm:List U} {tv:List Value} (ht:RelE x tm tv) {op:Op} {u:U} {σ':Sg} (h:opU T x.σ tm op=some (u,σ')):Sim T x tv op u σ':=by
 unfold opU at h
 cases h1:pureU T x.σ tm op with
 | some v=>simp only [h1,Option.some.injEq,Prod.mk.injEq] at h; obtain ⟨rfl,rfl⟩:=h; exact pure_sim hx ht h1
 | none =>
  simp only [h1] at h
  cases h2:readU T x.σ tm op with
  | some v=>simp only [h2,Option.some.injEq,Prod.mk.injEq] at h; obtain ⟨rfl,rfl⟩:=h; exact read_sim hx ht h2
  | none=>simp only [h2] at h; exact eff_sim hx ht h
omit hx in
theorem call_sim {tm:List U} {tv:List Value} (ht:RelE x tm tv) {op:Op} {f:FuncId} {args:List U} (h:callU T tm op=some (f,args)):∃ vs,callOf T tv op=some (f,vs)∧RelE x args vs:=by
 unfold callU at h
 cases op with
 | call c =>
  simp only at h
  obtain ⟨callee,as,ats⟩:=c
  cases callee with
  | value o =>
   simp only at h
   cases ho:evalU tm o with
   | none=>simp [ho] at h
   | some a =>
    obtain ⟨va,a1,a2⟩:=q0k ht ho
    cases a with
    | fn fn first cap =>
     cases fn with
     | func g =>
      simp only [ho] at h
      simp only [Rel] at a2
      obtain ⟨p,q,rfl,r1,r2,r3,r4⟩:=a2
      cases hg:T.fn g with
      | none=>simp [hg] at h
      | some fd =>
       simp only [hg] at h
       cases hbd:fd.body.isSome with
       | false=>simp [hbd] at h
       | true =>
        simp only [hbd,cond_true] at h
        cases hl:evalUL tm as.toList with
        | none=>simp [hl] at h
        | some us =>
         simp only [hl,Option.some.injEq,Prod.mk.injEq] at h
         obtain ⟨rfl,rfl⟩:=h
         obtain ⟨vs,e1,e2⟩:=q57 ht hl
         exact ⟨p++vs++q,by simp only [callOf,a1,hg,hbd,cond_true,e1],((show RelE x first p from ⟨r1,r2⟩).append e2).append ⟨r3,r4⟩⟩
     | _=>simp [ho] at h
    | _=>simp [ho] at h
  | _=>simp at h
 | _=>simp at h
end
end Go.Vx
end
section
namespace Go.Vx
open Go Go.Rx
set_option linter.unusedVariables false
def putW (tm:List U) (d:Option Tmp) (u:U):List U:=match d with
 | none=>tm
 | some d=>tm.set d u
theorem qcc {x:Cx} {tm:List U} {tv:List Value} (h:RelE x tm tv) {u:U} {v:Value} (hu:Rel x u v) (d:Option Tmp):RelE x (putW tm d u) (putT tv d v):=by
 cases d with
 | none=>exact h
 | some d=>exact h.set d hu
structure St (F:Nat→Blk→Prop) (x:Cx) (tm:List U) (tv:List Value) (m:Nm) (w:World) (a:Act):Prop where
 h:HRel x
 fr:Fr F x
 e:RelE x tm tv
 fits:FitsS m x.s w
 act:ActR m x.s.nx tv a
def EvU (P:Program) (f:FuncId) (args:List U) (σ:Sg) (Q:U→Sg→Prop):Prop :=
 ∀ F x vs m w cargs,x.σ=σ→HRel x→Fr F x→RelE x args vs→FitsS m x.s w→RelL m x.s.nx vs cargs →
  Calls P f cargs.toArray w fun e w₁=>∃ y m₁ u v cv,e = .returned cv∧Q u y.σ∧Adv m x.s w m₁ y.s w₁∧RelS m₁ y.s.nx v cv∧HRel y∧Fr F y∧Rel y u v∧Ke x.σ.nx x y∧x.σ.nx≤y.σ.nx
theorem Mo.nx {x y:Cx} (h:Mo x.σ.nx x y):x.σ.nx≤y.σ.nx:=by
 cases hn:x.σ.nx with
 | zero=>omega
 | succ n=>have:=(h.ref n (by omega) (by omega)).1; omega
theorem nc_ok (P:Program):CallOk P nc:=fun f args s v s₁ h=>by simp [nc] at h
theorem q5m (a:Act) (d:Option Tmp) (v:Value):(a.put d v).defers=a.defers:=by cases d<;>rfl
section
variable {P:Program} {T:Tb} (hT:TbOk P T) {F:Nat→Blk→Prop} {x:Cx} {tm:List U} {tv:List Value} {m:Nm} {w:World} {a:Act}
include hT
theorem St.op (st:St F x tm tv m w a) (o:Oper) {u:U} {σ':Sg} (h:opU T x.σ tm o.op=some (u,σ')) {next:Act→World→Prop} {Q:Exit→Act→World→Prop}
  (hn:∀ y tv' m₁ w₁ a₁,y.σ=σ'→St F y (putW tm o.dst u) tv' m₁ w₁ a₁→Adv m x.s w m₁ y.s w₁→Ke x.σ.nx x y→x.σ.nx≤y.σ.nx→a₁.defers=a.defers→next a₁ w₁):o.wp P a w next Q:=by
 obtain ⟨v,y,h1,h2,h3,h4⟩:=op_sim st.h st.e h
 refine op_ok hT (nc_ok P) st.fits st.act o h1 fun m₁ w₁ cv hadv hrel=>?_
 exact hn y (putT tv o.dst v) m₁ w₁ _ h2 ⟨h4.h,h4.fr F st.fr,qcc (h4.mo.ke.E st.e.bel st.e) h3 _,hadv.fits,(st.act.ext hadv.agree hadv.nx).put hrel o.dst⟩ hadv h4.mo.ke h4.mo.nx (q5m _ _ _)
theorem St.call (st:St F x tm tv m w a) (o:Oper) {f:FuncId} {args:List U} (h:callU T tm o.op=some (f,args)) {R:U→Sg→Prop} (hev:EvU P f args x.σ R) {next:Act→World→Prop} {Q:Exit→Act→World→Prop}
  (hn:∀ y u tv' m₁ w₁ a₁,R u y.σ→St F y (putW tm o.dst u) tv' m₁ w₁ a₁→Adv m x.s w m₁ y.s w₁→Ke x.σ.nx x y→x.σ.nx≤y.σ.nx→a₁.defers=a.defers→next a₁ w₁):o.wp P a w next Q:=by
 obtain ⟨vs,h1,h2⟩:=call_sim st.e h
 obtain ⟨cargs,g1,g2⟩:=callOf_ok hT st.act o w h1
 unfold Oper.wp
 rw [g1]
 show Calls P f _ w _
 refine (hev F x vs m w cargs rfl st.h st.fr h2 st.fits g2).mono ?_
 rintro e w₁ ⟨y,m₁,u,v,cv,rfl,hR,hadv,hrel,hh,hfr,hru,hke,hnx⟩
 exact hn y u (putT tv o.dst v) m₁ w₁ _ hR ⟨hh,hfr,qcc (hke.E st.e.bel st.e) hru _,hadv.fits,(st.act.ext hadv.agree hadv.nx).put hrel o.dst⟩ hadv hke hnx (q5m _ _ _)
theorem St.nilq (st:St F x tm tv m w a) (o:Oper) {t e ty:TypeId} {xo yo:Operand} {b:Bool} {l:List (List U)} (ho:o.op = .binOp .eql t xo yo ty) (hd:T.und t=some (.slice e)) (hx:evalU tm xo=some (.isl b l)) (hy:evalU tm yo=some .nils) {next:Act→World→Prop} {Q:Exit→Act→World→Prop}
  (hn:∀ (z:Bool) y tv' m₁ w₁ a₁,(z=true→l=[])→y.σ=x.σ→St F y (putW tm o.dst (.bool z)) tv' m₁ w₁ a₁→Adv m x.s w m₁ y.s w₁→Ke x.σ.nx x y→x.σ.nx≤y.σ.nx→a₁.defers=a.defers→next a₁ w₁):o.wp P a w next Q:=by
 obtain ⟨vx,ex,rx⟩:=q0k st.e hx
 obtain ⟨vy,ey,ry⟩:=q0k st.e hy
 simp only [Rel] at rx ry
 subst ry
 have key:∃ z:Bool,(z=true→l=[])∧opX T nc tv x.s o.op=some (.bool z,x.s):=by
  rw [ho]
  rcases rx with ⟨hl,rfl | ⟨r,rfl⟩⟩ | ⟨i,off,c,rfl,_⟩
  ·exact ⟨true,fun _=>hl,by simp [opX,pureX,ex,ey,binX,guardX,eqv,hd]⟩
  ·exact ⟨false,by simp,by simp [opX,pureX,ex,ey,binX,guardX,eqv,hd]⟩
  ·exact ⟨false,by simp,by simp [opX,pureX,ex,ey,binX,guardX,eqv,hd]⟩
 obtain ⟨z,hz,hop⟩:=key
 refine op_ok hT (nc_ok P) st.fits st.act o hop fun m₁ w₁ cv hadv hrel=>?_
 exact hn z x (putT tv o.dst (.bool z)) m₁ w₁ _ hz rfl ⟨st.h,st.fr,qcc st.e (by simp [Rel]) _,hadv.fits,(st.act.ext hadv.agree hadv.nx).put hrel o.dst⟩ hadv (Ke.refl _ _) (Nat.le_refl _) (q5m _ _ _)
omit hT in
theorem St.skip (st:St F x tm tv m w a) (d:Option Tmp):St F x (putW tm d (.tup [])) (putT tv d undef) m w (a.put d undef) :=
 ⟨st.h,st.fr,qcc st.e (by simp only [Rel]; exact ⟨[],rfl,by simp [RelP],rfl⟩) _,st.fits,st.act.put (q2q fun _=>by simp [undef,ren,renL]) d⟩
end
def wantedU (ops:List Oper) (tm:List U) (o:Oper):Option Bool :=
 match o.guard with
 | none=>some true
 | some (j,want)=>match dstOf ops j with
  | none=>some false
  | some d=>match nth tm d with
   | some (.bool b)=>some (b == want)
   | some (.tup _)=>some false
   | _=>none
theorem q2z {x:Cx} {ops:List Oper} {tm:List U} {tv:List Value} (ht:RelE x tm tv) {o:Oper} {b:Bool} (h:wantedU ops tm o=some b):wantedX ops tv o=b:=by
 unfold wantedU at h
 unfold wantedX
 cases hg:o.guard with
 | none=>simp [hg] at h; simp [h]
 | some g =>
  obtain ⟨j,want⟩:=g
  simp only [hg] at h ⊢
  cases hd:dstOf ops j with
  | none=>simp [hd] at h; simp [h]
  | some d =>
   simp only [hd,q1n] at h ⊢
   cases hu:tm[d]? with
   | none=>simp [hu] at h
   | some u =>
    obtain ⟨v,h1,h2⟩:=ht.get hu
    rw [h1]
    cases u with
    | bool c=>simp only [hu,Option.some.injEq] at h; simp only [Rel] at h2; subst h2; simp [h]
    | tup l=>simp only [hu,Option.some.injEq] at h; simp only [Rel] at h2; obtain ⟨vs,rfl,_⟩:=h2; simp [h]
    | _=>simp [hu] at h
def StepU (P:Program) (σ:Sg) (tm:List U) (o:Oper) (R:U→Sg→Prop):Prop :=
 ∀ (F:Nat→Blk→Prop) (x:Cx) (tv:List Value) (m:Nm) (w:World) (a:Act) (next:Act→World→Prop) (Q:Exit→Act→World→Prop),x.σ=σ→St F x tm tv m w a →
  (∀ u y tv' m₁ w₁ a₁,R u y.σ→St F y (putW tm o.dst u) tv' m₁ w₁ a₁→Adv m x.s w m₁ y.s w₁→Ke x.σ.nx x y→x.σ.nx≤y.σ.nx→a₁.defers=a.defers→next a₁ w₁)→o.wp P a w next Q
def RU (P:Program) (T:Tb) (ops:List Oper):List Oper→List U→Sg→(List U→Sg→Prop)→Prop
 | [],tm,σ,K=>K tm σ
 | o::r,tm,σ,K =>
  (wantedU ops tm o=some true∧∃ u σ',opU T σ tm o.op=some (u,σ')∧RU P T ops r (putW tm o.dst u) σ' K) ∨
  (wantedU ops tm o=some true∧∃ f args R,callU T tm o.op=some (f,args)∧EvU P f args σ R∧∀ u σ',R u σ'→RU P T ops r (putW tm o.dst u) σ' K) ∨
  (wantedU ops tm o=some false∧RU P T ops r (putW tm o.dst (.tup [])) σ K) ∨
  (wantedU ops tm o=some true∧∃ t xo yo ty e b l,o.op = .binOp .eql t xo yo ty∧T.und t=some (.slice e)∧evalU tm xo=some (.isl b l)∧evalU tm yo=some .nils∧∀ z:Bool,(z=true→l=[])→RU P T ops r (putW tm o.dst (.bool z)) σ K) ∨
  (wantedU ops tm o=some true∧∃ R,StepU P σ tm o R∧∀ u σ',R u σ'→RU P T ops r (putW tm o.dst u) σ' K)
def WPU (P:Program) (n0:Nat) (c:Code) (tm:List U) (σ:Sg) (Q:Exit→List U→Sg→Prop):Prop :=
 n0≤σ.nx→∀ F x tv m w a,x.σ=σ→St F x tm tv m w a→a.defers=[] →
  c.wp P (fun e a' w'=>∃ y tm' tv' m',Q e tm' y.σ∧St F y tm' tv' m' w' a'∧Adv m x.s w m' y.s w'∧Ke n0 x y∧n0≤y.σ.nx∧a'.defers=[]) a w
section
variable {P:Program} {n0:Nat} {Q:Exit→List U→Sg→Prop} {tm:List U} {σ:Sg}
def thenU (K:List U→Sg→Prop) (Q:Exit→List U→Sg→Prop):Exit→List U→Sg→Prop
 | .normal,tm,s=>K tm s
 | e,tm,s=>Q e tm s
theorem WPU.seq {p q:Code} (h:WPU P n0 p tm σ (thenU (fun tm σ=>WPU P n0 q tm σ Q) Q)):WPU P n0 (.seq p q) tm σ Q:=fun hn F x tv m w a hx st hd=>by
 refine wp_seq (wp_mono (h hn F x tv m w a hx st hd) ?_)
 rintro e a' w' ⟨y,tm',tv',m',h1,h2,h3,h4,h5,h6⟩
 cases e with
 | normal =>
  refine wp_mono (h1 h5 F y tv' m' w' a' rfl h2 h6) ?_
  rintro e a'' w'' ⟨z,tm'',tv'',m'',g1,g2,g3,g4,g5,g6⟩
  exact ⟨z,tm'',tv'',m'',g1,g2,h3.trans g3,h4.trans g4,g5,g6⟩
 | _=>exact ⟨y,tm',tv',m',h1,h2,h3,h4,h5,h6⟩
theorem WPU.skip (h:Q .normal tm σ):WPU P n0 .skip tm σ Q:=fun hn F x tv m w a hx st hd=>wp_skip ⟨x,tm,tv,m,hx ▸ h,st,Adv.refl st.fits,Ke.refl _ _,hx ▸ hn,hd⟩
theorem WPU.ret (h:Q .ret tm σ):WPU P n0 .ret tm σ Q:=fun hn F x tv m w a hx st hd=>wp_ret ⟨x,tm,tv,m,hx ▸ h,st,Adv.refl st.fits,Ke.refl _ _,hx ▸ hn,hd⟩
theorem WPU.exit {id:Nat} (h:Q (.exit id) tm σ):WPU P n0 (.exit id) tm σ Q:=fun hn F x tv m w a hx st hd=>wp_exit ⟨x,tm,tv,m,hx ▸ h,st,Adv.refl st.fits,Ke.refl _ _,hx ▸ hn,hd⟩
theorem WPU.cond {c:Operand} {p q:Code} {t:Bool} (hc:evalU tm c=some (.bool t)) (h1:t=true→WPU P n0 p tm σ Q) (h2:t=false→WPU P n0 q tm σ Q):WPU P n0 (.cond c p q) tm σ Q:=fun hn F x tv m w a hx st hd=>by
 obtain ⟨v,e1,e2⟩:=q0k st.e hc
 simp only [Rel] at e2
 subst e2
 have he:=(st.act.evalO e1).at
 simp only [ren] at he
 cases t with
 | true=>exact wp_cond_true he.symm (h1 rfl hn F x tv m w a hx st hd)
 | false=>exact wp_cond_false he.symm (h2 rfl hn F x tv m w a hx st hd)
def inBlockU (id:Nat) (Q:Exit→List U→Sg→Prop):Exit→List U→Sg→Prop
 | .exit id',tm,s=>if id'=id then Q .normal tm s else Q (.exit id') tm s
 | e,tm,s=>Q e tm s
theorem WPU.block {id:Nat} {c:Code} (h:WPU P n0 c tm σ (inBlockU id Q)):WPU P n0 (.block id c) tm σ Q:=fun hn F x tv m w a hx st hd=>by
 refine wp_block (wp_mono (h hn F x tv m w a hx st hd) ?_)
 rintro e a' w' ⟨y,tm',tv',m',h1,h2⟩
 cases e with
 | exit id' =>
  simp only [Exit.inBlock]
  simp only [inBlockU] at h1
  by_cases hid:id'=id
  ·simp only [hid,if_true] at h1 ⊢; exact ⟨y,tm',tv',m',h1,h2⟩
  ·simp only [hid,if_false] at h1 ⊢; exact ⟨y,tm',tv',m',h1,h2⟩
 | _=>exact ⟨y,tm',tv',m',h1,h2⟩
theorem WPU.loop {c:Code} (I:Nat→List U→Sg→Prop) (n:Nat) (h₀:I n tm σ) (round:∀ n tm σ,I n tm σ→WPU P n0 c tm σ (thenU (fun tm' σ'=>∃ n',n'<n∧I n' tm' σ') Q)):WPU P n0 (.loop c) tm σ Q:=by
 intro hn F x tv m w a hx st hd b k cs
 have key:∀ n tm σ,I n tm σ→n0≤σ.nx→∀ x tv m w a,x.σ=σ→St F x tm tv m w a→a.defers=[]→∃ e a' w',(∃ y tm' tv' m',Q e tm' y.σ∧St F y tm' tv' m' w' a'∧Adv m x.s w m' y.s w'∧Ke n0 x y∧n0≤y.σ.nx∧a'.defers=[])∧Arrives P (lone (b.at a (.code c :: .inLoop c::k)) cs w) b k cs e a' w':=by
  intro n
  induction n using Nat.strongRecOn with
  | _ n ih =>
   intro tm σ hI hn x tv m w a hx st hd
   obtain ⟨e,a₁,w₁,⟨y,tm₁,tv₁,m₁,hq,hst,hadv,hke,hnx,hdf⟩,harr⟩:=round n tm σ hI hn F x tv m w a hx st hd b (.inLoop c::k) cs
   cases e with
   | normal =>
    obtain ⟨n',hlt,hI'⟩:=hq
    obtain ⟨e₂,a₂,w₂,⟨z,tm₂,tv₂,m₂,hq₂,hst₂,hadv₂,hke₂,hnx₂,hdf₂⟩,harr₂⟩:=ih n' hlt tm₁ y.σ hI' hnx y tv₁ m₁ w₁ a₁ rfl hst hdf
    exact ⟨e₂,a₂,w₂,⟨z,tm₂,tv₂,m₂,hq₂,hst₂,hadv.trans hadv₂,hke.trans hke₂,hnx₂,hdf₂⟩,.of_steps (Steps.trans harr (.one step_inLoop)) harr₂⟩
   | exit id=>exact ⟨_,a₁,w₁,⟨y,tm₁,tv₁,m₁,hq,hst,hadv,hke,hnx,hdf⟩,.pass (x:=.inLoop c) rfl (fun _ _=>.inl (by simp)) harr⟩
   | goto l=>exact ⟨_,a₁,w₁,⟨y,tm₁,tv₁,m₁,hq,hst,hadv,hke,hnx,hdf⟩,.pass (x:=.inLoop c) rfl (fun _ _=>.inl (by simp)) harr⟩
   | ret=>exact ⟨_,a₁,w₁,⟨y,tm₁,tv₁,m₁,hq,hst,hadv,hke,hnx,hdf⟩,.pass (x:=.inLoop c) rfl (fun _ _=>.inl (by simp)) harr⟩
   | panic ch=>exact ⟨_,a₁,w₁,⟨y,tm₁,tv₁,m₁,hq,hst,hadv,hke,hnx,hdf⟩,.pass (x:=.inLoop c) rfl (fun _ _=>.inl (by simp)) harr⟩
   | outgrown=>exact ⟨_,a₁,w₁,⟨y,tm₁,tv₁,m₁,hq,hst,hadv,hke,hnx,hdf⟩,.pass (x:=.inLoop c) rfl (fun _ _=>.inl (by simp)) harr⟩
 obtain ⟨e,a',w',hq,harr⟩:=key n tm σ h₀ hn x tv m w a hx st hd
 exact ⟨e,a',w',hq,.of_steps (.one step_loop) harr⟩
def Gh (n0:Nat) (tm:List U) (σ:Sg) (tm':List U) (σ':Sg):Prop :=
 ∀ F x tv,x.σ=σ→HRel x→Fr F x→RelE x tm tv→∃ y,(∀ m w,FitsS m x.s w→Adv m x.s w m y.s w)∧y.σ=σ'∧HRel y∧Fr F y∧RelE y tm' tv∧Ke n0 x y
theorem Gh.refl (n0:Nat) (tm:List U) (σ:Sg):Gh n0 tm σ tm σ:=fun F x tv hx h hf he=>⟨x,fun m w hf=>Adv.refl hf,hx,h,hf,he,Ke.refl _ _⟩
theorem Gh.trans {tm' tm'':List U} {σ' σ'':Sg} (h:Gh n0 tm σ tm' σ') (h':Gh n0 tm' σ' tm'' σ''):Gh n0 tm σ tm'' σ'':=fun F x tv hx hh hf he=>by
 obtain ⟨y,h1,h2,h3,h4,h5,h6⟩:=h F x tv hx hh hf he
 obtain ⟨z,g1,g2,g3,g4,g5,g6⟩:=h' F y tv h2 h3 h4 h5
 exact ⟨z,fun m w hf=>(h1 m w hf).trans (g1 m w (h1 m w hf).fits),g2,g3,g4,g5,h6.trans g6⟩
theorem WPU.ghost {c:Code} {tm':List U} {σ':Sg} (h:Gh n0 tm σ tm' σ') (hn':n0≤σ'.nx) (hw:WPU P n0 c tm' σ' Q):WPU P n0 c tm σ Q:=fun hn F x tv m w a hx st hd=>by
 obtain ⟨y,h1,h2,h3,h4,h5,h6⟩:=h F x tv hx st.h st.fr st.e
 have hadv:=h1 m w st.fits
 refine wp_mono (hw hn' F y tv m w a h2 ⟨h3,h4,h5,hadv.fits,st.act.ext hadv.agree hadv.nx⟩ hd) ?_
 rintro e a' w' ⟨z,tm'',tv'',m'',g1,g2,g3,g4,g5,g6⟩
 exact ⟨z,tm'',tv'',m'',g1,g2,hadv.trans g3,h6.trans g4,g5,g6⟩
theorem WPU.after {c:Code} {Q':Exit→List U→Sg→Prop} (h:WPU P n0 c tm σ Q') (hq:∀ e tm σ,n0≤σ.nx→Q' e tm σ→∃ tm' σ',n0≤σ'.nx∧Gh n0 tm σ tm' σ'∧Q e tm' σ'):WPU P n0 c tm σ Q:=fun hn F x tv m w a hx st hd=>by
 refine wp_mono (h hn F x tv m w a hx st hd) ?_
 rintro e a' w' ⟨y,tm',tv',m',h1,h2,h3,h4,h5,h6⟩
 obtain ⟨tm'',σ'',q1,q2,q3⟩:=hq e tm' y.σ h5 h1
 obtain ⟨z,g1,g2,g3,g4,g5,g6⟩:=q2 F y tv' rfl h2.h h2.fr h2.e
 have hadv:=g1 m' w' h2.fits
 exact ⟨z,tm'',tv',m',g2 ▸ q3,⟨g3,g4,g5,hadv.fits,h2.act.ext hadv.agree hadv.nx⟩,h3.trans hadv,h4.trans g6,g2 ▸ q1,h6⟩
variable {T:Tb} (hT:TbOk P T)
include hT
theorem ru_ok (ops:Array Oper) (E:Exit→Act→World→Prop) {F:Nat→Blk→Prop} {x0:Cx} {m0:Nm} {w0:World} {df:List Deferred} (K:List U→Sg→Prop) :
  ∀ (rest:List Oper) (i:Nat),ops.toList.drop i=rest→∀ (x:Cx) (tm:List U) (tv:List Value) (m:Nm) (w:World) (a:Act),St F x tm tv m w a→a.defers=df→Adv m0 x0.s w0 m x.s w→Ke n0 x0 x→n0≤x.σ.nx→RU P T ops.toList rest tm x.σ K →
   (∀ y tm' tv' m' w' a',K tm' y.σ→St F y tm' tv' m' w' a'→Adv m0 x0.s w0 m' y.s w'→Ke n0 x0 y→n0≤y.σ.nx→a'.defers=df→E .normal a' w')→wpOps P ops E (List.range' i rest.length) a w
 | [],i,_,x,tm,tv,m,w,a,st,hd,hadv,hke,hn,h,hQ=>by
  simp only [List.length_nil,List.range'_zero,wpOps]
  exact hQ x tm tv m w a h st hadv hke hn hd
 | o::rest,i,hdr,x,tm,tv,m,w,a,st,hd,hadv,hke,hn,h,hQ=>by
  have ho:ops[i]? = some o:=by
   have:=congrArg (fun l=>l[0]?) hdr
   simpa using this
  have hd':ops.toList.drop (i+1)=rest:=by
   have:=congrArg List.tail hdr
   simpa using this
  simp only [List.length_cons,List.range'_succ,wpOps,ho,qco (st.act m (Agree.refl _ _)) ops o]
  simp only [RU] at h
  rcases h with ⟨hw,u,σ',h1,h2⟩ | ⟨hw,f,args,R,h1,h2,h3⟩ | ⟨hw,h1⟩ | ⟨hw,t,xo,yo,ty,e,b,l,h1,h2,h3,h4,h5⟩ | ⟨hw,R,h1,h2⟩
  ·rw [q2z st.e hw]
   simp only [if_true]
   left
   refine st.op hT o h1 fun y tv' m₁ w₁ a₁ e1 st' hadv' hke' hnx hdf=>?_
   exact ru_ok ops E K rest (i+1) hd' y _ tv' m₁ w₁ a₁ st' (hdf.trans hd) (hadv.trans hadv') (hke.trans (hke'.le hn)) (by omega) (e1 ▸ h2) hQ
  ·rw [q2z st.e hw]
   simp only [if_true]
   left
   refine st.call hT o h1 h2 fun y u tv' m₁ w₁ a₁ hR st' hadv' hke' hnx hdf=>?_
   exact ru_ok ops E K rest (i+1) hd' y _ tv' m₁ w₁ a₁ st' (hdf.trans hd) (hadv.trans hadv') (hke.trans (hke'.le hn)) (by omega) (h3 u y.σ hR) hQ
  ·rw [q2z st.e hw]
   simp only [Bool.false_eq_true,if_false]
   exact ru_ok ops E K rest (i+1) hd' x _ _ m w _ (st.skip o.dst) ((q5m _ _ _).trans hd) hadv hke hn h1 hQ
  ·rw [q2z st.e hw]
   simp only [if_true]
   left
   refine st.nilq hT o h1 h2 h3 h4 fun z y tv' m₁ w₁ a₁ hz e1 st' hadv' hke' hnx hdf=>?_
   exact ru_ok ops E K rest (i+1) hd' y _ tv' m₁ w₁ a₁ st' (hdf.trans hd) (hadv.trans hadv') (hke.trans (hke'.le hn)) (by omega) (e1 ▸ h5 z hz) hQ
  ·rw [q2z st.e hw]
   simp only [if_true]
   left
   refine h1 F x tv m w a _ _ rfl st fun u y tv' m₁ w₁ a₁ hR st' hadv' hke' hnx hdf=>?_
   exact ru_ok ops E K rest (i+1) hd' y _ tv' m₁ w₁ a₁ st' (hdf.trans hd) (hadv.trans hadv') (hke.trans (hke'.le hn)) (by omega) (h2 u y.σ hR) hQ
theorem WPU.region {id:Nat} {ops:Array Oper} (h:RU P T ops.toList ops.toList tm σ (fun tm' σ'=>Q .normal tm' σ')):WPU P n0 (.region id ops false) tm σ Q:=fun hn F x tv m w a hx st hd=>by
 subst hx
 refine wp_region ?_
 have:=ru_ok hT ops (fun e a' w'=>∃ y tm' tv' m',Q e tm' y.σ∧St F y tm' tv' m' w' a'∧Adv m x.s w m' y.s w'∧Ke n0 x y∧n0≤y.σ.nx∧a'.defers=[]) (F:=F) (x0:=x) (m0:=m) (w0:=w) (df:=[]) (fun tm' σ'=>Q .normal tm' σ') ops.toList 0 (by simp) x tm tv m w a st hd (Adv.refl st.fits) (Ke.refl _ _) hn h
  (fun y tm' tv' m' w' a' h1 h2 h3 h4 h5 h6=>⟨y,tm',tv',m',h1,h2,h3,h4,h5,h6⟩)
 rw [List.range_eq_range']
 simpa using this
end
def resU (T:Tb) (σ:Sg) (tm:List U):List ResultVar→Option (List U)
 | []=>some []
 | .tmp t::r=>match nth tm t with
  | some v=>(match resU T σ tm r with
   | some l=>some (v::l)
   | none=>none)
  | none=>none
 | .cell a t::r=>match readU T σ tm (.load t (.tmp a)) with
  | some v=>(match resU T σ tm r with
   | some l=>some (v::l)
   | none=>none)
  | none=>none
def oneU:List U→U
 | [v]=>v
 | l=>.tup l
theorem res_sim {T:Tb} {x:Cx} (hx:HRel x) {tm:List U} {tv:List Value} (ht:RelE x tm tv):∀ {rs:List ResultVar} {us:List U},resU T x.σ tm rs=some us→∃ vs,resX T tv x.s rs=some vs∧RelE x us vs
 | [],us,h=>by simp only [resU,Option.some.injEq] at h; subst h; exact ⟨[],rfl,RelE.nil x⟩
 | .tmp t::rs,us,h=>by
  simp only [resU,q1n] at h
  cases h1:tm[t]? with
  | none=>simp [h1] at h
  | some u =>
   cases h2:resU T x.σ tm rs with
   | none=>simp [h1,h2] at h
   | some l =>
    simp only [h1,h2,Option.some.injEq] at h
    subst h
    obtain ⟨v,e1,e2⟩:=ht.get h1
    obtain ⟨vs,e3,e4⟩:=res_sim hx ht h2
    exact ⟨v::vs,by simp [resX,q1n,e1,e3],RelE.cons e2 e4⟩
 | .cell a t::rs,us,h=>by
  simp only [resU] at h
  cases h1:readU T x.σ tm (.load t (.tmp a)) with
  | none=>simp [h1] at h
  | some u =>
   cases h2:resU T x.σ tm rs with
   | none=>simp [h1,h2] at h
   | some l =>
    simp only [h1,h2,Option.some.injEq] at h
    subst h
    obtain ⟨v,y,e1,e2,e3,e4⟩:=read_sim hx ht h1
    obtain ⟨vs,e5,e6⟩:=res_sim hx ht h2
    have hp:pureX T tv (.load t (.tmp a))=none:=rfl
    have he:effX T tv x.s (.load t (.tmp a))=none:=rfl
    have hc:callOf T tv (.load t (.tmp a))=none:=rfl
    unfold opX at e1
    simp only [hp,he,hc] at e1
    cases hrd:readX T tv x.s (.load t (.tmp a)) with
    | none=>simp [hrd] at e1
    | some v' =>
     simp only [hrd,Option.some.injEq,Prod.mk.injEq] at e1
     obtain ⟨rfl,hs⟩:=e1
     refine ⟨v'::vs,by simp [resX,hrd,e5],RelE.cons ?_ e6⟩
     have hmo:Mo y.σ.nx y x:=by
      refine ⟨fun k hk hk'=>?_,fun i row e hl=>by rw [hs]; exact hl⟩
      rw [e2] at hk' ⊢
      refine ⟨hk',fun b hb=>⟨b,hb,Nat.le_refl _,fun _=>⟨?_,fun l e sz st h=>⟨l,h⟩⟩⟩⟩
      have:=(e4.mo.ref k (by rw [← e2]; exact hk) hk').2 b (by rw [e2]; exact hb)
      obtain ⟨b',q1,q2,q3⟩:=this
      rw [hb] at q1; cases q1
      exact (q3 rfl).1.symm
     exact hmo.ke u _ (Rel.bel _ _ e3) e3
theorem one_sim {x:Cx} {us:List U} {vs:List Value} (h:RelE x us vs):Rel x (oneU us) (oneX vs):=by
 match us,vs,h with
 | [],vs,h=>rw [h.nil_inv]; simp only [oneU,oneX,Rel]; exact ⟨[],rfl,by simp [RelP],rfl⟩
 | [u],vs,h=>obtain ⟨v,vs',rfl,h1,h2⟩:=h.inv; rw [h2.nil_inv]; exact h1
 | u::u'::us,vs,h =>
  obtain ⟨v,vs',rfl,h1,h2⟩:=h.inv
  obtain ⟨v',vs'',rfl,h3,h4⟩:=h2.inv
  simp only [oneU,oneX,Rel]
  exact ⟨_,rfl,h.1,h.2⟩
def padU:Nat→List U→List U
 | 0,l=>l
 | n+1,[]=>.tup []::padU n []
 | n+1,v::l=>v::padU n l
theorem pad_sim {x:Cx}:∀ (n:Nat) {us:List U} {vs:List Value},RelE x us vs→RelE x (padU n us) (pad n vs)
 | 0,us,vs,h=>h
 | n+1,[],vs,h=>by rw [h.nil_inv]; exact RelE.cons (by simp only [Rel]; exact ⟨[],rfl,by simp [RelP],rfl⟩) (pad_sim n (RelE.nil x))
 | n+1,u::us,vs,h=>by obtain ⟨v,vs',rfl,h1,h2⟩:=h.inv; exact RelE.cons h1 (pad_sim n h2)
section
variable {P:Program} {T:Tb} (hT:TbOk P T)
include hT
theorem EvU.of_body {f:FuncId} {fn:Func} {c:Code} {args:List U} {σ:Sg} {R:U→Sg→Prop} (hf:T.fn f=some fn) (hb:fn.body=some c)
  (h:WPU P σ.nx c (padU fn.ntmps args) σ fun e tm' σ'=>(e = .normal∨e = .ret)∧∃ l,resU T σ' tm' fn.results.toList=some l∧∃ u' σ'',σ.nx≤σ''.nx∧Gh σ.nx [oneU l] σ' [u'] σ''∧R u' σ''):EvU P f args σ R:=fun F x vs m w cargs hx hh hfr he hfit hargs=>by
 obtain ⟨hf0,_⟩:=hT.fn f fn hf
 have hcl:cargs.length=vs.length:=by rw [← hargs.at]; simp
 refine calls_of_wp hf0 hb ?_
 have hact:ActR m x.s.nx (pad fn.ntmps vs) { tmps:=cargs.toArray++Array.replicate (fn.ntmps - cargs.toArray.size) undef,defers:=[] }:=fun m' hm'=>by
  simp only [pad_eq,q3d,hargs m' hm',hcl,List.size_toArray]
  apply Array.ext'
  simp [q1j,ren,undef]
 refine wp_mono (h (Nat.le_refl _) F x _ m w _ hx ⟨hh,hfr,pad_sim _ he,hfit,hact⟩ rfl) ?_
 rintro e a' w' ⟨y,tm',tv',m',⟨hex,l,hres,u',σ'',hnx,hgh,hR⟩,st',hadv,hke,hn,hdf⟩
 obtain ⟨ls,hres',hrl⟩:=res_sim st'.h st'.e hres
 have hrun:∀ m'',Agree y.s.nx m' m''→(results fn a'.tmps).run P w' = .ok (ren m'' (oneX ls)) w':=fun m'' hm''=>by
  rw [st'.act m'' hm'']
  exact results_ok hT (st'.fits m'' hm'') hres'
 have hrel:RelS m' y.s.nx (oneX ls) (ren m' (oneX ls)):=fun m'' hm''=>by
  have e1:=hrun m'' hm''
  rw [hrun m' (Agree.refl _ _)] at e1
  simp at e1
  exact e1.symm
 obtain ⟨z,z1,z2,z3,z4,z5,z6⟩:=hgh F y [oneX ls] rfl st'.h st'.fr (RelE.cons (one_sim hrl) (RelE.nil y))
 obtain ⟨v0,vs0,e0,z7,_⟩:=z5.inv
 cases e0
 have hadv2:=z1 m' w' st'.fits
 have hpost:bodyPost P fn (fun e w₁=>∃ y m₁ u v cv,e = .returned cv∧R u y.σ∧Adv m x.s w m₁ y.s w₁∧RelS m₁ y.s.nx v cv∧HRel y∧Fr F y∧Rel y u v∧Ke x.σ.nx x y∧x.σ.nx≤y.σ.nx) .ret a' w' :=
  ⟨hdf,_,hrun m' (Agree.refl _ _),z,m',u',oneX ls,_,rfl,z2 ▸ hR,hadv.trans hadv2,hrel.ext (Agree.refl _ _) hadv2.nx,z3,z4,z7,hx ▸ hke.trans z6,by rw [hx,z2]; exact hnx⟩
 rcases hex with rfl | rfl
 ·exact hpost
 ·exact hpost
end
theorem EvU.mono {P:Program} {f:FuncId} {args:List U} {σ:Sg} {R R':U→Sg→Prop} (h:EvU P f args σ R) (hr:∀ u σ',R u σ'→R' u σ'):EvU P f args σ R':=fun F x vs m w cargs hx hh hfr he hfit hargs =>
 (h F x vs m w cargs hx hh hfr he hfit hargs).mono fun _ _ ⟨y,m₁,u,v,cv,h1,h2,h3⟩=>⟨y,m₁,u,v,cv,h1,hr _ _ h2,h3⟩
end Go.Vx
end
section
namespace Go.Vx
open Go Go.Rx
set_option linter.unusedVariables false
theorem EvU.pure {P:Program} {f:FuncId} {args:List U} {R:U→Prop} (h:EvU P f args ⟨[],0⟩ (fun u _=>R u∧Bel 0 u)) (ha:BelL 0 args) (σ:Sg):EvU P f args σ (fun u σ'=>R u∧σ'=σ):=fun F x vs m w cargs hx hh hfr he hfit hargs=>by
 have h0:HRel ⟨fun _=>none,⟨[],0⟩,x.s⟩:=⟨fun k b hb=>by simp [gt] at hb,fun k k' b b' i hb=>by simp [gt] at hb,hh.bd⟩
 have hm0:Mo 0 x ⟨fun _=>none,⟨[],0⟩,x.s⟩:=⟨fun k hk=>by omega,fun _ _ _ h=>h⟩
 refine (h (fun i b=>lk x.s.h i=some b) ⟨fun _=>none,⟨[],0⟩,x.s⟩ vs m w cargs rfl h0 (fun i b hb=>⟨hb,fun k c hc=>by simp [gt] at hc⟩) (hm0.ke.E ha he) hfit hargs).mono ?_
 rintro e w₁ ⟨y,m₁,u,v,cv,rfl,⟨hR,hcl⟩,hadv,hrel,hhy,hfry,hru,_,_⟩
 have hmo:Mo x.σ.nx x ⟨x.ρ,x.σ,y.s⟩:=⟨fun k _ h2=>⟨h2,fun b hb=>⟨b,hb,Nat.le_refl _,fun _=>⟨rfl,fun l e sz st h=>⟨l,h⟩⟩⟩⟩,fun i row e hl=>(hfry i _ hl).1⟩
 have hm1:Mo 0 y ⟨x.ρ,x.σ,y.s⟩:=⟨fun k hk=>by omega,fun _ _ _ h=>h⟩
 refine ⟨⟨x.ρ,x.σ,y.s⟩,m₁,u,v,cv,rfl,⟨hR,hx⟩,hadv,hrel,⟨fun k b hb=>?_,hh.inj,hhy.bd⟩,fun i b hb=>?_,hm1.ke u v hcl hru,hmo.ke,Nat.le_refl _⟩
 ·obtain ⟨h1,h2⟩:=hh.ok k b hb
  exact ⟨h1,h2.mono hmo rfl fun i c _ hl=>(hfry i c hl).1⟩
 ·obtain ⟨h1,h2⟩:=hfr i b hb
  exact ⟨(hfry i b h1).1,h2⟩
def BelB (n:Nat):B→Prop
 | .row l _=>BelL n l
 | .vec l _ _ _=>BelL n l
 | .map es _=>∀ e∈es,Bel n e.key∧Bel n e.val
def BelH (n:Nat):List (Nat×B)→Prop
 | []=>True
 | (_,b)::h=>BelB n b∧BelH n h
def cut (n:Nat):List (Nat×B)→List (Nat×B)
 | []=>[]
 | (k,b)::h=>cond (Nat.blt k n) ((k,b)::cut n h) (cut n h)
theorem gt_cut (n:Nat) (h:List (Nat×B)) (k:Nat):gt (cut n h) k=if k<n then gt h k else none:=by
 induction h with
 | nil=>simp [cut,gt]
 | cons p h ih =>
  obtain ⟨j,b⟩:=p
  simp only [cut]
  by_cases hj:j<n
  ·rw [q3e hj]
   simp only [cond_true,q31,ih]
   by_cases hjk:j=k
   ·subst hjk; simp [hj]
   ·simp [hjk]
  ·rw [q67 hj]
   simp only [cond_false,q31,ih]
   by_cases hjk:j=k
   ·subst hjk; simp [hj]
   ·simp [hjk]
theorem belH_get {n:Nat} {h:List (Nat×B)} (hb:BelH n h) {k:Nat} {b:B} (hg:gt h k=some b):BelB n b:=by
 induction h with
 | nil=>simp [gt] at hg
 | cons p h ih =>
  obtain ⟨j,c⟩:=p
  simp only [BelH] at hb
  simp only [q31] at hg
  split at hg
  ·cases hg; exact hb.1
  ·exact ih hb.2 hg
theorem BOk.monoB {n:Nat} {x y:Cx} {k:Nat} {b:B} (h:BOk x k b) (hb:BelB n b) (hm:Mo n x y) (hρ:y.ρ k=x.ρ k) (hl:∀ i c,x.ρ k=some i→lk x.s.h i=some c→lk y.s.h i=some c):BOk y k b:=by
 cases b with
 | row l e=>obtain ⟨k1,i,l',e1,e2,e3⟩:=h; exact ⟨k1,i,l',by rw [hρ,e1],hl _ _ e1 e2,hm.ke.E hb e3⟩
 | vec l e sz st =>
  obtain ⟨k1,k2,h3⟩:=h
  refine ⟨k1,k2,?_⟩
  rcases h3 with ⟨h3,h4⟩ | ⟨i,l',e1,e2,e3⟩
  ·exact .inl ⟨h3,by rw [hρ,h4]⟩
  ·exact .inr ⟨i,l',by rw [hρ,e1],hl _ _ e1 e2,hm.ke.E hb e3⟩
 | map es cl =>
  obtain ⟨i,es',e1,e2,e3⟩:=h
  refine ⟨i,es',by rw [hρ,e1],hl _ _ e1 e2,e3.1,fun j e he=>?_⟩
  obtain ⟨v,q1,q2,q3,q4⟩:=e3.2 j e he
  have:=hb e (List.mem_of_getElem? he)
  exact ⟨v,q1,hm.ke _ _ this.1 q2,hm.ke _ _ this.2 q3,q4⟩
def junkT:List Bool→List U→List U
 | true::l,_::tm=>.junk::junkT l tm
 | false::l,u::tm=>u::junkT l tm
 | _,tm=>tm
theorem junk_sim {x:Cx}:∀ (l:List Bool) {tm:List U} {tv:List Value},RelE x tm tv→RelE x (junkT l tm) tv
 | [],tm,tv,h=>by cases tm<;>exact h
 | true::l,[],tv,h=>h
 | false::l,[],tv,h=>h
 | true::l,u::tm,tv,h=>by obtain ⟨v,vs,rfl,h1,h2⟩:=h.inv; exact RelE.cons (by simp [Rel]) (junk_sim l h2)
 | false::l,u::tm,tv,h=>by obtain ⟨v,vs,rfl,h1,h2⟩:=h.inv; exact RelE.cons h1 (junk_sim l h2)
theorem Gh.junk (n0:Nat) (l:List Bool) (tm:List U) (σ:Sg):Gh n0 tm σ (junkT l tm) σ:=fun F x tv hx h hf he=>⟨x,fun m w hf=>Adv.refl hf,hx,h,hf,junk_sim l he,Ke.refl _ _⟩
theorem Gh.cut {n0 n1:Nat} {tm:List U} {σ:Sg} (h1:n0≤n1) (h2:n1≤σ.nx) (hb:BelL n1 tm) (hh:BelH n1 (Vx.cut n1 σ.h)):Gh n0 tm σ tm ⟨Vx.cut n1 σ.h,n1⟩:=fun F x tv hx hr hf he=>by
 subst hx
 have hmo:Mo n1 x ⟨x.ρ,⟨Vx.cut n1 x.σ.h,n1⟩,x.s⟩:=by
  refine ⟨fun k hk _=>⟨hk,fun b hb=>?_⟩,fun _ _ _ h=>h⟩
  simp only [gt_cut,hk,if_true] at hb
  exact ⟨b,hb,Nat.le_refl _,fun _=>⟨rfl,fun l e sz st h=>⟨l,h⟩⟩⟩
 have sub:∀ {k b},gt (Vx.cut n1 x.σ.h) k=some b→k<n1∧gt x.σ.h k=some b:=fun {k b} hg=>by
  simp only [gt_cut] at hg
  split at hg
  ·exact ⟨by assumption,hg⟩
  ·cases hg
 refine ⟨⟨x.ρ,⟨Vx.cut n1 x.σ.h,n1⟩,x.s⟩,fun m w hf=>Adv.refl hf,rfl,⟨fun k b hg=>?_,fun k k' b b' i g1 g2=>hr.inj k k' b b' i (sub g1).2 (sub g2).2,hr.bd⟩,fun i b hF=>?_,hmo.ke.E hb he,hmo.ke.le h1⟩
 ·exact ⟨(sub hg).1,(hr.ok k b (sub hg).2).2.monoB (belH_get hh hg) hmo rfl fun _ _ _ h=>h⟩
 ·exact ⟨(hf i b hF).1,fun k c hc=>(hf i b hF).2 k c (sub hc).2⟩
theorem set_self {l:List Value} {i:Nat} {v:Value} (h:l[i]? = some v):l.set i v=l:=by
 apply List.ext_getElem?
 intro j
 rw [List.getElem?_set]
 split
 ·rename_i e; subst e
  have:=(List.getElem?_eq_some_iff.1 h).1
  simp only [this,if_true]; exact h.symm
 ·rfl
theorem Gh.nilvec {n0:Nat} {tm:List U} {σ:Sg} (i:Nat) (e:TypeId) (sz:Nat) (hsz:0<sz) (h0:n0≤σ.nx) (hi:nth tm i=some .nils):Gh n0 tm σ (tm.set i (.vl σ.nx 0 0 0)) (newU σ (.vec [] e sz 0)):=fun F x tv hx hr hf he=>by
 subst hx
 have ho:=qa4 hr e sz hsz
 rw [q1n] at hi
 obtain ⟨v,h1,h2⟩:=he.get hi
 simp only [Rel] at h2
 subst h2
 refine ⟨⟨setρ x.ρ x.σ.nx none,newU x.σ (.vec [] e sz 0),x.s⟩,fun m w hf=>Adv.refl hf,rfl,ho.h,ho.fr F hf,?_,ho.mo.ke.le h0⟩
 have:=(ho.mo.ke.E he.bel he).set i (q7x (x:=x) (e:=e) (sz:=sz) (o:=none) (by simp))
 rwa [set_self h1] at this
theorem Adv.freeze {m:Nm} {s:S} {w:World} (h:FitsS m s w) {i:Nat} {l:List Value} {e md e1:Nat} (hl:lk s.h i=some (.inl (l,e,md))) (hmd:md=0∧e1=0∨∃ sz,md=sz+2∧e1=sz+1) :
  Adv m s w m ⟨up s.h i (.inl (l,e1,1)),s.nx⟩ w:=by
 have old:∀ j c,lk (up s.h i (.inl (l,e1,1))) j=some c→∃ d,lk s.h j=some d∧(Own c=true→Own d=true)∧(j≠i→c=d):=fun j c hc=>by
  simp only [qal] at hc
  by_cases hij:i=j
  ·subst hij
   simp only [if_true,hl,Option.map_some,Option.some.injEq] at hc
   subst hc
   exact ⟨_,hl,fun h=>by simp [Own] at h,fun h=>absurd rfl h⟩
  ·simp only [hij,if_false] at hc
   exact ⟨c,hc,id,fun _=>rfl⟩
 refine ⟨Agree.refl _ _,Nat.le_refl _,fun m' ha=>?_,?_,fun _ _ _=>rfl,Nat.le_refl _,rfl,rfl,rfl,?_⟩
 ·have hf:=h m' ha
  refine ⟨fun j c hc=>?_,fun j k c d hc hd hjk ho=>?_,fun j c hc=>?_⟩
  ·by_cases hij:j=i
   ·subst hij
    simp only [qal,if_true,hl,Option.map_some,Option.some.injEq] at hc
    subst hc
    have hr:RowOk m' j l e w md:=hf.ok j _ hl
    rcases hmd with ⟨rfl,rfl⟩ | ⟨sz,rfl,rfl⟩
    ·obtain ⟨h0,h1⟩:=hr
     exact ⟨_,_,_,h1,fun k v hk=>by simp [h0,q1j,hk],fun n hn=>absurd hn (by simp)⟩
    ·obtain ⟨pr,rest,h1,h2,h3⟩:=hr
     refine ⟨_,_,_,h1,fun k v hk=>?_,fun n hn=>?_⟩
     ·have hlt:k<l.length:=(List.getElem?_eq_some_iff.1 hk).1
      simp only [List.getElem?_toArray,List.append_assoc,← h2]
      rw [List.getElem?_append_right (by omega),Nat.add_sub_cancel_left,List.getElem?_append_left (by simpa using hlt)]
      simp [q1j,hk]
     ·have:n=sz:=(Nat.succ.inj hn).symm
      subst this; exact Nat.le_of_add_right_le (Nat.le_of_eq h3)
   ·obtain ⟨d,h1,_,h3⟩:=old j c hc
    rw [h3 hij]
    exact hf.ok j d h1
  ·obtain ⟨c',h1,h2,_⟩:=old j c hc
   obtain ⟨d',h3,_,_⟩:=old k d hd
   exact hf.inj j k c' d' h1 h3 hjk (h2 ho)
  ·obtain ⟨d,h1,_⟩:=old j c hc
   exact hf.bd j d h1
 ·rintro b ⟨j,c,hc,ho,rfl⟩
  obtain ⟨d,h1,h2,_⟩:=old j c hc
  exact .inl ⟨j,d,h1,h2 ho,rfl⟩
 ·exact Nat.le_refl _
def chunks (sz:Nat):Nat→List U→List (List U)
 | 0,_=>[]
 | n+1,l=>l.take sz::chunks sz n (l.drop sz)
theorem qac (sz n:Nat) (l:List U):(chunks sz n l).length=n:=by
 induction n generalizing l with
 | zero=>rfl
 | succ n ih=>simp [chunks,ih]
theorem qad {x:Cx} {sz:Nat}:∀ (n:Nat) {l:List U} {vs:List Value},RelP x l vs→okL l=true→n*sz≤l.length→RelR x sz (chunks sz n l) vs
 | 0,l,vs,h,hk,hl=>by simp [chunks,RelR]
 | n+1,l,vs,h,hk,hl=>by
  rw [Nat.succ_mul] at hl
  simp only [chunks,RelR]
  refine ⟨by simp; omega,q76 hk _,?_,qad n (h.drop sz) (q4p hk _) (by simp; omega)⟩
  rw [q5y] at h ⊢
  intro i u hu
  rw [List.getElem?_take] at hu
  split at hu
  ·exact h i u hu
  ·cases hu
mutual
def fz (K:Nat) (b:B) (sz:Nat):U→U
 | .sl k off n c=>cond (Nat.beq k K) (match b with
  | .row l _=>if off+n*sz≤l.length then .isl false (chunks sz n (l.drop off)) else .sl k off n c
  | _=>.sl k off n c) (.sl k off n c)
 | .vl k st off n=>cond (Nat.beq k K) (match b with
  | .vec l _ sz' st'=>if st'=st∧(off+n)*sz'≤l.length then .isl false (chunks sz' n (l.drop (off*sz'))) else .vl k st off n
  | _=>.vl k st off n) (.vl k st off n)
 | .ptr k st off=>cond (Nat.beq k K) (match b with
  | .row l _=>if st=0 then .iptr (l.drop off) else .ptr k st off
  | _=>.ptr k st off) (.ptr k st off)
 | .agg l=>.agg (fzL K b sz l)
 | .tup l=>.tup (fzL K b sz l)
 | .fn f a c=>.fn f (fzL K b sz a) (fzL K b sz c)
 | u=>u
def fzL (K:Nat) (b:B) (sz:Nat):List U→List U
 | []=>[]
 | u::l=>fz K b sz u::fzL K b sz l
end
def fzB (K:Nat) (b:B) (sz:Nat):B→B
 | .row l e=>.row (fzL K b sz l) e
 | .vec l e s st=>.vec (fzL K b sz l) e s st
 | .map es cl=>.map (es.map fun e=>{ e with val:=fz K b sz e.val }) cl
def fzH (K:Nat) (b:B) (sz:Nat):List (Nat×B)→List (Nat×B)
 | []=>[]
 | (k,c)::h=>cond (Nat.beq k K) (fzH K b sz h) ((k,fzB K b sz c)::fzH K b sz h)
theorem gt_fzH (K:Nat) (b:B) (sz:Nat) (h:List (Nat×B)) (k:Nat):gt (fzH K b sz h) k=if k=K then none else (gt h k).map (fzB K b sz):=by
 induction h with
 | nil=>simp [fzH,gt]
 | cons p h ih =>
  obtain ⟨j,c⟩:=p
  simp only [fzH,beq_eq]
  by_cases hj:j=K
  ·subst hj
   simp only [decide_true,cond_true,ih,q31]
   by_cases hk:k=j
   ·simp [hk]
   ·simp [hk,Ne.symm hk]
  ·simp only [hj,decide_false,cond_false,q31,ih]
   by_cases hk:j=k
   ·subst hk; simp [hj]
   ·simp [hk]
theorem fzB_st (K:Nat) (b:B) (sz:Nat) (c:B):(fzB K b sz c).st=c.st:=by cases c<;>rfl
theorem fz_okC (K:Nat) (b:B) (sz:Nat) (u:U) (h:okC u=true):okC (fz K b sz u)=true:=by
 cases u with
 | sl k off n c =>
  simp only [fz]
  cases Nat.beq k K with
  | false=>rfl
  | true =>
   simp only [cond_true]
   cases b with
   | row l e=>simp only; split<;>rfl
   | _=>rfl
 | vl k st off n =>
  simp only [fz]
  cases Nat.beq k K with
  | false=>rfl
  | true =>
   simp only [cond_true]
   cases b with
   | vec l e s st=>simp only; split<;>rfl
   | _=>rfl
 | ptr k st off =>
  simp only [fz]
  cases Nat.beq k K with
  | false=>rfl
  | true =>
   simp only [cond_true]
   cases b with
   | row l e=>simp only; split<;>rfl
   | _=>rfl
 | agg l=>simp [okC] at h
 | tup l=>simp [okC] at h
 | junk=>simp [okC] at h
 | _=>simp only [fz]; first | exact h | rfl
theorem fzL_ok (K:Nat) (b:B) (sz:Nat):∀ l:List U,okL l=true→okL (fzL K b sz l)=true
 | [],_=>rfl
 | u::l,h=>by
  simp only [okL] at h
  obtain ⟨h1,h2⟩:=q3u h
  simp [fzL,okL,fz_okC K b sz u h1,fzL_ok K b sz l h2]
theorem q97 (K:Nat) (b:B) (sz:Nat):∀ l:List U,(fzL K b sz l).length=l.length
 | []=>rfl
 | u::l=>by simp [fzL,q97 K b sz l]
section
variable {x y:Cx} {K:Nat} {b:B} {sz:Nat} (hg:gt x.σ.h K=some b) (hb:BOk x K b) (hmo:Mo x.σ.nx x y)
 (hrow:∀ i l e md,x.ρ K=some i→lk x.s.h i=some (.inl (l,e,md))→(md=0∧lk y.s.h i=some (.inl (l,0,1)))∨∃ s,md=s+2∧lk y.s.h i=some (.inl (l,s+1,1)))
include hg hb hmo hrow
mutual
theorem fz_rel:(u:U)→(v:Value)→Rel x u v→Rel y (fz K b sz u) v
 | .sl k off n c,v,h=>by
  have keep:=hmo.ke _ _ (Rel.bel _ _ h) h
  simp only [fz,beq_eq]
  by_cases hk:k=K
  ·subst hk
   simp only [decide_true,cond_true]
   cases b with
   | row l e =>
    simp only
    split
    ·rename_i hlen
     obtain ⟨i,hi,rfl,hc,hnc⟩:=q7d (x:=x) (by simp [live,hg,B.st]) h
     obtain ⟨k1,i',l',e1,e2,e3⟩:=hb
     rw [hi] at e1; cases e1
     have e4:RelP y l l':=(hmo.ke.E e3.bel e3).1
     rcases hrow i l' e 0 hi e2 with ⟨_,hl⟩ | ⟨s,hs,_⟩
     ·simp only [Rel,qac]
      refine .inr ⟨i,off,c,rfl,(fun ht=>by cases ht),?_⟩
      by_cases hn:n=0
      ·exact .inl (List.eq_nil_of_length_eq_zero (by rw [qac,hn]))
      ·exact .inr ⟨l',0,sz,hl,qad n (e4.drop off) (q4p k1 _) (by simp; omega),.inl ⟨hc,hnc⟩⟩
     ·omega
    ·exact keep
   | _=>exact keep
  ·simp only [hk,decide_false,cond_false]; exact keep
 | .vl k st off n,v,h=>by
  have keep:=hmo.ke _ _ (Rel.bel _ _ h) h
  simp only [fz,beq_eq]
  by_cases hk:k=K
  ·subst hk
   simp only [decide_true,cond_true]
   cases b with
   | vec l e sz' st' =>
    simp only
    split
    ·rename_i hlen
     obtain ⟨rfl,hlen⟩:=hlen
     obtain ⟨l0,e0,s0,g1,g2⟩:=q9a (x:=x) (by simp [live,hg,B.st]) h
     have:=hg.symm.trans g1
     cases this
     obtain ⟨k1,k2,h3⟩:=hb
     rcases h3 with ⟨rfl,h4⟩ | ⟨i,l',e1,e2,e3⟩
     ·rw [h4] at g2
      obtain ⟨rfl,rfl,o,rfl,ho⟩:=g2
      simp only [Rel,chunks]
      cases o with
      | none=>exact .inl ⟨trivial,.inl rfl⟩
      | some a=>exact .inr ⟨a.block,a.off,0,by obtain ⟨q1,q2,q3⟩:=a; have:=ho _ rfl; simp only at this; subst this; rfl,by simp,.inl trivial⟩
     ·rw [e1] at g2
      have e4:RelP y l l':=(hmo.ke.E e3.bel e3).1
      rcases hrow i l' e _ e1 e2 with ⟨h0,_⟩ | ⟨s,hs,hl⟩
      ·omega
      ·have:s=sz':=by omega
       subst this
       simp only [Rel,qac]
       rcases g2 with ⟨_,rfl,a,c,rfl,ha⟩ | rfl
       ·exact .inr ⟨a.block,a.off,c,by obtain ⟨q1,q2,q3⟩:=a; simp only at ha; subst ha; rfl,by simp,.inl rfl⟩
       ·refine .inr ⟨i,off*s,capBase+off,rfl,by simp,?_⟩
        rw [Nat.add_mul] at hlen
        exact .inr ⟨l',s+1,s,hl,qad n (e4.drop _) (q4p k1 _) (by simp; omega),.inr ⟨by omega,rfl,k2,by simp [capD],by rw [← e3.2]; exact hlen⟩⟩
    ·exact keep
   | _=>exact keep
  ·simp only [hk,decide_false,cond_false]; exact keep
 | .ptr k st off,v,h=>by
  have keep:=hmo.ke _ _ (Rel.bel _ _ h) h
  simp only [fz,beq_eq]
  by_cases hk:k=K
  ·subst hk
   simp only [decide_true,cond_true]
   cases b with
   | row l e =>
    simp only
    split
    ·rename_i hst
     subst hst
     obtain ⟨i,hi,rfl⟩:=q7s (x:=x) (by simp [live,hg,B.st]) h
     obtain ⟨k1,i',l',e1,e2,e3⟩:=hb
     rw [hi] at e1; cases e1
     have e4:RelP y l l':=(hmo.ke.E e3.bel e3).1
     rcases hrow i l' e 0 hi e2 with ⟨_,hl⟩ | ⟨s,hs,_⟩
     ·simp only [Rel]
      exact ⟨i,off,l',0,rfl,hl,e4.drop off,q4p k1 _⟩
     ·omega
    ·exact keep
   | _=>exact keep
  ·simp only [hk,decide_false,cond_false]; exact keep
 | .agg l,v,h=>by
  simp only [Rel,fz] at *
  obtain ⟨vs,rfl,h1,h2,h3⟩:=h
  exact ⟨vs,rfl,qag l vs h1,by rw [q97]; exact h2,fzL_ok K b sz l h3⟩
 | .tup l,v,h=>by
  simp only [Rel,fz] at *
  obtain ⟨vs,rfl,h1,h2⟩:=h
  exact ⟨vs,rfl,qag l vs h1,by rw [q97]; exact h2⟩
 | .fn f p q,v,h=>by
  simp only [Rel,fz] at *
  obtain ⟨va,vb,rfl,h1,h2,h3,h4⟩:=h
  exact ⟨va,vb,rfl,qag p va h1,by rw [q97]; exact h2,qag q vb h3,by rw [q97]; exact h4⟩
 | .junk,v,h=>by simp [fz,Rel]
 | .bool _,v,h=>by simpa [fz,Rel] using h
 | .int _ _,v,h=>by simpa [fz,Rel] using h
 | .str _,v,h=>by simpa [fz,Rel] using h
 | .nilp,v,h=>by simpa [fz,Rel] using h
 | .nils,v,h=>by simpa [fz,Rel] using h
 | .nilm,v,h=>by simpa [fz,Rel] using h
 | .nilf,v,h=>by simpa [fz,Rel] using h
 | .nili,v,h=>by simpa [fz,Rel] using h
 | .map k,v,h=>by simp only [fz]; exact hmo.ke _ _ (Rel.bel _ _ h) h
 | .iptr l,v,h=>by simp only [fz]; exact hmo.ke _ _ (Rel.bel _ _ h) h
 | .isl t l,v,h=>by simp only [fz]; exact hmo.ke _ _ (Rel.bel _ _ h) h
theorem qag:(l:List U)→(vs:List Value)→RelP x l vs→RelP y (fzL K b sz l) vs
 | [],vs,h=>by have _:=hg; have _:=hb; have _:=hmo; have _:=hrow; simp [fzL,RelP]
 | u::l,[],h=>by simp [RelP] at h
 | u::l,v::vs,h=>by simp only [RelP,fzL] at *; exact ⟨fz_rel u v h.1,qag l vs h.2⟩
end
end
theorem Gh.freeze {n0:Nat} {tm:List U} {σ:Sg} {K:Nat} {b:B} (sz:Nat) (hg:gt σ.h K=some b) (hb:∀ es cl,b ≠ .map es cl):Gh n0 tm σ (fzL K b sz tm) ⟨fzH K b sz σ.h,σ.nx⟩:=fun F x tv hx hr hf he=>by
 subst hx
 obtain ⟨hK,hB⟩:=hr.ok K b hg
 have hs:∃ s':S,(∀ m w,FitsS m x.s w→Adv m x.s w m s' w)∧(∀ i c,lk x.s.h i=some c→x.ρ K≠some i→lk s'.h i=some c)∧(∀ i c,lk s'.h i=some c→i<s'.nx) ∧
   (∀ i l e md,x.ρ K=some i→lk x.s.h i=some (.inl (l,e,md))→(md=0∧lk s'.h i=some (.inl (l,0,1)))∨∃ s,md=s+2∧lk s'.h i=some (.inl (l,s+1,1))):=by
  have act:∀ i l e md e1,x.ρ K=some i→lk x.s.h i=some (.inl (l,e,md))→(md=0∧e1=0∨∃ sz,md=sz+2∧e1=sz+1)→∃ s':S,(∀ m w,FitsS m x.s w→Adv m x.s w m s' w)∧(∀ i c,lk x.s.h i=some c→x.ρ K≠some i→lk s'.h i=some c)∧(∀ i c,lk s'.h i=some c→i<s'.nx) ∧
   (∀ i l e md,x.ρ K=some i→lk x.s.h i=some (.inl (l,e,md))→(md=0∧lk s'.h i=some (.inl (l,0,1)))∨∃ s,md=s+2∧lk s'.h i=some (.inl (l,s+1,1))):=by
   intro i l e md e1 hi hl hmd
   refine ⟨⟨up x.s.h i (.inl (l,e1,1)),x.s.nx⟩,fun m w hf=>Adv.freeze hf hl hmd,fun j c hc hne=>?_,fun j c hc=>?_,fun j l' e' md' hj hl'=>?_⟩
   ·have:i≠j:=fun h=>hne (by rw [hi,h])
    simp [qal,this,hc]
   ·simp only [qal] at hc
    split at hc
    ·rename_i h; subst h; exact hr.bd _ _ hl
    ·exact hr.bd j c hc
   ·rw [hi] at hj; cases hj
    rw [hl] at hl'; cases hl'
    rcases hmd with ⟨rfl,rfl⟩ | ⟨s,rfl,rfl⟩
    ·exact .inl ⟨rfl,by simp [qal,hl]⟩
    ·exact .inr ⟨s,rfl,by simp [qal,hl]⟩
  cases b with
  | map es cl=>exact absurd rfl (hb es cl)
  | row l e=>obtain ⟨_,i,l',e1,e2,_⟩:=hB; exact act i l' e 0 0 e1 e2 (.inl ⟨rfl,rfl⟩)
  | vec l e s st =>
   obtain ⟨_,_,h3⟩:=hB
   rcases h3 with ⟨_,h4⟩ | ⟨i,l',e1,e2,_⟩
   ·exact ⟨x.s,fun m w hf=>Adv.refl hf,fun i c hc _=>hc,hr.bd,fun i l e md hi=>by rw [h4] at hi; cases hi⟩
   ·exact act i l' e (s+2) (s+1) e1 e2 (.inr ⟨s,rfl,rfl⟩)
 obtain ⟨s',a1,a2,a3,a4⟩:=hs
 have sub:∀ {k c},gt (fzH K b sz x.σ.h) k=some c→k≠K∧∃ d,gt x.σ.h k=some d∧c=fzB K b sz d:=fun {k c} h=>by
  rw [gt_fzH] at h
  split at h
  ·cases h
  ·rename_i hk
   cases hd:gt x.σ.h k with
   | none=>simp [hd] at h
   | some d=>simp [hd] at h; exact ⟨hk,d,rfl,h.symm⟩
 have hmo:Mo x.σ.nx x ⟨x.ρ,⟨fzH K b sz x.σ.h,x.σ.nx⟩,s'⟩:=by
  refine ⟨fun k _ h2=>⟨h2,fun c hc=>?_⟩,fun i row e hl=>a2 i _ hl fun h=>hB.not1 h hl⟩
  obtain ⟨_,d,h1,rfl⟩:=sub hc
  refine ⟨d,h1,by rw [fzB_st]; exact Nat.le_refl _,fun _=>⟨rfl,fun l e s st h=>?_⟩⟩
  subst h; exact ⟨_,rfl⟩
 have hfz:=fun u v h=>fz_rel (y:=⟨x.ρ,⟨fzH K b sz x.σ.h,x.σ.nx⟩,s'⟩) (sz:=sz) hg hB hmo a4 u v h
 have hfzE:∀ {l:List U} {vs:List Value},RelE x l vs→RelE ⟨x.ρ,⟨fzH K b sz x.σ.h,x.σ.nx⟩,s'⟩ (fzL K b sz l) vs:=fun {l vs} h=>⟨qag hg hB hmo a4 l vs h.1,by rw [q97]; exact h.2⟩
 refine ⟨⟨x.ρ,⟨fzH K b sz x.σ.h,x.σ.nx⟩,s'⟩,a1,rfl,⟨fun k c hc=>?_,fun k k' c c' i h1 h2=>?_,a3⟩,fun i c hc=>?_,hfzE he,fun u v _ h=>hmo.ke u v (Rel.bel _ _ h) h⟩
 ·obtain ⟨hk,d,h1,rfl⟩:=sub hc
  obtain ⟨h2,h3⟩:=hr.ok k d h1
  refine ⟨h2,?_⟩
  have hne:∀ i,x.ρ k=some i→x.ρ K≠some i:=fun i h h'=>hk (hr.inj k K d b i h1 hg h h')
  cases d with
  | row l e=>obtain ⟨k1,i,l',e1,e2,e3⟩:=h3; exact ⟨fzL_ok _ _ _ _ k1,i,l',e1,a2 i _ e2 (hne i e1),hfzE e3⟩
  | vec l e s st =>
   obtain ⟨k1,k2,h3⟩:=h3
   refine ⟨fzL_ok _ _ _ _ k1,k2,?_⟩
   rcases h3 with ⟨rfl,h4⟩ | ⟨i,l',e1,e2,e3⟩
   ·exact .inl ⟨rfl,h4⟩
   ·exact .inr ⟨i,l',e1,a2 i _ e2 (hne i e1),hfzE e3⟩
  | map es cl =>
   obtain ⟨i,es',e1,e2,e3⟩:=h3
   refine ⟨i,es',e1,a2 i _ e2 (hne i e1),by simp [e3.1],fun j e he=>?_⟩
   rw [List.getElem?_map] at he
   cases hj:es[j]? with
   | none=>simp [hj] at he
   | some e0 =>
    simp [hj] at he
    subst he
    obtain ⟨v,q1,q2,q3,q4⟩:=e3.2 j e0 hj
    exact ⟨v,q1,hmo.ke _ _ (Rel.bel _ _ q2) q2,hfz _ _ q3,q4⟩
 ·obtain ⟨_,d,g1,_⟩:=sub h1
  obtain ⟨_,d',g2,_⟩:=sub h2
  exact hr.inj k k' d d' i g1 g2
 ·obtain ⟨h1,h2⟩:=hf i c hc
  refine ⟨a2 i c h1 (h2 K b hg),fun k d hd=>?_⟩
  obtain ⟨_,d',g1,_⟩:=sub hd
  exact h2 k d' g1
end Go.Vx
end
