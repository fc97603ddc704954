import Derived.Test.YtmflfedkfdkipaaGreatRows
import Derived.WalkKit
import Derived.ProofKit
import Derived.OpenShut
import Derived.Test.YtmflfedkfdkipaaGreatP20
namespace Go.Proofs.YtmflfedkfdkipaaGreat.quasiLaws
open Go.ChangeShapes Go.WideShapes Go.ChangeAt Go.RowKit
set_option linter.unusedVariables false
set_option linter.unusedSimpArgs false
set_option maxRecDepth 20000

theorem own:ownKnob Tryz.prog.godebug=none:=by kernel_rfl
theorem laid:laidOutB Tryz.prog=true:=by kernel_rfl
theorem Qf:Tryz.prog.underlying 22=some (.slice 153):=by kernel_rfl
theorem ce22:Tryz.prog.cellsOf 22=1:=by kernel_rfl
theorem Qh : Tryz.prog.underlying 153 = some (.struct #[⟨ "Name", 9, 0, false, "", "", 0⟩, ⟨ "Supers", 150, 1, false, "", "", 16⟩, ⟨ "Feats", 151, 2, false, "", "", 40⟩]) := by kernel_rfl
theorem Wl:Tryz.prog.cellsOf 153=3:=by kernel_rfl
theorem pu9:Tryz.prog.underlying 9=some (.string):=by kernel_rfl
theorem ce9:Tryz.prog.cellsOf 9=1:=by kernel_rfl
theorem Qj:Tryz.prog.underlying 150=some (.slice 9):=by kernel_rfl
theorem Wn:Tryz.prog.cellsOf 150=1:=by kernel_rfl
theorem Qi:Tryz.prog.underlying 151=some (.slice 156):=by kernel_rfl
theorem Wm:Tryz.prog.cellsOf 151=1:=by kernel_rfl
theorem Qg : Tryz.prog.underlying 156 = some (.struct #[⟨ "Feat", 9, 0, false, "", "", 0⟩, ⟨ "Value", 9, 1, false, "", "", 16⟩]) := by kernel_rfl
theorem Wj:Tryz.prog.cellsOf 156=2:=by kernel_rfl
theorem Qe:Tryz.prog.underlying 56=some (.array 3 39):=by kernel_rfl
theorem ce56:Tryz.prog.cellsOf 56=3:=by kernel_rfl
theorem re : Tryz.prog.underlying 39 = some (.struct #[⟨ "Nodes", 37, 0, false, "", "", 0⟩]) := by kernel_rfl
theorem Wi:Tryz.prog.cellsOf 39=1:=by kernel_rfl
theorem rf:Tryz.prog.underlying 37=some (.slice 79):=by kernel_rfl
theorem ce37:Tryz.prog.cellsOf 37=1:=by kernel_rfl
theorem oq : Tryz.prog.underlying 79 = some (.struct #[⟨ "Type", 3, 0, false, "", "", 0⟩, ⟨ "Arcs", 77, 1, false, "", "", 8⟩]) := by kernel_rfl
theorem ce79:Tryz.prog.cellsOf 79=2:=by kernel_rfl
theorem pu3:Tryz.prog.underlying 3=some (.int .i64):=by kernel_rfl
theorem ce3:Tryz.prog.cellsOf 3=1:=by kernel_rfl
theorem ow:Tryz.prog.underlying 77=some (.slice 105):=by kernel_rfl
theorem ce77:Tryz.prog.cellsOf 77=1:=by kernel_rfl
theorem Qk : Tryz.prog.underlying 105 = some (.struct #[⟨ "Feat", 3, 0, false, "", "", 0⟩, ⟨ "To", 3, 1, false, "", "", 8⟩]) := by kernel_rfl
theorem Wo:Tryz.prog.cellsOf 105=2:=by kernel_rfl
theorem closed:Vx.closedTS Tryz.prog [22, 153, 9, 150, 151, 156, 56, 39, 37, 79, 3, 77, 105]=true:=by kernel_rfl
theorem vf{n:Nat}{us:Z Vx.U}(h:Vx.OfTy Tryz.prog n 9 us): ∃s,us=[.str s]:=by cases n with|zero=> exact h.elim|succ n=> simp only[Vx.OfTy,pu9]at h;obtain⟨i,rfl,_⟩:=h;exact⟨i,rfl⟩
theorem IC{n:Nat}: ∀{l:Z (Z Vx.U)},(∀c∈l,Vx.OfTy Tryz.prog n 9 c)->∃ks:Z (Z O8),l=ks.map Vx.cS
  |[],_=> ⟨[],rfl⟩|c::l,h=> by obtain⟨d,rfl⟩:=vf (h c (by simp));obtain⟨ks,rfl⟩:=IC (l:=l) fun x hx=> h x (by simp[hx]);exact⟨d::ks,rfl⟩
theorem Qv{n:Nat}{us:Z Vx.U}(h:Vx.OfTy Tryz.prog n 150 us): ∃x:Z (Z O8),us=[.isl false (x.map Vx.cS)]/\(x.length<=9223372036854775807):=by cases n with|zero=> exact h.elim|succ n=>simp only[Vx.OfTy,Qj]at h;obtain⟨l,hl,aN,cC⟩:=h;subst hl;obtain⟨ks,rfl⟩:=IC cC;exact⟨ks,rfl,by simpa[maxLen]using aN⟩
theorem Qs{n:Nat}{us:Z Vx.U}(h:Vx.OfTy Tryz.prog n 156 us): ∃x:nK,us=k9 x:=by
  cases n with
  |zero=> exact h.elim|succ n=>
    simp only[Vx.OfTy,Qg,Wj]at h;obtain⟨hl,hf⟩:=h
    match us,hl with
    |[u0,u1],_=>simp only[zI,List.not_mem_nil,or_false,forall_eq_or_imp,forall_eq,ce9,List.drop,List.take]at hf;obtain⟨h0,h1⟩:=hf;obtain⟨a0,e0⟩:=vf h0;simp only[List.cons.injEq,and_true]at e0;subst e0;obtain⟨a1,e1⟩:=vf h1;simp only[List.cons.injEq,and_true]at e1;subst e1;exact⟨⟨a0,a1⟩,rfl⟩
theorem IB{n:Nat}: ∀{l:Z (Z Vx.U)},(∀c∈l,Vx.OfTy Tryz.prog n 156 c)->∃ks:Z nK,l=ks.map k9
  |[],_=> ⟨[],rfl⟩|c::l,h=> by obtain⟨d,rfl⟩:=Qs (h c (by simp));obtain⟨ks,rfl⟩:=IB (l:=l) fun x hx=> h x (by simp[hx]);exact⟨d::ks,rfl⟩
theorem Qu{n:Nat}{us:Z Vx.U}(h:Vx.OfTy Tryz.prog n 151 us): ∃x:Z nK,us=[.isl false (x.map k9)]/\(x.length<=9223372036854775807):=by cases n with|zero=> exact h.elim|succ n=>simp only[Vx.OfTy,Qi]at h;obtain⟨l,hl,aN,cC⟩:=h;subst hl;obtain⟨ks,rfl⟩:=IB cC;exact⟨ks,rfl,by simpa[maxLen]using aN⟩
theorem Qt{n:Nat}{us:Z Vx.U}(h:Vx.OfTy Tryz.prog n 153 us): ∃x:bC,us=bJ x/\((x.Supers.length<=9223372036854775807)/\(x.Feats.length<=9223372036854775807)):=by
  cases n with
  |zero=> exact h.elim|succ n=>
    simp only[Vx.OfTy,Qh,Wl]at h;obtain⟨hl,hf⟩:=h
    match us,hl with
    |[u0,u1,u2],_=>simp only[zI,List.not_mem_nil,or_false,forall_eq_or_imp,forall_eq,Wn,Wm,ce9,List.drop,List.take]at hf;obtain⟨h0,h1,h2⟩:=hf;obtain⟨a0,e0⟩:=vf h0;simp only[List.cons.injEq,and_true]at e0;subst e0;obtain⟨a1,e1,k1⟩:=Qv h1;simp only[List.cons.injEq,and_true]at e1;subst e1;obtain⟨a2,e2,k2⟩:=Qu h2;simp only[List.cons.injEq,and_true]at e2;subst e2;exact⟨⟨a0,a1,a2⟩,rfl,⟨k1,k2⟩⟩
theorem TN{n:Nat}: ∀{l:Z (Z Vx.U)},(∀c∈l,Vx.OfTy Tryz.prog n 153 c)->∃ks:Z bC,l=ks.map bJ/\∀q∈ks,(q.Supers.length<=9223372036854775807)/\(q.Feats.length<=9223372036854775807)
  |[],_=> ⟨[],rfl,by simp⟩|c::l,h=> by obtain⟨d,rfl,hk⟩:=Qt (h c (by simp));obtain⟨ks,rfl,tR⟩:=TN (l:=l) fun x hx=> h x (by simp[hx]);exact⟨d::ks,rfl,by intro q hq;rcases zI.1 hq with rfl |hq;exact hk;exact tR q hq⟩
theorem a_{n:Nat}{us:Z Vx.U}(h:Vx.OfTy Tryz.prog n 22 us): ∃x:Z bC,us=[.isl false (x.map bJ)]/\(x.length<=9223372036854775807/\∀q∈x,(q.Supers.length<=9223372036854775807)/\(q.Feats.length<=9223372036854775807)):=by cases n with|zero=> exact h.elim|succ n=>simp only[Vx.OfTy,Qf]at h;obtain⟨l,hl,aN,cC⟩:=h;subst hl;obtain⟨ks,rfl,tR⟩:=TN cC;exact⟨ks,rfl,by simpa[maxLen]using aN,tR⟩
theorem rz{n:Nat}{us:Z Vx.U}(h:Vx.OfTy Tryz.prog n 3 us): ∃i,us=[.int .i64 i]:=by cases n with|zero=> exact h.elim|succ n=> simp only[Vx.OfTy,pu3]at h;obtain⟨i,rfl,_⟩:=h;exact⟨i,rfl⟩
theorem Qw{n:Nat}{us:Z Vx.U}(h:Vx.OfTy Tryz.prog n 105 us): ∃x:aT,us=dA x:=by
  cases n with
  |zero=> exact h.elim|succ n=>
    simp only[Vx.OfTy,Qk,Wo]at h;obtain⟨hl,hf⟩:=h
    match us,hl with
    |[u0,u1],_=>simp only[zI,List.not_mem_nil,or_false,forall_eq_or_imp,forall_eq,ce3,List.drop,List.take]at hf;obtain⟨h0,h1⟩:=hf;obtain⟨a0,e0⟩:=rz h0;simp only[List.cons.injEq,and_true]at e0;subst e0;obtain⟨a1,e1⟩:=rz h1;simp only[List.cons.injEq,and_true]at e1;subst e1;exact⟨⟨a0,a1⟩,rfl⟩
theorem TL{n:Nat}: ∀{l:Z (Z Vx.U)},(∀c∈l,Vx.OfTy Tryz.prog n 105 c)->∃ks:Z aT,l=ks.map dA
  |[],_=> ⟨[],rfl⟩|c::l,h=> by obtain⟨d,rfl⟩:=Qw (h c (by simp));obtain⟨ks,rfl⟩:=TL (l:=l) fun x hx=> h x (by simp[hx]);exact⟨d::ks,rfl⟩
theorem rn{n:Nat}{us:Z Vx.U}(h:Vx.OfTy Tryz.prog n 77 us): ∃x:Z aT,us=[.isl false (x.map dA)]/\(x.length<=9223372036854775807):=by cases n with|zero=> exact h.elim|succ n=>simp only[Vx.OfTy,ow]at h;obtain⟨l,hl,aN,cC⟩:=h;subst hl;obtain⟨ks,rfl⟩:=TL cC;exact⟨ks,rfl,by simpa[maxLen]using aN⟩
theorem rk{n:Nat}{us:Z Vx.U}(h:Vx.OfTy Tryz.prog n 79 us): ∃x:aU,us=bD x/\((x.Arcs.length<=9223372036854775807)):=by
  cases n with
  |zero=> exact h.elim|succ n=>
    simp only[Vx.OfTy,oq,ce79]at h;obtain⟨hl,hf⟩:=h
    match us,hl with
    |[u0,u1],_=>simp only[zI,List.not_mem_nil,or_false,forall_eq_or_imp,forall_eq,ce3,ce77,List.drop,List.take]at hf;obtain⟨h0,h1⟩:=hf;obtain⟨a0,e0⟩:=rz h0;simp only[List.cons.injEq,and_true]at e0;subst e0;obtain⟨a1,e1,k1⟩:=rn h1;simp only[List.cons.injEq,and_true]at e1;subst e1;exact⟨⟨a0,a1⟩,rfl,k1⟩
theorem TM{n:Nat}: ∀{l:Z (Z Vx.U)},(∀c∈l,Vx.OfTy Tryz.prog n 79 c)->∃ks:Z aU,l=ks.map bD/\∀q∈ks,(q.Arcs.length<=9223372036854775807)
  |[],_=> ⟨[],rfl,by simp⟩|c::l,h=> by obtain⟨d,rfl,hk⟩:=rk (h c (by simp));obtain⟨ks,rfl,tR⟩:=TM (l:=l) fun x hx=> h x (by simp[hx]);exact⟨d::ks,rfl,by intro q hq;rcases zI.1 hq with rfl |hq;exact hk;exact tR q hq⟩
theorem ru{n:Nat}{us:Z Vx.U}(h:Vx.OfTy Tryz.prog n 37 us): ∃x:Z aU,us=[.isl false (x.map bD)]/\(x.length<=9223372036854775807/\∀q∈x,(q.Arcs.length<=9223372036854775807)):=by cases n with|zero=> exact h.elim|succ n=>simp only[Vx.OfTy,rf]at h;obtain⟨l,hl,aN,cC⟩:=h;subst hl;obtain⟨ks,rfl,tR⟩:=TM cC;exact⟨ks,rfl,by simpa[maxLen]using aN,tR⟩
theorem Y6{n:Nat}{us:Z Vx.U}(h:Vx.OfTy Tryz.prog n 39 us): ∃x:GFS,us=kH x/\((x.Nodes.length<=9223372036854775807/\∀q∈x.Nodes,(q.Arcs.length<=9223372036854775807))):=by
  cases n with
  |zero=> exact h.elim|succ n=>
    simp only[Vx.OfTy,re,Wi]at h;obtain⟨hl,hf⟩:=h
    match us,hl with
    |[u0],_=>simp only[zI,List.not_mem_nil,or_false,forall_eq_or_imp,forall_eq,ce37,List.drop,List.take]at hf;have h0:=hf;obtain⟨a0,e0,k0⟩:=ru h0;simp only[List.cons.injEq,and_true]at e0;subst e0;exact⟨⟨a0⟩,rfl,k0⟩
theorem rq{n:Nat}{us:Z Vx.U}(h:Vx.OfTy Tryz.prog n 56 us): ∃x:DH,us=uq x/\(((x.E0.Nodes.length<=9223372036854775807/\∀q∈x.E0.Nodes,(q.Arcs.length<=9223372036854775807)))/\((x.E1.Nodes.length<=9223372036854775807/\∀q∈x.E1.Nodes,(q.Arcs.length<=9223372036854775807)))/\((x.E2.Nodes.length<=9223372036854775807/\∀q∈x.E2.Nodes,(q.Arcs.length<=9223372036854775807)))):=by
  cases n with
  |zero=> exact h.elim|succ n=>
    simp only[Vx.OfTy,Qe,ce56]at h;obtain⟨hl,hf⟩:=h
    match us,hl with
    |[u0,u1,u2],_=>simp only[zI,List.not_mem_nil,or_false,forall_eq_or_imp,forall_eq,Wi,List.drop,List.take]at hf;have h0:=hf 0 (by omega);have h1:=hf 1 (by omega);have h2:=hf 2 (by omega);simp only[Nat.zero_mul,Nat.one_mul,Nat.mul_one,List.drop,List.take]at h0 h1 h2;obtain⟨a0,e0,k0⟩:=Y6 h0;simp only[kH,List.cons.injEq,and_true]at e0;obtain⟨rfl⟩:=e0;obtain⟨a1,e1,k1⟩:=Y6 h1;simp only[kH,List.cons.injEq,and_true]at e1;obtain⟨rfl⟩:=e1;obtain⟨a2,e2,k2⟩:=Y6 h2;simp only[kH,List.cons.injEq,and_true]at e2;obtain⟨rfl⟩:=e2;exact⟨⟨a0,a1,a2⟩,rfl,⟨k0,k1,k2⟩⟩
theorem Wy{u:Vx.U}(h:Vx.OfArg Tryz.prog 22 u): ∃x:Z bC,u=.isl false (x.map bJ)/\(x.length<=9223372036854775807/\∀q∈x,(q.Supers.length<=9223372036854775807)/\(q.Feats.length<=9223372036854775807)):=by obtain⟨n,us,h1,h2⟩:=h;simp only[Qf]at h2;obtain⟨x,rfl,hk⟩:=a_ h1;exact⟨x,by first |exact h2 |simpa using h2 |simpa using h2.symm,hk⟩
theorem Wx{u:Vx.U}(h:Vx.OfArg Tryz.prog 56 u): ∃x:DH,u=.agg (uq x)/\(((x.E0.Nodes.length<=9223372036854775807/\∀q∈x.E0.Nodes,(q.Arcs.length<=9223372036854775807)))/\((x.E1.Nodes.length<=9223372036854775807/\∀q∈x.E1.Nodes,(q.Arcs.length<=9223372036854775807)))/\((x.E2.Nodes.length<=9223372036854775807/\∀q∈x.E2.Nodes,(q.Arcs.length<=9223372036854775807)))):=by obtain⟨n,us,h1,h2⟩:=h;simp only[Qe]at h2;subst h2;obtain⟨x,rfl,hk⟩:=rq h1;exact⟨x,rfl,hk⟩
set_option maxRecDepth 100000 in
theorem lifted (os : Os) (started : os.Started) (H : Type) (enc : O × A -> H) :
    ReturnsInHanded {} Tryz.checked os 6 .any (Rows.quasiLawsSpec.pre6 enc Tryz.prog Tryz.f6 Rows.quasiLawsRow.domain false) (Rows.quasiLawsSpec.post enc Tryz.prog Tryz.f6 false true false false):=by
  refine returnsInHanded_of_change (C:=Tryz.checked) own started (by kernel_rfl) Tryz.func6
    (ChangeSpec.witness6 (enc:=enc) (C:=Tryz.checked) false ⟨#[], #[.slice none 0 0, .agg #[.slice none 0 0, .slice none 0 0, .slice none 0 0]],[]⟩ 6 (by kernel_rfl) (by kernel_rfl) (by kernel_rfl) (by kernel_rfl)) ?_
  intro W base args ds gs before S5 hW hcnd _;have dW : ∀(j:Nat) t v,Tryz.f6.params[j]? = some t->args[j]? = some v->Value.okWide Tryz.prog W .any base t v:=S5;have Uq:=hW;obtain⟨p,q,hA0,hV,rfl,hfz,mZ⟩:=hW;have hA:DataW.TrodAll enc Tryz.prog W 0 (fun _=> true) true Tryz.f6.params.toList args.toList ds p:=hA0;rw[Tryz.params6]at hA dW;obtain⟨us,k1,k2,k3⟩:=Vx.args_rep closed (by decide) (fun j t v h1 h2=> dW j t v (by simpa using h1) (by simpa using h2)) hA;obtain⟨v0,Iu,d0,Ii,p0,q0,N?,rfl,rfl,h0,r0⟩:=trodAll_cons hA;obtain⟨v1,sn,d1,ID,p1,q1,M?,rfl,rfl,h1,r1⟩:=trodAll_cons r0;obtain⟨rfl,rfl,rfl⟩:=trodAll_nil r1;obtain⟨rfl,rfl⟩:=trodVars_none hV;simp only[Vx.OfArgs]at k3;obtain⟨u0,Dd,rfl,m0,u1,us1,rfl,m1,rfl⟩:=k3;obtain⟨X0,rfl,H0⟩:=Wy m0;obtain⟨X1,rfl,H1⟩:=Wx m1;clear hA0 S5;refine(Vx.law_calls ((qhv _ X0 X1 true (z31 X0 X1 (zF _))).mono fun u s h=> h.1) k1 k2).mono fun e W' ⟨he,hg⟩=> ?_;subst he;exact⟨_,rfl,Rx.law_post Uq laid (by kernel_rfl) hg rfl rfl Tryz.underlying4 rfl rfl rfl⟩
theorem over:Rows.quasiLawsRow.holds Tryz.pinned (OpenSpec.ofChange Rows.quasiLawsSpec):=
  OpenClaim.holds_of_wide 6 Tryz.f6 rfl rfl rfl rfl rfl rfl rfl ⟨rfl,rfl,rfl,rfl,rfl⟩ rfl rfl rfl rfl rfl (by kernel_rfl) Tryz.func6 (by kernel_rfl)
    (of_decide_eq_true (by kernel_rfl)) (by unfold Func.isWrapper;first |(rw[if_pos (by decide+kernel)];kernel_rfl)|(rw[if_neg (by decide+kernel)];exact⟨rfl,rfl⟩))
    (fun os started H enc _=> lifted os started H enc)
theorem proved:Rows.QuasiLawsSaid :=
  over
#print axioms proved
end Go.Proofs.YtmflfedkfdkipaaGreat.quasiLaws
