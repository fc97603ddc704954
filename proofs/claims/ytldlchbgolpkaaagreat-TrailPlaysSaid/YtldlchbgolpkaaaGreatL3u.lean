import Derived.Test.YtldlchbgolpkaaaGreatRows
import Derived.WalkKit
import Derived.ProofKit
import Derived.OpenShut
import Derived.Test.YtldlchbgolpkaaaGreatP20
namespace Go.Proofs.YtldlchbgolpkaaaGreat.trailPlays
open Go.ChangeShapes Go.WideShapes Go.ChangeAt Go.RowKit
set_option linter.unusedVariables false
set_option linter.unusedSimpArgs false
set_option maxRecDepth 20000

theorem own:ownKnob Tryz.prog.godebug=none:=by kernel_rfl
theorem laid:laidOutB Tryz.prog=true:=by kernel_rfl
theorem Eq:Tryz.prog.underlying 22=some (.slice 138):=by kernel_rfl
theorem ce22:Tryz.prog.cellsOf 22=1:=by kernel_rfl
theorem Es : Tryz.prog.underlying 138 = some (.struct #[⟨ "Name", 9, 0, false, "", "", 0⟩, ⟨ "Supers", 135, 1, false, "", "", 16⟩, ⟨ "Feats", 136, 2, false, "", "", 40⟩]) := by kernel_rfl
theorem Jf:Tryz.prog.cellsOf 138=3:=by kernel_rfl
theorem pu9:Tryz.prog.underlying 9=some (.string):=by kernel_rfl
theorem ce9:Tryz.prog.cellsOf 9=1:=by kernel_rfl
theorem Eu:Tryz.prog.underlying 135=some (.slice 9):=by kernel_rfl
theorem Jh:Tryz.prog.cellsOf 135=1:=by kernel_rfl
theorem Et:Tryz.prog.underlying 136=some (.slice 141):=by kernel_rfl
theorem Jg:Tryz.prog.cellsOf 136=1:=by kernel_rfl
theorem Er : Tryz.prog.underlying 141 = some (.struct #[⟨ "Feat", 9, 0, false, "", "", 0⟩, ⟨ "Value", 9, 1, false, "", "", 16⟩]) := by kernel_rfl
theorem Je:Tryz.prog.cellsOf 141=2:=by kernel_rfl
theorem Ep:Tryz.prog.underlying 23=some (.slice 42):=by kernel_rfl
theorem ce23:Tryz.prog.cellsOf 23=1:=by kernel_rfl
theorem Zx : Tryz.prog.underlying 42 = some (.struct #[⟨ "Kind", 3, 0, false, "", "", 0⟩, ⟨ "A", 3, 1, false, "", "", 8⟩, ⟨ "B", 3, 2, false, "", "", 16⟩, ⟨ "F", 40, 3, false, "", "", 24⟩]) := by kernel_rfl
theorem xk:Tryz.prog.cellsOf 42=4:=by kernel_rfl
theorem pu3:Tryz.prog.underlying 3=some (.int .i64):=by kernel_rfl
theorem xm:Tryz.prog.cellsOf 3=1:=by kernel_rfl
theorem Zy : Tryz.prog.underlying 40 = some (.struct #[⟨ "Nodes", 33, 0, false, "", "", 0⟩]) := by kernel_rfl
theorem Jd:Tryz.prog.cellsOf 40=1:=by kernel_rfl
theorem Zz:Tryz.prog.underlying 33=some (.slice 78):=by kernel_rfl
theorem xl:Tryz.prog.cellsOf 33=1:=by kernel_rfl
theorem Zv : Tryz.prog.underlying 78 = some (.struct #[⟨ "Type", 3, 0, false, "", "", 0⟩, ⟨ "Arcs", 76, 1, false, "", "", 8⟩]) := by kernel_rfl
theorem xi:Tryz.prog.cellsOf 78=2:=by kernel_rfl
theorem Zw:Tryz.prog.underlying 76=some (.slice 98):=by kernel_rfl
theorem xj:Tryz.prog.cellsOf 76=1:=by kernel_rfl
theorem Zu : Tryz.prog.underlying 98 = some (.struct #[⟨ "Feat", 3, 0, false, "", "", 0⟩, ⟨ "To", 3, 1, false, "", "", 8⟩]) := by kernel_rfl
theorem xh:Tryz.prog.cellsOf 98=2:=by kernel_rfl
theorem closed:Vx.closedTS Tryz.prog [22, 138, 9, 135, 136, 141, 23, 42, 3, 40, 33, 78, 76, 98]=true:=by kernel_rfl
theorem Sp{n:Nat}{us:List Vx.U}(h:Vx.OfTy Tryz.prog n 9 us): ∃s,us=[.str s]:=by
  cases n with|zero=> exact h.elim|succ n=> simp only[Vx.OfTy,pu9]at h;obtain⟨i,rfl,_⟩:=h;exact⟨i,rfl⟩
theorem DF{n:Nat}: ∀{l:List (List Vx.U)},(∀c∈l,Vx.OfTy Tryz.prog n 9 c)->∃ks:List (List UInt8),l=ks.map Vx.cS
  |[],_=> ⟨[],rfl⟩|c::l,h=> by obtain⟨d,rfl⟩:=Sp (h c (by simp));obtain⟨ks,rfl⟩:=DF (l:=l) fun x hx=> h x (by simp[hx]);exact⟨d::ks,rfl⟩
theorem Fc{n:Nat}{us:List Vx.U}(h:Vx.OfTy Tryz.prog n 135 us): ∃x:List (List UInt8),us=[.isl false (x.map Vx.cS)]/\(x.length<=9223372036854775807):=by
  cases n with|zero=> exact h.elim|succ n=>simp only[Vx.OfTy,Eu]at h;obtain⟨l,hl,hlen,hall⟩:=h;subst hl;obtain⟨ks,rfl⟩:=DF hall;exact⟨ks,rfl,by simpa[maxLen]using hlen⟩
theorem Ez{n:Nat}{us:List Vx.U}(h:Vx.OfTy Tryz.prog n 141 us): ∃x:lY,us=iY x:=by
  cases n with
  |zero=> exact h.elim|succ n=>
    simp only[Vx.OfTy,Er,Je]at h;obtain⟨hl,hf⟩:=h
    match us,hl with
    |[u0,u1],_=>simp only[zI,List.not_mem_nil,or_false,forall_eq_or_imp,forall_eq,ce9,List.drop,List.take]at hf;obtain⟨h0,h1⟩:=hf;obtain⟨a0,e0⟩:=Sp h0;simp only[List.cons.injEq,and_true]at e0;subst e0;obtain⟨a1,e1⟩:=Sp h1;simp only[List.cons.injEq,and_true]at e1;subst e1;exact⟨⟨a0,a1⟩,rfl⟩
theorem DE{n:Nat}: ∀{l:List (List Vx.U)},(∀c∈l,Vx.OfTy Tryz.prog n 141 c)->∃ks:List lY,l=ks.map iY
  |[],_=> ⟨[],rfl⟩|c::l,h=> by obtain⟨d,rfl⟩:=Ez (h c (by simp));obtain⟨ks,rfl⟩:=DE (l:=l) fun x hx=> h x (by simp[hx]);exact⟨d::ks,rfl⟩
theorem Fb{n:Nat}{us:List Vx.U}(h:Vx.OfTy Tryz.prog n 136 us): ∃x:List lY,us=[.isl false (x.map iY)]/\(x.length<=9223372036854775807):=by
  cases n with|zero=> exact h.elim|succ n=>simp only[Vx.OfTy,Et]at h;obtain⟨l,hl,hlen,hall⟩:=h;subst hl;obtain⟨ks,rfl⟩:=DE hall;exact⟨ks,rfl,by simpa[maxLen]using hlen⟩
theorem Fa{n:Nat}{us:List Vx.U}(h:Vx.OfTy Tryz.prog n 138 us): ∃x:bA,us=bF x/\((x.Supers.length<=9223372036854775807)/\(x.Feats.length<=9223372036854775807)):=by
  cases n with
  |zero=> exact h.elim|succ n=>
    simp only[Vx.OfTy,Es,Jf]at h;obtain⟨hl,hf⟩:=h
    match us,hl with
    |[u0,u1,u2],_=>simp only[zI,List.not_mem_nil,or_false,forall_eq_or_imp,forall_eq,Jh,Jg,ce9,List.drop,List.take]at hf;obtain⟨h0,h1,h2⟩:=hf;obtain⟨a0,e0⟩:=Sp h0;simp only[List.cons.injEq,and_true]at e0;subst e0;obtain⟨a1,e1,k1⟩:=Fc h1;simp only[List.cons.injEq,and_true]at e1;subst e1;obtain⟨a2,e2,k2⟩:=Fb h2;simp only[List.cons.injEq,and_true]at e2;subst e2;exact⟨⟨a0,a1,a2⟩,rfl,⟨k1,k2⟩⟩
theorem MR{n:Nat}: ∀{l:List (List Vx.U)},(∀c∈l,Vx.OfTy Tryz.prog n 138 c)->∃ks:List bA,l=ks.map bF/\∀q∈ks,(q.Supers.length<=9223372036854775807)/\(q.Feats.length<=9223372036854775807)
  |[],_=> ⟨[],rfl,by simp⟩|c::l,h=> by obtain⟨d,rfl,hk⟩:=Fa (h c (by simp));obtain⟨ks,rfl,hks⟩:=MR (l:=l) fun x hx=> h x (by simp[hx]);exact⟨d::ks,rfl,by intro q hq;rcases zI.1 hq with rfl |hq;exact hk;exact hks q hq⟩
theorem qj{n:Nat}{us:List Vx.U}(h:Vx.OfTy Tryz.prog n 22 us): ∃x:List bA,us=[.isl false (x.map bF)]/\(x.length<=9223372036854775807/\∀q∈x,(q.Supers.length<=9223372036854775807)/\(q.Feats.length<=9223372036854775807)):=by
  cases n with|zero=> exact h.elim|succ n=>simp only[Vx.OfTy,Eq]at h;obtain⟨l,hl,hlen,hall⟩:=h;subst hl;obtain⟨ks,rfl,hks⟩:=MR hall;exact⟨ks,rfl,by simpa[maxLen]using hlen,hks⟩
theorem X8{n:Nat}{us:List Vx.U}(h:Vx.OfTy Tryz.prog n 3 us): ∃i,us=[.int .i64 i]:=by
  cases n with|zero=> exact h.elim|succ n=> simp only[Vx.OfTy,pu3]at h;obtain⟨i,rfl,_⟩:=h;exact⟨i,rfl⟩
theorem qb{n:Nat}{us:List Vx.U}(h:Vx.OfTy Tryz.prog n 98 us): ∃x:aF,us=aN x:=by
  cases n with
  |zero=> exact h.elim|succ n=>
    simp only[Vx.OfTy,Zu,xh]at h;obtain⟨hl,hf⟩:=h
    match us,hl with
    |[u0,u1],_=>simp only[zI,List.not_mem_nil,or_false,forall_eq_or_imp,forall_eq,xm,List.drop,List.take]at hf;obtain⟨h0,h1⟩:=hf;obtain⟨a0,e0⟩:=X8 h0;simp only[List.cons.injEq,and_true]at e0;subst e0;obtain⟨a1,e1⟩:=X8 h1;simp only[List.cons.injEq,and_true]at e1;subst e1;exact⟨⟨a0,a1⟩,rfl⟩
theorem MO{n:Nat}: ∀{l:List (List Vx.U)},(∀c∈l,Vx.OfTy Tryz.prog n 98 c)->∃ks:List aF,l=ks.map aN
  |[],_=> ⟨[],rfl⟩|c::l,h=> by obtain⟨d,rfl⟩:=qb (h c (by simp));obtain⟨ks,rfl⟩:=MO (l:=l) fun x hx=> h x (by simp[hx]);exact⟨d::ks,rfl⟩
theorem qd{n:Nat}{us:List Vx.U}(h:Vx.OfTy Tryz.prog n 76 us): ∃x:List aF,us=[.isl false (x.map aN)]/\(x.length<=9223372036854775807):=by
  cases n with|zero=> exact h.elim|succ n=>simp only[Vx.OfTy,Zw]at h;obtain⟨l,hl,hlen,hall⟩:=h;subst hl;obtain⟨ks,rfl⟩:=MO hall;exact⟨ks,rfl,by simpa[maxLen]using hlen⟩
theorem qc{n:Nat}{us:List Vx.U}(h:Vx.OfTy Tryz.prog n 78 us): ∃x:aI,us=aT x/\((x.Arcs.length<=9223372036854775807)):=by
  cases n with
  |zero=> exact h.elim|succ n=>
    simp only[Vx.OfTy,Zv,xi]at h;obtain⟨hl,hf⟩:=h
    match us,hl with
    |[u0,u1],_=>simp only[zI,List.not_mem_nil,or_false,forall_eq_or_imp,forall_eq,xm,xj,List.drop,List.take]at hf;obtain⟨h0,h1⟩:=hf;obtain⟨a0,e0⟩:=X8 h0;simp only[List.cons.injEq,and_true]at e0;subst e0;obtain⟨a1,e1,k1⟩:=qd h1;simp only[List.cons.injEq,and_true]at e1;subst e1;exact⟨⟨a0,a1⟩,rfl,k1⟩
theorem MP{n:Nat}: ∀{l:List (List Vx.U)},(∀c∈l,Vx.OfTy Tryz.prog n 78 c)->∃ks:List aI,l=ks.map aT/\∀q∈ks,(q.Arcs.length<=9223372036854775807)
  |[],_=> ⟨[],rfl,by simp⟩|c::l,h=> by obtain⟨d,rfl,hk⟩:=qc (h c (by simp));obtain⟨ks,rfl,hks⟩:=MP (l:=l) fun x hx=> h x (by simp[hx]);exact⟨d::ks,rfl,by intro q hq;rcases zI.1 hq with rfl |hq;exact hk;exact hks q hq⟩
theorem qh{n:Nat}{us:List Vx.U}(h:Vx.OfTy Tryz.prog n 33 us): ∃x:List aI,us=[.isl false (x.map aT)]/\(x.length<=9223372036854775807/\∀q∈x,(q.Arcs.length<=9223372036854775807)):=by
  cases n with|zero=> exact h.elim|succ n=>simp only[Vx.OfTy,Zz]at h;obtain⟨l,hl,hlen,hall⟩:=h;subst hl;obtain⟨ks,rfl,hks⟩:=MP hall;exact⟨ks,rfl,by simpa[maxLen]using hlen,hks⟩
theorem qf{n:Nat}{us:List Vx.U}(h:Vx.OfTy Tryz.prog n 40 us): ∃x:aW,us=DX x/\((x.Nodes.length<=9223372036854775807/\∀q∈x.Nodes,(q.Arcs.length<=9223372036854775807))):=by
  cases n with
  |zero=> exact h.elim|succ n=>
    simp only[Vx.OfTy,Zy,Jd]at h;obtain⟨hl,hf⟩:=h
    match us,hl with
    |[u0],_=>simp only[zI,List.not_mem_nil,or_false,forall_eq_or_imp,forall_eq,xl,List.drop,List.take]at hf;have h0:=hf;obtain⟨a0,e0,k0⟩:=qh h0;simp only[List.cons.injEq,and_true]at e0;subst e0;exact⟨⟨a0⟩,rfl,k0⟩
theorem qe{n:Nat}{us:List Vx.U}(h:Vx.OfTy Tryz.prog n 42 us): ∃x:oU,us=kG x/\(((x.F.Nodes.length<=9223372036854775807/\∀q∈x.F.Nodes,(q.Arcs.length<=9223372036854775807)))):=by
  cases n with
  |zero=> exact h.elim|succ n=>
    simp only[Vx.OfTy,Zx,xk]at h;obtain⟨hl,hf⟩:=h
    match us,hl with
    |[u0,u1,u2,u3],_=>simp only[zI,List.not_mem_nil,or_false,forall_eq_or_imp,forall_eq,xm,Jd,List.drop,List.take]at hf;obtain⟨h0,h1,h2,h3⟩:=hf;obtain⟨a0,e0⟩:=X8 h0;simp only[List.cons.injEq,and_true]at e0;subst e0;obtain⟨a1,e1⟩:=X8 h1;simp only[List.cons.injEq,and_true]at e1;subst e1;obtain⟨a2,e2⟩:=X8 h2;simp only[List.cons.injEq,and_true]at e2;subst e2;obtain⟨a3,e3,k3⟩:=qf h3;simp only[DX,List.cons.injEq,and_true]at e3;obtain⟨rfl⟩:=e3;exact⟨⟨a0,a1,a2,a3⟩,rfl,k3⟩
theorem MQ{n:Nat}: ∀{l:List (List Vx.U)},(∀c∈l,Vx.OfTy Tryz.prog n 42 c)->∃ks:List oU,l=ks.map kG/\∀q∈ks,((q.F.Nodes.length<=9223372036854775807/\∀qq∈q.F.Nodes,(qq.Arcs.length<=9223372036854775807)))
  |[],_=> ⟨[],rfl,by simp⟩|c::l,h=> by obtain⟨d,rfl,hk⟩:=qe (h c (by simp));obtain⟨ks,rfl,hks⟩:=MQ (l:=l) fun x hx=> h x (by simp[hx]);exact⟨d::ks,rfl,by intro q hq;rcases zI.1 hq with rfl |hq;exact hk;exact hks q hq⟩
theorem qi{n:Nat}{us:List Vx.U}(h:Vx.OfTy Tryz.prog n 23 us): ∃x:List oU,us=[.isl false (x.map kG)]/\(x.length<=9223372036854775807/\∀q∈x,((q.F.Nodes.length<=9223372036854775807/\∀qq∈q.F.Nodes,(qq.Arcs.length<=9223372036854775807)))):=by
  cases n with|zero=> exact h.elim|succ n=>simp only[Vx.OfTy,Ep]at h;obtain⟨l,hl,hlen,hall⟩:=h;subst hl;obtain⟨ks,rfl,hks⟩:=MQ hall;exact⟨ks,rfl,by simpa[maxLen]using hlen,hks⟩
theorem Jr{u:Vx.U}(h:Vx.OfArg Tryz.prog 22 u): ∃x:List bA,u=.isl false (x.map bF)/\(x.length<=9223372036854775807/\∀q∈x,(q.Supers.length<=9223372036854775807)/\(q.Feats.length<=9223372036854775807)):=by
  obtain⟨n,us,h1,h2⟩:=h;simp only[Eq]at h2;obtain⟨x,rfl,hk⟩:=qj h1;exact⟨x,by first |exact h2 |simpa using h2 |simpa using h2.symm,hk⟩
theorem Jq{u:Vx.U}(h:Vx.OfArg Tryz.prog 23 u): ∃x:List oU,u=.isl false (x.map kG)/\(x.length<=9223372036854775807/\∀q∈x,((q.F.Nodes.length<=9223372036854775807/\∀qq∈q.F.Nodes,(qq.Arcs.length<=9223372036854775807)))):=by
  obtain⟨n,us,h1,h2⟩:=h;simp only[Ep]at h2;obtain⟨x,rfl,hk⟩:=qi h1;exact⟨x,by first |exact h2 |simpa using h2 |simpa using h2.symm,hk⟩
set_option maxRecDepth 100000 in
theorem lifted (os : Os) (started : os.Started) (H : Type) (enc : TypeId × Value -> H) :
    ReturnsInHanded {} Tryz.checked os 3 .any (Rows.trailPlaysSpec.pre6 enc Tryz.prog Tryz.f3 Rows.trailPlaysRow.domain false) (Rows.trailPlaysSpec.post enc Tryz.prog Tryz.f3 false true false false):=by
  refine returnsInHanded_of_change (C:=Tryz.checked) own started (by kernel_rfl) Tryz.func3
    (ChangeSpec.witness6 (enc:=enc) (C:=Tryz.checked) false ⟨#[], #[.slice none 0 0, .slice none 0 0],[]⟩ 3 (by kernel_rfl) (by kernel_rfl) (by kernel_rfl) (by kernel_rfl)) ?_
  intro W base args ds gs before hval0 hW hcnd _;have hval : ∀(j:Nat) t v,Tryz.f3.params[j]? = some t->args[j]? = some v->Value.okWide Tryz.prog W .any base t v:=hval0;have hW':=hW;obtain⟨p,q,hA0,hV,rfl,hfz,hnd⟩:=hW;have hA:DataW.TrodAll enc Tryz.prog W 0 (fun _=> true) true Tryz.f3.params.toList args.toList ds p:=hA0;rw[Tryz.params3]at hA hval;obtain⟨us,k1,k2,k3⟩:=Vx.args_rep closed (by decide) (fun j t v h1 h2=> hval j t v (by simpa using h1) (by simpa using h2)) hA;obtain⟨v0,XZ,d0,ds0,p0,q0,hargs0,rfl,rfl,h0,r0⟩:=trodAll_cons hA;obtain⟨v1,so,d1,DG,p1,q1,hargs1,rfl,rfl,h1,r1⟩:=trodAll_cons r0;obtain⟨rfl,rfl,rfl⟩:=trodAll_nil r1;obtain⟨rfl,rfl⟩:=trodVars_none hV;simp only[Vx.OfArgs]at k3;obtain⟨u0,Kn,rfl,m0,u1,us1,rfl,m1,rfl⟩:=k3;obtain⟨X0,rfl,H0⟩:=Jr m0;obtain⟨X1,rfl,H1⟩:=Jq m1;clear hA0 hval0;refine(Vx.law_calls ((qkr _ X0 X1 true (z3z X0 X1 H1.1 (zF _))).mono fun u s h=> h.1) k1 k2).mono fun e W' ⟨he,hg⟩=> ?_;subst he;exact⟨_,rfl,Rx.law_post hW' laid (by kernel_rfl) hg rfl rfl Tryz.underlying4 rfl rfl rfl⟩
theorem over:Rows.trailPlaysRow.holds Tryz.pinned (OpenSpec.ofChange Rows.trailPlaysSpec):=
  OpenClaim.holds_of_wide 3 Tryz.f3 rfl rfl rfl rfl rfl rfl rfl ⟨rfl,rfl,rfl,rfl,rfl⟩ rfl rfl rfl rfl rfl (by kernel_rfl) Tryz.func3 (by kernel_rfl)
    (of_decide_eq_true (by kernel_rfl)) (by unfold Func.isWrapper;first |(rw[if_pos (by decide+kernel)];kernel_rfl)|(rw[if_neg (by decide+kernel)];exact⟨rfl,rfl⟩))
    (fun os started H enc _=> lifted os started H enc)
theorem proved:Rows.TrailPlaysSaid :=
  over
#print axioms proved
end Go.Proofs.YtldlchbgolpkaaaGreat.trailPlays
