import Derived.Test.YtldlchbgolpkaaaGreatRows
import Derived.WalkKit
import Derived.ProofKit
import Derived.OpenShut
import Derived.Test.YtldlchbgolpkaaaGreatP20
namespace Go.Proofs.YtldlchbgolpkaaaGreat.trailUndoes
open Go.ChangeShapes Go.WideShapes Go.ChangeAt Go.RowKit
set_option linter.unusedVariables false
set_option linter.unusedSimpArgs false
set_option maxRecDepth 20000

theorem own:ownKnob Tryz.prog.godebug=none:=by kernel_rfl
theorem laid:laidOutB Tryz.prog=true:=by kernel_rfl
theorem Tj:Tryz.prog.underlying 22=some (.slice 138):=by kernel_rfl
theorem ce22:Tryz.prog.cellsOf 22=1:=by kernel_rfl
theorem Tl : Tryz.prog.underlying 138 = some (.struct #[⟨ "Name", 9, 0, false, "", "", 0⟩, ⟨ "Supers", 135, 1, false, "", "", 16⟩, ⟨ "Feats", 136, 2, false, "", "", 40⟩]) := by kernel_rfl
theorem Zo:Tryz.prog.cellsOf 138=3:=by kernel_rfl
theorem pu9:Tryz.prog.underlying 9=some (.string):=by kernel_rfl
theorem ce9:Tryz.prog.cellsOf 9=1:=by kernel_rfl
theorem Tn:Tryz.prog.underlying 135=some (.slice 9):=by kernel_rfl
theorem Zq:Tryz.prog.cellsOf 135=1:=by kernel_rfl
theorem Tm:Tryz.prog.underlying 136=some (.slice 141):=by kernel_rfl
theorem Zp:Tryz.prog.cellsOf 136=1:=by kernel_rfl
theorem Tk : Tryz.prog.underlying 141 = some (.struct #[⟨ "Feat", 9, 0, false, "", "", 0⟩, ⟨ "Value", 9, 1, false, "", "", 16⟩]) := by kernel_rfl
theorem Zn:Tryz.prog.cellsOf 141=2:=by kernel_rfl
theorem Ti:Tryz.prog.underlying 23=some (.slice 42):=by kernel_rfl
theorem ce23:Tryz.prog.cellsOf 23=1:=by kernel_rfl
theorem l_ : Tryz.prog.underlying 42 = some (.struct #[⟨ "Kind", 3, 0, false, "", "", 0⟩, ⟨ "A", 3, 1, false, "", "", 8⟩, ⟨ "B", 3, 2, false, "", "", 16⟩, ⟨ "F", 40, 3, false, "", "", 24⟩]) := by kernel_rfl
theorem ce42:Tryz.prog.cellsOf 42=4:=by kernel_rfl
theorem pu3:Tryz.prog.underlying 3=some (.int .i64):=by kernel_rfl
theorem ce3:Tryz.prog.cellsOf 3=1:=by kernel_rfl
theorem m_ : Tryz.prog.underlying 40 = some (.struct #[⟨ "Nodes", 33, 0, false, "", "", 0⟩]) := by kernel_rfl
theorem Zm:Tryz.prog.cellsOf 40=1:=by kernel_rfl
theorem n_:Tryz.prog.underlying 33=some (.slice 78):=by kernel_rfl
theorem ce33:Tryz.prog.cellsOf 33=1:=by kernel_rfl
theorem j_ : Tryz.prog.underlying 78 = some (.struct #[⟨ "Type", 3, 0, false, "", "", 0⟩, ⟨ "Arcs", 76, 1, false, "", "", 8⟩]) := by kernel_rfl
theorem ce78:Tryz.prog.cellsOf 78=2:=by kernel_rfl
theorem k_:Tryz.prog.underlying 76=some (.slice 98):=by kernel_rfl
theorem ce76:Tryz.prog.cellsOf 76=1:=by kernel_rfl
theorem i_ : Tryz.prog.underlying 98 = some (.struct #[⟨ "Feat", 3, 0, false, "", "", 0⟩, ⟨ "To", 3, 1, false, "", "", 8⟩]) := by kernel_rfl
theorem ce98:Tryz.prog.cellsOf 98=2:=by kernel_rfl
theorem closed:Vx.closedTS Tryz.prog [22, 138, 9, 135, 136, 141, 23, 42, 3, 40, 33, 78, 76, 98]=true:=by kernel_rfl
theorem pg{n:Nat}{us:List Vx.U}(h:Vx.OfTy Tryz.prog n 9 us): ∃s,us=[.str s]:=by
  cases n with|zero=> exact h.elim|succ n=> simp only[Vx.OfTy,pu9]at h;obtain⟨i,rfl,_⟩:=h;exact⟨i,rfl⟩
theorem L7{n:Nat}: ∀{l:List (List Vx.U)},(∀c∈l,Vx.OfTy Tryz.prog n 9 c)->∃ks:List (List UInt8),l=ks.map Vx.cS
  |[],_=> ⟨[],rfl⟩|c::l,h=> by obtain⟨d,rfl⟩:=pg (h c (by simp));obtain⟨ks,rfl⟩:=L7 (l:=l) fun x hx=> h x (by simp[hx]);exact⟨d::ks,rfl⟩
theorem Tw{n:Nat}{us:List Vx.U}(h:Vx.OfTy Tryz.prog n 135 us): ∃x:List (List UInt8),us=[.isl false (x.map Vx.cS)]/\(x.length<=9223372036854775807):=by
  cases n with|zero=> exact h.elim|succ n=>simp only[Vx.OfTy,Tn]at h;obtain⟨l,hl,b7,cP⟩:=h;subst hl;obtain⟨ks,rfl⟩:=L7 cP;exact⟨ks,rfl,by simpa[maxLen]using b7⟩
theorem Tt{n:Nat}{us:List Vx.U}(h:Vx.OfTy Tryz.prog n 141 us): ∃x:oR,us=lH x:=by
  cases n with
  |zero=> exact h.elim|succ n=>
    simp only[Vx.OfTy,Tk,Zn]at h;obtain⟨hl,hf⟩:=h
    match us,hl with
    |[u0,u1],_=>simp only[zI,List.not_mem_nil,or_false,forall_eq_or_imp,forall_eq,ce9,List.drop,List.take]at hf;obtain⟨h0,h1⟩:=hf;obtain⟨a0,e0⟩:=pg h0;simp only[List.cons.injEq,and_true]at e0;subst e0;obtain⟨a1,e1⟩:=pg h1;simp only[List.cons.injEq,and_true]at e1;subst e1;exact⟨⟨a0,a1⟩,rfl⟩
theorem L6{n:Nat}: ∀{l:List (List Vx.U)},(∀c∈l,Vx.OfTy Tryz.prog n 141 c)->∃ks:List oR,l=ks.map lH
  |[],_=> ⟨[],rfl⟩|c::l,h=> by obtain⟨d,rfl⟩:=Tt (h c (by simp));obtain⟨ks,rfl⟩:=L6 (l:=l) fun x hx=> h x (by simp[hx]);exact⟨d::ks,rfl⟩
theorem Tv{n:Nat}{us:List Vx.U}(h:Vx.OfTy Tryz.prog n 136 us): ∃x:List oR,us=[.isl false (x.map lH)]/\(x.length<=9223372036854775807):=by
  cases n with|zero=> exact h.elim|succ n=>simp only[Vx.OfTy,Tm]at h;obtain⟨l,hl,b7,cP⟩:=h;subst hl;obtain⟨ks,rfl⟩:=L6 cP;exact⟨ks,rfl,by simpa[maxLen]using b7⟩
theorem Tu{n:Nat}{us:List Vx.U}(h:Vx.OfTy Tryz.prog n 138 us): ∃x:bL,us=bS x/\((x.Supers.length<=9223372036854775807)/\(x.Feats.length<=9223372036854775807)):=by
  cases n with
  |zero=> exact h.elim|succ n=>
    simp only[Vx.OfTy,Tl,Zo]at h;obtain⟨hl,hf⟩:=h
    match us,hl with
    |[u0,u1,u2],_=>simp only[zI,List.not_mem_nil,or_false,forall_eq_or_imp,forall_eq,Zq,Zp,ce9,List.drop,List.take]at hf;obtain⟨h0,h1,h2⟩:=hf;obtain⟨a0,e0⟩:=pg h0;simp only[List.cons.injEq,and_true]at e0;subst e0;obtain⟨a1,e1,k1⟩:=Tw h1;simp only[List.cons.injEq,and_true]at e1;subst e1;obtain⟨a2,e2,k2⟩:=Tv h2;simp only[List.cons.injEq,and_true]at e2;subst e2;exact⟨⟨a0,a1,a2⟩,rfl,⟨k1,k2⟩⟩
theorem VR{n:Nat}: ∀{l:List (List Vx.U)},(∀c∈l,Vx.OfTy Tryz.prog n 138 c)->∃ks:List bL,l=ks.map bS/\∀q∈ks,(q.Supers.length<=9223372036854775807)/\(q.Feats.length<=9223372036854775807)
  |[],_=> ⟨[],rfl,by simp⟩|c::l,h=> by obtain⟨d,rfl,hk⟩:=Tu (h c (by simp));obtain⟨ks,rfl,qF⟩:=VR (l:=l) fun x hx=> h x (by simp[hx]);exact⟨d::ks,rfl,by intro q hq;rcases zI.1 hq with rfl |hq;exact hk;exact qF q hq⟩
theorem v_{n:Nat}{us:List Vx.U}(h:Vx.OfTy Tryz.prog n 22 us): ∃x:List bL,us=[.isl false (x.map bS)]/\(x.length<=9223372036854775807/\∀q∈x,(q.Supers.length<=9223372036854775807)/\(q.Feats.length<=9223372036854775807)):=by
  cases n with|zero=> exact h.elim|succ n=>simp only[Vx.OfTy,Tj]at h;obtain⟨l,hl,b7,cP⟩:=h;subst hl;obtain⟨ks,rfl,qF⟩:=VR cP;exact⟨ks,rfl,by simpa[maxLen]using b7,qF⟩
theorem Jv{n:Nat}{us:List Vx.U}(h:Vx.OfTy Tryz.prog n 3 us): ∃i,us=[.int .i64 i]:=by
  cases n with|zero=> exact h.elim|succ n=> simp only[Vx.OfTy,pu3]at h;obtain⟨i,rfl,_⟩:=h;exact⟨i,rfl⟩
theorem o_{n:Nat}{us:List Vx.U}(h:Vx.OfTy Tryz.prog n 98 us): ∃x:aK,us=aU x:=by
  cases n with
  |zero=> exact h.elim|succ n=>
    simp only[Vx.OfTy,i_,ce98]at h;obtain⟨hl,hf⟩:=h
    match us,hl with
    |[u0,u1],_=>simp only[zI,List.not_mem_nil,or_false,forall_eq_or_imp,forall_eq,ce3,List.drop,List.take]at hf;obtain⟨h0,h1⟩:=hf;obtain⟨a0,e0⟩:=Jv h0;simp only[List.cons.injEq,and_true]at e0;subst e0;obtain⟨a1,e1⟩:=Jv h1;simp only[List.cons.injEq,and_true]at e1;subst e1;exact⟨⟨a0,a1⟩,rfl⟩
theorem VO{n:Nat}: ∀{l:List (List Vx.U)},(∀c∈l,Vx.OfTy Tryz.prog n 98 c)->∃ks:List aK,l=ks.map aU
  |[],_=> ⟨[],rfl⟩|c::l,h=> by obtain⟨d,rfl⟩:=o_ (h c (by simp));obtain⟨ks,rfl⟩:=VO (l:=l) fun x hx=> h x (by simp[hx]);exact⟨d::ks,rfl⟩
theorem q_{n:Nat}{us:List Vx.U}(h:Vx.OfTy Tryz.prog n 76 us): ∃x:List aK,us=[.isl false (x.map aU)]/\(x.length<=9223372036854775807):=by
  cases n with|zero=> exact h.elim|succ n=>simp only[Vx.OfTy,k_]at h;obtain⟨l,hl,b7,cP⟩:=h;subst hl;obtain⟨ks,rfl⟩:=VO cP;exact⟨ks,rfl,by simpa[maxLen]using b7⟩
theorem p_{n:Nat}{us:List Vx.U}(h:Vx.OfTy Tryz.prog n 78 us): ∃x:aN,us=bA x/\((x.Arcs.length<=9223372036854775807)):=by
  cases n with
  |zero=> exact h.elim|succ n=>
    simp only[Vx.OfTy,j_,ce78]at h;obtain⟨hl,hf⟩:=h
    match us,hl with
    |[u0,u1],_=>simp only[zI,List.not_mem_nil,or_false,forall_eq_or_imp,forall_eq,ce3,ce76,List.drop,List.take]at hf;obtain⟨h0,h1⟩:=hf;obtain⟨a0,e0⟩:=Jv h0;simp only[List.cons.injEq,and_true]at e0;subst e0;obtain⟨a1,e1,k1⟩:=q_ h1;simp only[List.cons.injEq,and_true]at e1;subst e1;exact⟨⟨a0,a1⟩,rfl,k1⟩
theorem VP{n:Nat}: ∀{l:List (List Vx.U)},(∀c∈l,Vx.OfTy Tryz.prog n 78 c)->∃ks:List aN,l=ks.map bA/\∀q∈ks,(q.Arcs.length<=9223372036854775807)
  |[],_=> ⟨[],rfl,by simp⟩|c::l,h=> by obtain⟨d,rfl,hk⟩:=p_ (h c (by simp));obtain⟨ks,rfl,qF⟩:=VP (l:=l) fun x hx=> h x (by simp[hx]);exact⟨d::ks,rfl,by intro q hq;rcases zI.1 hq with rfl |hq;exact hk;exact qF q hq⟩
theorem t_{n:Nat}{us:List Vx.U}(h:Vx.OfTy Tryz.prog n 33 us): ∃x:List aN,us=[.isl false (x.map bA)]/\(x.length<=9223372036854775807/\∀q∈x,(q.Arcs.length<=9223372036854775807)):=by
  cases n with|zero=> exact h.elim|succ n=>simp only[Vx.OfTy,n_]at h;obtain⟨l,hl,b7,cP⟩:=h;subst hl;obtain⟨ks,rfl,qF⟩:=VP cP;exact⟨ks,rfl,by simpa[maxLen]using b7,qF⟩
theorem s_{n:Nat}{us:List Vx.U}(h:Vx.OfTy Tryz.prog n 40 us): ∃x:GFS,us=oN x/\((x.Nodes.length<=9223372036854775807/\∀q∈x.Nodes,(q.Arcs.length<=9223372036854775807))):=by
  cases n with
  |zero=> exact h.elim|succ n=>
    simp only[Vx.OfTy,m_,Zm]at h;obtain⟨hl,hf⟩:=h
    match us,hl with
    |[u0],_=>simp only[zI,List.not_mem_nil,or_false,forall_eq_or_imp,forall_eq,ce33,List.drop,List.take]at hf;have h0:=hf;obtain⟨a0,e0,k0⟩:=t_ h0;simp only[List.cons.injEq,and_true]at e0;subst e0;exact⟨⟨a0⟩,rfl,k0⟩
theorem r_{n:Nat}{us:List Vx.U}(h:Vx.OfTy Tryz.prog n 42 us): ∃x:nM,us=iL x/\(((x.F.Nodes.length<=9223372036854775807/\∀q∈x.F.Nodes,(q.Arcs.length<=9223372036854775807)))):=by
  cases n with
  |zero=> exact h.elim|succ n=>
    simp only[Vx.OfTy,l_,ce42]at h;obtain⟨hl,hf⟩:=h
    match us,hl with
    |[u0,u1,u2,u3],_=>simp only[zI,List.not_mem_nil,or_false,forall_eq_or_imp,forall_eq,ce3,Zm,List.drop,List.take]at hf;obtain⟨h0,h1,h2,h3⟩:=hf;obtain⟨a0,e0⟩:=Jv h0;simp only[List.cons.injEq,and_true]at e0;subst e0;obtain⟨a1,e1⟩:=Jv h1;simp only[List.cons.injEq,and_true]at e1;subst e1;obtain⟨a2,e2⟩:=Jv h2;simp only[List.cons.injEq,and_true]at e2;subst e2;obtain⟨a3,e3,k3⟩:=s_ h3;simp only[oN,List.cons.injEq,and_true]at e3;obtain⟨rfl⟩:=e3;exact⟨⟨a0,a1,a2,a3⟩,rfl,k3⟩
theorem VQ{n:Nat}: ∀{l:List (List Vx.U)},(∀c∈l,Vx.OfTy Tryz.prog n 42 c)->∃ks:List nM,l=ks.map iL/\∀q∈ks,((q.F.Nodes.length<=9223372036854775807/\∀qq∈q.F.Nodes,(qq.Arcs.length<=9223372036854775807)))
  |[],_=> ⟨[],rfl,by simp⟩|c::l,h=> by obtain⟨d,rfl,hk⟩:=r_ (h c (by simp));obtain⟨ks,rfl,qF⟩:=VQ (l:=l) fun x hx=> h x (by simp[hx]);exact⟨d::ks,rfl,by intro q hq;rcases zI.1 hq with rfl |hq;exact hk;exact qF q hq⟩
theorem u_{n:Nat}{us:List Vx.U}(h:Vx.OfTy Tryz.prog n 23 us): ∃x:List nM,us=[.isl false (x.map iL)]/\(x.length<=9223372036854775807/\∀q∈x,((q.F.Nodes.length<=9223372036854775807/\∀qq∈q.F.Nodes,(qq.Arcs.length<=9223372036854775807)))):=by
  cases n with|zero=> exact h.elim|succ n=>simp only[Vx.OfTy,Ti]at h;obtain⟨l,hl,b7,cP⟩:=h;subst hl;obtain⟨ks,rfl,qF⟩:=VQ cP;exact⟨ks,rfl,by simpa[maxLen]using b7,qF⟩
theorem Zz{u:Vx.U}(h:Vx.OfArg Tryz.prog 22 u): ∃x:List bL,u=.isl false (x.map bS)/\(x.length<=9223372036854775807/\∀q∈x,(q.Supers.length<=9223372036854775807)/\(q.Feats.length<=9223372036854775807)):=by
  obtain⟨n,us,h1,h2⟩:=h;simp only[Tj]at h2;obtain⟨x,rfl,hk⟩:=v_ h1;exact⟨x,by first |exact h2 |simpa using h2 |simpa using h2.symm,hk⟩
theorem VU{u:Vx.U}(h:Vx.OfArg Tryz.prog 23 u): ∃x:List nM,u=.isl false (x.map iL)/\(x.length<=9223372036854775807/\∀q∈x,((q.F.Nodes.length<=9223372036854775807/\∀qq∈q.F.Nodes,(qq.Arcs.length<=9223372036854775807)))):=by
  obtain⟨n,us,h1,h2⟩:=h;simp only[Ti]at h2;obtain⟨x,rfl,hk⟩:=u_ h1;exact⟨x,by first |exact h2 |simpa using h2 |simpa using h2.symm,hk⟩
set_option maxRecDepth 100000 in
theorem lifted (os : Os) (started : os.Started) (H : Type) (enc : TypeId × Value -> H) :
    ReturnsInHanded {} Tryz.checked os 4 .any (Rows.trailUndoesSpec.pre6 enc Tryz.prog Tryz.f4 Rows.trailUndoesRow.domain false) (Rows.trailUndoesSpec.post enc Tryz.prog Tryz.f4 false true false false):=by
  refine returnsInHanded_of_change (C:=Tryz.checked) own started (by kernel_rfl) Tryz.func4
    (ChangeSpec.witness6 (enc:=enc) (C:=Tryz.checked) false ⟨#[], #[.slice none 0 0, .slice none 0 0, .slice none 0 0],[]⟩ 4 (by kernel_rfl) (by kernel_rfl) (by kernel_rfl) (by kernel_rfl)) ?_
  intro W base args ds gs before U8 hW hcnd _;have eQ : ∀(j:Nat) t v,Tryz.f4.params[j]? = some t->args[j]? = some v->Value.okWide Tryz.prog W .any base t v:=U8;have hW':=hW;obtain⟨p,q,hA0,hV,rfl,We,N4⟩:=hW;have hA:DataW.TrodAll enc Tryz.prog W 0 (fun _=> true) true Tryz.f4.params.toList args.toList ds p:=hA0;rw[Tryz.params4]at hA eQ;obtain⟨us,k1,k2,k3⟩:=Vx.args_rep closed (by decide) (fun j t v h1 h2=> eQ j t v (by simpa using h1) (by simpa using h2)) hA;obtain⟨v0,Lo,d0,ds0,p0,q0,hargs0,rfl,rfl,h0,r0⟩:=trodAll_cons hA;obtain⟨v1,vs1,d1,L8,p1,q1,hargs1,rfl,rfl,h1,r1⟩:=trodAll_cons r0;obtain⟨v2,IA,d2,ds2,p2,q2,hargs2,rfl,rfl,h2,r2⟩:=trodAll_cons r1;obtain⟨rfl,rfl,rfl⟩:=trodAll_nil r2;obtain⟨rfl,rfl⟩:=trodVars_none hV;simp only[Vx.OfArgs]at k3;obtain⟨u0,zd,rfl,m0,u1,us1,rfl,m1,u2,us2,rfl,m2,rfl⟩:=k3;obtain⟨X0,rfl,H0⟩:=Zz m0;obtain⟨v02,rfl,H1⟩:=VU m1;obtain⟨X2,rfl,H2⟩:=VU m2;clear hA0 U8;refine(Vx.law_calls ((qk6 _ X0 v02 X2 true (z1a X0 v02 X2 H1.1 H2.1 (zF _))).mono fun u s h=> h.1) k1 k2).mono fun e W' ⟨he,hg⟩=> ?_;subst he;exact⟨_,rfl,Rx.law_post hW' laid (by kernel_rfl) hg rfl rfl Tryz.underlying4 rfl rfl rfl⟩
theorem over:Rows.trailUndoesRow.holds Tryz.pinned (OpenSpec.ofChange Rows.trailUndoesSpec):=
  OpenClaim.holds_of_wide 4 Tryz.f4 rfl rfl rfl rfl rfl rfl rfl ⟨rfl,rfl,rfl,rfl,rfl⟩ rfl rfl rfl rfl rfl (by kernel_rfl) Tryz.func4 (by kernel_rfl)
    (of_decide_eq_true (by kernel_rfl)) (by unfold Func.isWrapper;first |(rw[if_pos (by decide+kernel)];kernel_rfl)|(rw[if_neg (by decide+kernel)];exact⟨rfl,rfl⟩))
    (fun os started H enc _=> lifted os started H enc)
theorem proved:Rows.TrailUndoesSaid :=
  over
#print axioms proved
end Go.Proofs.YtldlchbgolpkaaaGreat.trailUndoes
