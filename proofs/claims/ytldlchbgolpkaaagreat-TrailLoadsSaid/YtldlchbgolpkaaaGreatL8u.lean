import Derived.Test.YtldlchbgolpkaaaGreatRows
import Derived.WalkKit
import Derived.ProofKit
import Derived.OpenShut
import Derived.Test.YtldlchbgolpkaaaGreatP22
namespace Go.Proofs.YtldlchbgolpkaaaGreat.trailLoads
open Go.ChangeShapes Go.WideShapes Go.ChangeAt Go.RowKit
set_option linter.unusedVariables false
set_option linter.unusedSimpArgs false
set_option maxRecDepth 20000

theorem own:ownKnob Tryz.prog.godebug=none:=by kernel_rfl
theorem laid:laidOutB Tryz.prog=true:=by kernel_rfl
theorem Si:Tryz.prog.underlying 22=some (.slice 138):=by kernel_rfl
theorem ce22:Tryz.prog.cellsOf 22=1:=by kernel_rfl
theorem Sk : Tryz.prog.underlying 138 = some (.struct #[⟨ "Name", 9, 0, false, "", "", 0⟩, ⟨ "Supers", 135, 1, false, "", "", 16⟩, ⟨ "Feats", 136, 2, false, "", "", 40⟩]) := by kernel_rfl
theorem Zf:Tryz.prog.cellsOf 138=3:=by kernel_rfl
theorem pu9:Tryz.prog.underlying 9=some (.string):=by kernel_rfl
theorem ce9:Tryz.prog.cellsOf 9=1:=by kernel_rfl
theorem Sm:Tryz.prog.underlying 135=some (.slice 9):=by kernel_rfl
theorem Zh:Tryz.prog.cellsOf 135=1:=by kernel_rfl
theorem Sl:Tryz.prog.underlying 136=some (.slice 141):=by kernel_rfl
theorem Zg:Tryz.prog.cellsOf 136=1:=by kernel_rfl
theorem Sj : Tryz.prog.underlying 141 = some (.struct #[⟨ "Feat", 9, 0, false, "", "", 0⟩, ⟨ "Value", 9, 1, false, "", "", 16⟩]) := by kernel_rfl
theorem Ze:Tryz.prog.cellsOf 141=2:=by kernel_rfl
theorem Sh:Tryz.prog.underlying 23=some (.slice 42):=by kernel_rfl
theorem ce23:Tryz.prog.cellsOf 23=1:=by kernel_rfl
theorem A? : Tryz.prog.underlying 42 = some (.struct #[⟨ "Kind", 3, 0, false, "", "", 0⟩, ⟨ "A", 3, 1, false, "", "", 8⟩, ⟨ "B", 3, 2, false, "", "", 16⟩, ⟨ "F", 40, 3, false, "", "", 24⟩]) := by kernel_rfl
theorem ce42:Tryz.prog.cellsOf 42=4:=by kernel_rfl
theorem pu3:Tryz.prog.underlying 3=some (.int .i64):=by kernel_rfl
theorem ce3:Tryz.prog.cellsOf 3=1:=by kernel_rfl
theorem Sf : Tryz.prog.underlying 40 = some (.struct #[⟨ "Nodes", 33, 0, false, "", "", 0⟩]) := by kernel_rfl
theorem Zd:Tryz.prog.cellsOf 40=1:=by kernel_rfl
theorem B?: Tryz.prog.underlying 33=some (.slice 78):=by kernel_rfl
theorem ce33:Tryz.prog.cellsOf 33=1:=by kernel_rfl
theorem y? : Tryz.prog.underlying 78 = some (.struct #[⟨ "Type", 3, 0, false, "", "", 0⟩, ⟨ "Arcs", 76, 1, false, "", "", 8⟩]) := by kernel_rfl
theorem ce78:Tryz.prog.cellsOf 78=2:=by kernel_rfl
theorem z?: Tryz.prog.underlying 76=some (.slice 98):=by kernel_rfl
theorem ce76:Tryz.prog.cellsOf 76=1:=by kernel_rfl
theorem x? : Tryz.prog.underlying 98 = some (.struct #[⟨ "Feat", 3, 0, false, "", "", 0⟩, ⟨ "To", 3, 1, false, "", "", 8⟩]) := by kernel_rfl
theorem ce98:Tryz.prog.cellsOf 98=2:=by kernel_rfl
theorem closed:Vx.closedTS Tryz.prog [22, 138, 9, 135, 136, 141, 23, 42, 3, 40, 33, 78, 76, 98]=true:=by kernel_rfl
theorem sj{n:Nat}{us:V Vx.U}(h:Vx.OfTy Tryz.prog n 9 us): ∃s,us=[.str s]:=by cases n with|zero=> exact h.elim|succ n=> simp only[Vx.OfTy,pu9]at h;obtain⟨i,rfl,_⟩:=h;exact⟨i,rfl⟩
theorem L8{n:Nat}: ∀{l:V (V Vx.U)},(∀c∈l,Vx.OfTy Tryz.prog n 9 c)->∃ks:V (V Xv),l=ks.map Vx.cS
  |[],_=> ⟨[],rfl⟩|c::l,h=> by obtain⟨d,rfl⟩:=sj (h c (by simp));obtain⟨ks,rfl⟩:=L8 (l:=l) fun x hx=> h x (by simp[hx]);exact⟨d::ks,rfl⟩
theorem Sy{n:Nat}{us:V Vx.U}(h:Vx.OfTy Tryz.prog n 135 us): ∃x:V (V Xv),us=[.isl false (x.map Vx.cS)]/\(x.length<=9223372036854775807):=by cases n with|zero=> exact h.elim|succ n=>simp only[Vx.OfTy,Sm]at h;obtain⟨l,hl,aZ,cU⟩:=h;subst hl;obtain⟨ks,rfl⟩:=L8 cU;exact⟨ks,rfl,by simpa[maxLen]using aZ⟩
theorem Sv{n:Nat}{us:V Vx.U}(h:Vx.OfTy Tryz.prog n 141 us): ∃x:oZ,us=lX x:=by
  cases n with
  |zero=> exact h.elim|succ n=>
    simp only[Vx.OfTy,Sj,Ze]at h;obtain⟨hl,hf⟩:=h
    match us,hl with
    |[u0,u1],_=>simp only[zI,List.not_mem_nil,or_false,forall_eq_or_imp,forall_eq,ce9,List.drop,List.take]at hf;obtain⟨h0,h1⟩:=hf;obtain⟨a0,e0⟩:=sj h0;simp only[List.cons.injEq,and_true]at e0;subst e0;obtain⟨a1,e1⟩:=sj h1;simp only[List.cons.injEq,and_true]at e1;subst e1;exact⟨⟨a0,a1⟩,rfl⟩
theorem L7{n:Nat}: ∀{l:V (V Vx.U)},(∀c∈l,Vx.OfTy Tryz.prog n 141 c)->∃ks:V oZ,l=ks.map lX
  |[],_=> ⟨[],rfl⟩|c::l,h=> by obtain⟨d,rfl⟩:=Sv (h c (by simp));obtain⟨ks,rfl⟩:=L7 (l:=l) fun x hx=> h x (by simp[hx]);exact⟨d::ks,rfl⟩
theorem Sx{n:Nat}{us:V Vx.U}(h:Vx.OfTy Tryz.prog n 136 us): ∃x:V oZ,us=[.isl false (x.map lX)]/\(x.length<=9223372036854775807):=by cases n with|zero=> exact h.elim|succ n=>simp only[Vx.OfTy,Sl]at h;obtain⟨l,hl,aZ,cU⟩:=h;subst hl;obtain⟨ks,rfl⟩:=L7 cU;exact⟨ks,rfl,by simpa[maxLen]using aZ⟩
theorem Sw{n:Nat}{us:V Vx.U}(h:Vx.OfTy Tryz.prog n 138 us): ∃x:bL,us=bV x/\((x.Supers.length<=9223372036854775807)/\(x.Feats.length<=9223372036854775807)):=by
  cases n with
  |zero=> exact h.elim|succ n=>
    simp only[Vx.OfTy,Sk,Zf]at h;obtain⟨hl,hf⟩:=h
    match us,hl with
    |[u0,u1,u2],_=>simp only[zI,List.not_mem_nil,or_false,forall_eq_or_imp,forall_eq,Zh,Zg,ce9,List.drop,List.take]at hf;obtain⟨h0,h1,h2⟩:=hf;obtain⟨a0,e0⟩:=sj h0;simp only[List.cons.injEq,and_true]at e0;subst e0;obtain⟨a1,e1,k1⟩:=Sy h1;simp only[List.cons.injEq,and_true]at e1;subst e1;obtain⟨a2,e2,k2⟩:=Sx h2;simp only[List.cons.injEq,and_true]at e2;subst e2;exact⟨⟨a0,a1,a2⟩,rfl,⟨k1,k2⟩⟩
theorem VA{n:Nat}: ∀{l:V (V Vx.U)},(∀c∈l,Vx.OfTy Tryz.prog n 138 c)->∃ks:V bL,l=ks.map bV/\∀q∈ks,(q.Supers.length<=9223372036854775807)/\(q.Feats.length<=9223372036854775807)
  |[],_=> ⟨[],rfl,by simp⟩|c::l,h=> by obtain⟨d,rfl,hk⟩:=Sw (h c (by simp));obtain⟨ks,rfl,tS⟩:=VA (l:=l) fun x hx=> h x (by simp[hx]);exact⟨d::ks,rfl,by intro q hq;rcases zI.1 hq with rfl |hq;exact hk;exact tS q hq⟩
theorem I?{n:Nat}{us:V Vx.U}(h:Vx.OfTy Tryz.prog n 22 us): ∃x:V bL,us=[.isl false (x.map bV)]/\(x.length<=9223372036854775807/\∀q∈x,(q.Supers.length<=9223372036854775807)/\(q.Feats.length<=9223372036854775807)):=by cases n with|zero=> exact h.elim|succ n=>simp only[Vx.OfTy,Si]at h;obtain⟨l,hl,aZ,cU⟩:=h;subst hl;obtain⟨ks,rfl,tS⟩:=VA cU;exact⟨ks,rfl,by simpa[maxLen]using aZ,tS⟩
theorem Io{n:Nat}{us:V Vx.U}(h:Vx.OfTy Tryz.prog n 3 us): ∃i,us=[.int .i64 i]:=by cases n with|zero=> exact h.elim|succ n=> simp only[Vx.OfTy,pu3]at h;obtain⟨i,rfl,_⟩:=h;exact⟨i,rfl⟩
theorem C?{n:Nat}{us:V Vx.U}(h:Vx.OfTy Tryz.prog n 98 us): ∃x:aG,us=aL x:=by
  cases n with
  |zero=> exact h.elim|succ n=>
    simp only[Vx.OfTy,x?,ce98]at h;obtain⟨hl,hf⟩:=h
    match us,hl with
    |[u0,u1],_=>simp only[zI,List.not_mem_nil,or_false,forall_eq_or_imp,forall_eq,ce3,List.drop,List.take]at hf;obtain⟨h0,h1⟩:=hf;obtain⟨a0,e0⟩:=Io h0;simp only[List.cons.injEq,and_true]at e0;subst e0;obtain⟨a1,e1⟩:=Io h1;simp only[List.cons.injEq,and_true]at e1;subst e1;exact⟨⟨a0,a1⟩,rfl⟩
theorem V7{n:Nat}: ∀{l:V (V Vx.U)},(∀c∈l,Vx.OfTy Tryz.prog n 98 c)->∃ks:V aG,l=ks.map aL
  |[],_=> ⟨[],rfl⟩|c::l,h=> by obtain⟨d,rfl⟩:=C? (h c (by simp));obtain⟨ks,rfl⟩:=V7 (l:=l) fun x hx=> h x (by simp[hx]);exact⟨d::ks,rfl⟩
theorem E?{n:Nat}{us:V Vx.U}(h:Vx.OfTy Tryz.prog n 76 us): ∃x:V aG,us=[.isl false (x.map aL)]/\(x.length<=9223372036854775807):=by cases n with|zero=> exact h.elim|succ n=>simp only[Vx.OfTy,z?]at h;obtain⟨l,hl,aZ,cU⟩:=h;subst hl;obtain⟨ks,rfl⟩:=V7 cU;exact⟨ks,rfl,by simpa[maxLen]using aZ⟩
theorem D?{n:Nat}{us:V Vx.U}(h:Vx.OfTy Tryz.prog n 78 us): ∃x:aJ,us=aW x/\((x.Arcs.length<=9223372036854775807)):=by
  cases n with
  |zero=> exact h.elim|succ n=>
    simp only[Vx.OfTy,y?,ce78]at h;obtain⟨hl,hf⟩:=h
    match us,hl with
    |[u0,u1],_=>simp only[zI,List.not_mem_nil,or_false,forall_eq_or_imp,forall_eq,ce3,ce76,List.drop,List.take]at hf;obtain⟨h0,h1⟩:=hf;obtain⟨a0,e0⟩:=Io h0;simp only[List.cons.injEq,and_true]at e0;subst e0;obtain⟨a1,e1,k1⟩:=E? h1;simp only[List.cons.injEq,and_true]at e1;subst e1;exact⟨⟨a0,a1⟩,rfl,k1⟩
theorem V8{n:Nat}: ∀{l:V (V Vx.U)},(∀c∈l,Vx.OfTy Tryz.prog n 78 c)->∃ks:V aJ,l=ks.map aW/\∀q∈ks,(q.Arcs.length<=9223372036854775807)
  |[],_=> ⟨[],rfl,by simp⟩|c::l,h=> by obtain⟨d,rfl,hk⟩:=D? (h c (by simp));obtain⟨ks,rfl,tS⟩:=V8 (l:=l) fun x hx=> h x (by simp[hx]);exact⟨d::ks,rfl,by intro q hq;rcases zI.1 hq with rfl |hq;exact hk;exact tS q hq⟩
theorem G?{n:Nat}{us:V Vx.U}(h:Vx.OfTy Tryz.prog n 33 us): ∃x:V aJ,us=[.isl false (x.map aW)]/\(x.length<=9223372036854775807/\∀q∈x,(q.Arcs.length<=9223372036854775807)):=by cases n with|zero=> exact h.elim|succ n=>simp only[Vx.OfTy,B?]at h;obtain⟨l,hl,aZ,cU⟩:=h;subst hl;obtain⟨ks,rfl,tS⟩:=V8 cU;exact⟨ks,rfl,by simpa[maxLen]using aZ,tS⟩
theorem Su{n:Nat}{us:V Vx.U}(h:Vx.OfTy Tryz.prog n 40 us): ∃x:GFS,us=oG x/\((x.Nodes.length<=9223372036854775807/\∀q∈x.Nodes,(q.Arcs.length<=9223372036854775807))):=by
  cases n with
  |zero=> exact h.elim|succ n=>
    simp only[Vx.OfTy,Sf,Zd]at h;obtain⟨hl,hf⟩:=h
    match us,hl with
    |[u0],_=>simp only[zI,List.not_mem_nil,or_false,forall_eq_or_imp,forall_eq,ce33,List.drop,List.take]at hf;have h0:=hf;obtain⟨a0,e0,k0⟩:=G? h0;simp only[List.cons.injEq,and_true]at e0;subst e0;exact⟨⟨a0⟩,rfl,k0⟩
theorem F?{n:Nat}{us:V Vx.U}(h:Vx.OfTy Tryz.prog n 42 us): ∃x:qT,us=lE x/\(((x.F.Nodes.length<=9223372036854775807/\∀q∈x.F.Nodes,(q.Arcs.length<=9223372036854775807)))):=by
  cases n with
  |zero=> exact h.elim|succ n=>
    simp only[Vx.OfTy,A?,ce42]at h;obtain⟨hl,hf⟩:=h
    match us,hl with
    |[u0,u1,u2,u3],_=>simp only[zI,List.not_mem_nil,or_false,forall_eq_or_imp,forall_eq,ce3,Zd,List.drop,List.take]at hf;obtain⟨h0,h1,h2,h3⟩:=hf;obtain⟨a0,e0⟩:=Io h0;simp only[List.cons.injEq,and_true]at e0;subst e0;obtain⟨a1,e1⟩:=Io h1;simp only[List.cons.injEq,and_true]at e1;subst e1;obtain⟨a2,e2⟩:=Io h2;simp only[List.cons.injEq,and_true]at e2;subst e2;obtain⟨a3,e3,k3⟩:=Su h3;simp only[oG,List.cons.injEq,and_true]at e3;obtain⟨rfl⟩:=e3;exact⟨⟨a0,a1,a2,a3⟩,rfl,k3⟩
theorem V9{n:Nat}: ∀{l:V (V Vx.U)},(∀c∈l,Vx.OfTy Tryz.prog n 42 c)->∃ks:V qT,l=ks.map lE/\∀q∈ks,((q.F.Nodes.length<=9223372036854775807/\∀qq∈q.F.Nodes,(qq.Arcs.length<=9223372036854775807)))
  |[],_=> ⟨[],rfl,by simp⟩|c::l,h=> by obtain⟨d,rfl,hk⟩:=F? (h c (by simp));obtain⟨ks,rfl,tS⟩:=V9 (l:=l) fun x hx=> h x (by simp[hx]);exact⟨d::ks,rfl,by intro q hq;rcases zI.1 hq with rfl |hq;exact hk;exact tS q hq⟩
theorem H?{n:Nat}{us:V Vx.U}(h:Vx.OfTy Tryz.prog n 23 us): ∃x:V qT,us=[.isl false (x.map lE)]/\(x.length<=9223372036854775807/\∀q∈x,((q.F.Nodes.length<=9223372036854775807/\∀qq∈q.F.Nodes,(qq.Arcs.length<=9223372036854775807)))):=by cases n with|zero=> exact h.elim|succ n=>simp only[Vx.OfTy,Sh]at h;obtain⟨l,hl,aZ,cU⟩:=h;subst hl;obtain⟨ks,rfl,tS⟩:=V9 cU;exact⟨ks,rfl,by simpa[maxLen]using aZ,tS⟩
theorem Zs{u:Vx.U}(h:Vx.OfArg Tryz.prog 22 u): ∃x:V bL,u=.isl false (x.map bV)/\(x.length<=9223372036854775807/\∀q∈x,(q.Supers.length<=9223372036854775807)/\(q.Feats.length<=9223372036854775807)):=by obtain⟨n,us,h1,h2⟩:=h;simp only[Si]at h2;obtain⟨x,rfl,hk⟩:=I? h1;exact⟨x,by first |exact h2 |simpa using h2 |simpa using h2.symm,hk⟩
theorem Zr{u:Vx.U}(h:Vx.OfArg Tryz.prog 23 u): ∃x:V qT,u=.isl false (x.map lE)/\(x.length<=9223372036854775807/\∀q∈x,((q.F.Nodes.length<=9223372036854775807/\∀qq∈q.F.Nodes,(qq.Arcs.length<=9223372036854775807)))):=by obtain⟨n,us,h1,h2⟩:=h;simp only[Sh]at h2;obtain⟨x,rfl,hk⟩:=H? h1;exact⟨x,by first |exact h2 |simpa using h2 |simpa using h2.symm,hk⟩
theorem Zq{u:Vx.U}(h:Vx.OfArg Tryz.prog 40 u): ∃x:GFS,u=.agg (oG x)/\((x.Nodes.length<=9223372036854775807/\∀q∈x.Nodes,(q.Arcs.length<=9223372036854775807))):=by obtain⟨n,us,h1,h2⟩:=h;simp only[Sf]at h2;subst h2;obtain⟨x,rfl,hk⟩:=Su h1;exact⟨x,rfl,hk⟩
set_option maxRecDepth 100000 in
theorem lifted (os : Os) (started : os.Started) (H : Type) (enc : TypeId × O -> H) :
    ReturnsInHanded {} Tryz.checked os 8 .any (Rows.trailLoadsSpec.pre6 enc Tryz.prog Tryz.f8 Rows.trailLoadsRow.domain false) (Rows.trailLoadsSpec.post enc Tryz.prog Tryz.f8 false true false false):=by
  refine returnsInHanded_of_change (C:=Tryz.checked) own started (by kernel_rfl) Tryz.func8
    (ChangeSpec.witness6 (enc:=enc) (C:=Tryz.checked) false ⟨#[], #[.slice none 0 0, .slice none 0 0, .agg #[.slice none 0 0]],[]⟩ 8 (by kernel_rfl) (by kernel_rfl) (by kernel_rfl) (by kernel_rfl)) ?_
  intro W base args ds gs before TO hW hcnd _;have eP : ∀(j:Nat) t v,Tryz.f8.params[j]? = some t->args[j]? = some v->Value.okWide Tryz.prog W .any base t v:=TO;have hW':=hW;obtain⟨p,q,hA0,hV,rfl,Vn,E9⟩:=hW;have hA:DataW.TrodAll enc Tryz.prog W 0 (fun _=> true) true Tryz.f8.params.toList args.toList ds p:=hA0;rw[Tryz.params8]at hA eP;obtain⟨us,k1,k2,k3⟩:=Vx.args_rep closed (by decide) (fun j t v h1 h2=> eP j t v (by simpa using h1) (by simpa using h2)) hA;obtain⟨v0,VV,d0,Jt,p0,q0,hargs0,rfl,rfl,h0,r0⟩:=trodAll_cons hA;obtain⟨v1,tf,d1,L9,p1,q1,hargs1,rfl,rfl,h1,r1⟩:=trodAll_cons r0;obtain⟨v2,IB,d2,ds2,p2,q2,hargs2,rfl,rfl,h2,r2⟩:=trodAll_cons r1;obtain⟨rfl,rfl,rfl⟩:=trodAll_nil r2;obtain⟨rfl,rfl⟩:=trodVars_none hV;simp only[Vx.OfArgs]at k3;obtain⟨u0,zh,rfl,m0,u1,us1,rfl,m1,u2,us2,rfl,m2,rfl⟩:=k3;obtain⟨X0,rfl,v14⟩:=Zs m0;obtain⟨v01,rfl,H1⟩:=Zr m1;obtain⟨X2,rfl,v15⟩:=Zq m2;clear hA0 TO;refine(Vx.law_calls ((qmd _ X0 v01 X2 true (z68 X0 v01 X2 H1.1 (zF _))).mono fun u s h=> h.1) k1 k2).mono fun e W' ⟨he,hg⟩=> ?_;subst he;exact⟨_,rfl,Rx.law_post hW' laid (by kernel_rfl) hg rfl rfl Tryz.underlying4 rfl rfl rfl⟩
theorem over:Rows.trailLoadsRow.holds Tryz.pinned (OpenSpec.ofChange Rows.trailLoadsSpec):=
  OpenClaim.holds_of_wide 8 Tryz.f8 rfl rfl rfl rfl rfl rfl rfl ⟨rfl,rfl,rfl,rfl,rfl⟩ rfl rfl rfl rfl rfl (by kernel_rfl) Tryz.func8 (by kernel_rfl)
    (of_decide_eq_true (by kernel_rfl)) (by unfold Func.isWrapper;first |(rw[if_pos (by decide+kernel)];kernel_rfl)|(rw[if_neg (by decide+kernel)];exact⟨rfl,rfl⟩))
    (fun os started H enc _=> lifted os started H enc)
theorem proved:Rows.TrailLoadsSaid :=
  over
#print axioms proved
end Go.Proofs.YtldlchbgolpkaaaGreat.trailLoads
