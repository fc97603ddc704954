import Derived.Test.YtldlchbgolpkaaaGreatRows
import Derived.WalkKit
import Derived.ProofKit
import Derived.OpenShut
import Derived.Test.YtldlchbgolpkaaaGreatP20
namespace Go.Proofs.YtldlchbgolpkaaaGreat.trailOrders
open Go.ChangeShapes Go.WideShapes Go.ChangeAt Go.RowKit
set_option linter.unusedVariables false
set_option linter.unusedSimpArgs false
set_option maxRecDepth 20000

theorem own:ownKnob Tryz.prog.godebug=none:=by kernel_rfl
theorem laid:laidOutB Tryz.prog=true:=by kernel_rfl
theorem Ny:Tryz.prog.underlying 22=some (.slice 138):=by kernel_rfl
theorem ce22:Tryz.prog.cellsOf 22=1:=by kernel_rfl
theorem Oa : Tryz.prog.underlying 138 = some (.struct #[⟨ "Name", 9, 0, false, "", "", 0⟩, ⟨ "Supers", 135, 1, false, "", "", 16⟩, ⟨ "Feats", 136, 2, false, "", "", 40⟩]) := by kernel_rfl
theorem Ua:Tryz.prog.cellsOf 138=3:=by kernel_rfl
theorem pu9:Tryz.prog.underlying 9=some (.string):=by kernel_rfl
theorem ce9:Tryz.prog.cellsOf 9=1:=by kernel_rfl
theorem Oc:Tryz.prog.underlying 135=some (.slice 9):=by kernel_rfl
theorem Uc:Tryz.prog.cellsOf 135=1:=by kernel_rfl
theorem v02:Tryz.prog.underlying 136=some (.slice 141):=by kernel_rfl
theorem Ub:Tryz.prog.cellsOf 136=1:=by kernel_rfl
theorem Nz : Tryz.prog.underlying 141 = some (.struct #[⟨ "Feat", 9, 0, false, "", "", 0⟩, ⟨ "Value", 9, 1, false, "", "", 16⟩]) := by kernel_rfl
theorem Tz:Tryz.prog.cellsOf 141=2:=by kernel_rfl
theorem Nx:Tryz.prog.underlying 48=some (.slice 40):=by kernel_rfl
theorem ce48:Tryz.prog.cellsOf 48=1:=by kernel_rfl
theorem cr : Tryz.prog.underlying 40 = some (.struct #[⟨ "Nodes", 33, 0, false, "", "", 0⟩]) := by kernel_rfl
theorem np:Tryz.prog.cellsOf 40=1:=by kernel_rfl
theorem ct:Tryz.prog.underlying 33=some (.slice 78):=by kernel_rfl
theorem nq:Tryz.prog.cellsOf 33=1:=by kernel_rfl
theorem co : Tryz.prog.underlying 78 = some (.struct #[⟨ "Type", 3, 0, false, "", "", 0⟩, ⟨ "Arcs", 76, 1, false, "", "", 8⟩]) := by kernel_rfl
theorem nl:Tryz.prog.cellsOf 78=2:=by kernel_rfl
theorem pu3:Tryz.prog.underlying 3=some (.int .i64):=by kernel_rfl
theorem ce3:Tryz.prog.cellsOf 3=1:=by kernel_rfl
theorem cq:Tryz.prog.underlying 76=some (.slice 98):=by kernel_rfl
theorem nn:Tryz.prog.cellsOf 76=1:=by kernel_rfl
theorem cj : Tryz.prog.underlying 98 = some (.struct #[⟨ "Feat", 3, 0, false, "", "", 0⟩, ⟨ "To", 3, 1, false, "", "", 8⟩]) := by kernel_rfl
theorem nk:Tryz.prog.cellsOf 98=2:=by kernel_rfl
theorem closed:Vx.closedTS Tryz.prog [22, 138, 9, 135, 136, 141, 48, 40, 33, 78, 3, 76, 98]=true:=by kernel_rfl
theorem xk{n:Nat}{us:List Vx.U}(h:Vx.OfTy Tryz.prog n 9 us): ∃s,us=[.str s]:=by
  cases n with|zero=> exact h.elim|succ n=> simp only[Vx.OfTy,pu9]at h;obtain⟨i,rfl,_⟩:=h;exact⟨i,rfl⟩
theorem I7{n:Nat}: ∀{l:List (List Vx.U)},(∀c∈l,Vx.OfTy Tryz.prog n 9 c)->∃ks:List (List UInt8),l=ks.map Vx.cS
  |[],_=> ⟨[],rfl⟩|c::l,h=> by obtain⟨d,rfl⟩:=xk (h c (by simp));obtain⟨ks,rfl⟩:=I7 (l:=l) fun x hx=> h x (by simp[hx]);exact⟨d::ks,rfl⟩
theorem Ol{n:Nat}{us:List Vx.U}(h:Vx.OfTy Tryz.prog n 135 us): ∃x:List (List UInt8),us=[.isl false (x.map Vx.cS)]/\(x.length<=9223372036854775807):=by
  cases n with|zero=> exact h.elim|succ n=>simp only[Vx.OfTy,Oc]at h;obtain⟨l,hl,aU,cH⟩:=h;subst hl;obtain⟨ks,rfl⟩:=I7 cH;exact⟨ks,rfl,by simpa[maxLen]using aU⟩
theorem Oi{n:Nat}{us:List Vx.U}(h:Vx.OfTy Tryz.prog n 141 us): ∃x:nS,us=kP x:=by
  cases n with
  |zero=> exact h.elim|succ n=>
    simp only[Vx.OfTy,Nz,Tz]at h;obtain⟨hl,hf⟩:=h
    match us,hl with
    |[u0,u1],_=>simp only[zI,List.not_mem_nil,or_false,forall_eq_or_imp,forall_eq,ce9,List.drop,List.take]at hf;obtain⟨h0,h1⟩:=hf;obtain⟨a0,e0⟩:=xk h0;simp only[List.cons.injEq,and_true]at e0;subst e0;obtain⟨a1,e1⟩:=xk h1;simp only[List.cons.injEq,and_true]at e1;subst e1;exact⟨⟨a0,a1⟩,rfl⟩
theorem I6{n:Nat}: ∀{l:List (List Vx.U)},(∀c∈l,Vx.OfTy Tryz.prog n 141 c)->∃ks:List nS,l=ks.map kP
  |[],_=> ⟨[],rfl⟩|c::l,h=> by obtain⟨d,rfl⟩:=Oi (h c (by simp));obtain⟨ks,rfl⟩:=I6 (l:=l) fun x hx=> h x (by simp[hx]);exact⟨d::ks,rfl⟩
theorem Ok{n:Nat}{us:List Vx.U}(h:Vx.OfTy Tryz.prog n 136 us): ∃x:List nS,us=[.isl false (x.map kP)]/\(x.length<=9223372036854775807):=by
  cases n with|zero=> exact h.elim|succ n=>simp only[Vx.OfTy,v02]at h;obtain⟨l,hl,aU,cH⟩:=h;subst hl;obtain⟨ks,rfl⟩:=I6 cH;exact⟨ks,rfl,by simpa[maxLen]using aU⟩
theorem Oj{n:Nat}{us:List Vx.U}(h:Vx.OfTy Tryz.prog n 138 us): ∃x:bG,us=bQ x/\((x.Supers.length<=9223372036854775807)/\(x.Feats.length<=9223372036854775807)):=by
  cases n with
  |zero=> exact h.elim|succ n=>
    simp only[Vx.OfTy,Oa,Ua]at h;obtain⟨hl,hf⟩:=h
    match us,hl with
    |[u0,u1,u2],_=>simp only[zI,List.not_mem_nil,or_false,forall_eq_or_imp,forall_eq,Uc,Ub,ce9,List.drop,List.take]at hf;obtain⟨h0,h1,h2⟩:=hf;obtain⟨a0,e0⟩:=xk h0;simp only[List.cons.injEq,and_true]at e0;subst e0;obtain⟨a1,e1,k1⟩:=Ol h1;simp only[List.cons.injEq,and_true]at e1;subst e1;obtain⟨a2,e2,k2⟩:=Ok h2;simp only[List.cons.injEq,and_true]at e2;subst e2;exact⟨⟨a0,a1,a2⟩,rfl,⟨k1,k2⟩⟩
theorem SH{n:Nat}: ∀{l:List (List Vx.U)},(∀c∈l,Vx.OfTy Tryz.prog n 138 c)->∃ks:List bG,l=ks.map bQ/\∀q∈ks,(q.Supers.length<=9223372036854775807)/\(q.Feats.length<=9223372036854775807)
  |[],_=> ⟨[],rfl,by simp⟩|c::l,h=> by obtain⟨d,rfl,hk⟩:=Oj (h c (by simp));obtain⟨ks,rfl,qW⟩:=SH (l:=l) fun x hx=> h x (by simp[hx]);exact⟨d::ks,rfl,by intro q hq;rcases zI.1 hq with rfl |hq;exact hk;exact qW q hq⟩
theorem eo{n:Nat}{us:List Vx.U}(h:Vx.OfTy Tryz.prog n 22 us): ∃x:List bG,us=[.isl false (x.map bQ)]/\(x.length<=9223372036854775807/\∀q∈x,(q.Supers.length<=9223372036854775807)/\(q.Feats.length<=9223372036854775807)):=by
  cases n with|zero=> exact h.elim|succ n=>simp only[Vx.OfTy,Ny]at h;obtain⟨l,hl,aU,cH⟩:=h;subst hl;obtain⟨ks,rfl,qW⟩:=SH cH;exact⟨ks,rfl,by simpa[maxLen]using aU,qW⟩
theorem ei{n:Nat}{us:List Vx.U}(h:Vx.OfTy Tryz.prog n 3 us): ∃i,us=[.int .i64 i]:=by
  cases n with|zero=> exact h.elim|succ n=> simp only[Vx.OfTy,pu3]at h;obtain⟨i,rfl,_⟩:=h;exact⟨i,rfl⟩
theorem cy{n:Nat}{us:List Vx.U}(h:Vx.OfTy Tryz.prog n 98 us): ∃x:aF,us=aQ x:=by
  cases n with
  |zero=> exact h.elim|succ n=>
    simp only[Vx.OfTy,cj,nk]at h;obtain⟨hl,hf⟩:=h
    match us,hl with
    |[u0,u1],_=>simp only[zI,List.not_mem_nil,or_false,forall_eq_or_imp,forall_eq,ce3,List.drop,List.take]at hf;obtain⟨h0,h1⟩:=hf;obtain⟨a0,e0⟩:=ei h0;simp only[List.cons.injEq,and_true]at e0;subst e0;obtain⟨a1,e1⟩:=ei h1;simp only[List.cons.injEq,and_true]at e1;subst e1;exact⟨⟨a0,a1⟩,rfl⟩
theorem SE{n:Nat}: ∀{l:List (List Vx.U)},(∀c∈l,Vx.OfTy Tryz.prog n 98 c)->∃ks:List aF,l=ks.map aQ
  |[],_=> ⟨[],rfl⟩|c::l,h=> by obtain⟨d,rfl⟩:=cy (h c (by simp));obtain⟨ks,rfl⟩:=SE (l:=l) fun x hx=> h x (by simp[hx]);exact⟨d::ks,rfl⟩
theorem ed{n:Nat}{us:List Vx.U}(h:Vx.OfTy Tryz.prog n 76 us): ∃x:List aF,us=[.isl false (x.map aQ)]/\(x.length<=9223372036854775807):=by
  cases n with|zero=> exact h.elim|succ n=>simp only[Vx.OfTy,cq]at h;obtain⟨l,hl,aU,cH⟩:=h;subst hl;obtain⟨ks,rfl⟩:=SE cH;exact⟨ks,rfl,by simpa[maxLen]using aU⟩
theorem cz{n:Nat}{us:List Vx.U}(h:Vx.OfTy Tryz.prog n 78 us): ∃x:aT,us=bM x/\((x.Arcs.length<=9223372036854775807)):=by
  cases n with
  |zero=> exact h.elim|succ n=>
    simp only[Vx.OfTy,co,nl]at h;obtain⟨hl,hf⟩:=h
    match us,hl with
    |[u0,u1],_=>simp only[zI,List.not_mem_nil,or_false,forall_eq_or_imp,forall_eq,ce3,nn,List.drop,List.take]at hf;obtain⟨h0,h1⟩:=hf;obtain⟨a0,e0⟩:=ei h0;simp only[List.cons.injEq,and_true]at e0;subst e0;obtain⟨a1,e1,k1⟩:=ed h1;simp only[List.cons.injEq,and_true]at e1;subst e1;exact⟨⟨a0,a1⟩,rfl,k1⟩
theorem SG{n:Nat}: ∀{l:List (List Vx.U)},(∀c∈l,Vx.OfTy Tryz.prog n 78 c)->∃ks:List aT,l=ks.map bM/\∀q∈ks,(q.Arcs.length<=9223372036854775807)
  |[],_=> ⟨[],rfl,by simp⟩|c::l,h=> by obtain⟨d,rfl,hk⟩:=cz (h c (by simp));obtain⟨ks,rfl,qW⟩:=SG (l:=l) fun x hx=> h x (by simp[hx]);exact⟨d::ks,rfl,by intro q hq;rcases zI.1 hq with rfl |hq;exact hk;exact qW q hq⟩
theorem eh{n:Nat}{us:List Vx.U}(h:Vx.OfTy Tryz.prog n 33 us): ∃x:List aT,us=[.isl false (x.map bM)]/\(x.length<=9223372036854775807/\∀q∈x,(q.Arcs.length<=9223372036854775807)):=by
  cases n with|zero=> exact h.elim|succ n=>simp only[Vx.OfTy,ct]at h;obtain⟨l,hl,aU,cH⟩:=h;subst hl;obtain⟨ks,rfl,qW⟩:=SG cH;exact⟨ks,rfl,by simpa[maxLen]using aU,qW⟩
theorem ef{n:Nat}{us:List Vx.U}(h:Vx.OfTy Tryz.prog n 40 us): ∃x:GFS,us=jJ x/\((x.Nodes.length<=9223372036854775807/\∀q∈x.Nodes,(q.Arcs.length<=9223372036854775807))):=by
  cases n with
  |zero=> exact h.elim|succ n=>
    simp only[Vx.OfTy,cr,np]at h;obtain⟨hl,hf⟩:=h
    match us,hl with
    |[u0],_=>simp only[zI,List.not_mem_nil,or_false,forall_eq_or_imp,forall_eq,nq,List.drop,List.take]at hf;have h0:=hf;obtain⟨a0,e0,k0⟩:=eh h0;simp only[List.cons.injEq,and_true]at e0;subst e0;exact⟨⟨a0⟩,rfl,k0⟩
theorem SF{n:Nat}: ∀{l:List (List Vx.U)},(∀c∈l,Vx.OfTy Tryz.prog n 40 c)->∃ks:List GFS,l=ks.map jJ/\∀q∈ks,(q.Nodes.length<=9223372036854775807/\∀qq∈q.Nodes,(qq.Arcs.length<=9223372036854775807))
  |[],_=> ⟨[],rfl,by simp⟩|c::l,h=> by obtain⟨d,rfl,hk⟩:=ef (h c (by simp));obtain⟨ks,rfl,qW⟩:=SF (l:=l) fun x hx=> h x (by simp[hx]);exact⟨d::ks,rfl,by intro q hq;rcases zI.1 hq with rfl |hq;exact hk;exact qW q hq⟩
theorem ee{n:Nat}{us:List Vx.U}(h:Vx.OfTy Tryz.prog n 48 us): ∃x:List GFS,us=[.isl false (x.map jJ)]/\(x.length<=9223372036854775807/\∀q∈x,(q.Nodes.length<=9223372036854775807/\∀qq∈q.Nodes,(qq.Arcs.length<=9223372036854775807))):=by
  cases n with|zero=> exact h.elim|succ n=>simp only[Vx.OfTy,Nx]at h;obtain⟨l,hl,aU,cH⟩:=h;subst hl;obtain⟨ks,rfl,qW⟩:=SF cH;exact⟨ks,rfl,by simpa[maxLen]using aU,qW⟩
theorem Un{u:Vx.U}(h:Vx.OfArg Tryz.prog 22 u): ∃x:List bG,u=.isl false (x.map bQ)/\(x.length<=9223372036854775807/\∀q∈x,(q.Supers.length<=9223372036854775807)/\(q.Feats.length<=9223372036854775807)):=by
  obtain⟨n,us,h1,h2⟩:=h;simp only[Ny]at h2;obtain⟨x,rfl,hk⟩:=eo h1;exact⟨x,by first |exact h2 |simpa using h2 |simpa using h2.symm,hk⟩
theorem Um{u:Vx.U}(h:Vx.OfArg Tryz.prog 48 u): ∃x:List GFS,u=.isl false (x.map jJ)/\(x.length<=9223372036854775807/\∀q∈x,(q.Nodes.length<=9223372036854775807/\∀qq∈q.Nodes,(qq.Arcs.length<=9223372036854775807))):=by
  obtain⟨n,us,h1,h2⟩:=h;simp only[Nx]at h2;obtain⟨x,rfl,hk⟩:=ee h1;exact⟨x,by first |exact h2 |simpa using h2 |simpa using h2.symm,hk⟩
set_option maxRecDepth 100000 in
theorem lifted (os : Os) (started : os.Started) (v06 : Type) (enc : TypeId × Value -> v06) :
    ReturnsInHanded {} Tryz.checked os 7 .any (Rows.trailOrdersSpec.pre6 enc Tryz.prog Tryz.f7 Rows.trailOrdersRow.domain false) (Rows.trailOrdersSpec.post enc Tryz.prog Tryz.f7 false true false false):=by
  refine returnsInHanded_of_change (C:=Tryz.checked) own started (by kernel_rfl) Tryz.func7
    (ChangeSpec.witness6 (enc:=enc) (C:=Tryz.checked) false ⟨#[], #[.slice none 0 0, .slice none 0 0],[]⟩ 7 (by kernel_rfl) (by kernel_rfl) (by kernel_rfl) (by kernel_rfl)) ?_
  intro W base args ds gs before QW hW hcnd _;have eC : ∀(j:Nat) t v,Tryz.f7.params[j]? = some t->args[j]? = some v->Value.okWide Tryz.prog W .any base t v:=QW;have fy:=hW;obtain⟨p,q,hA0,hV,rfl,Ra,K3⟩:=hW;have hA:DataW.TrodAll enc Tryz.prog W 0 (fun _=> true) true Tryz.f7.params.toList args.toList ds p:=hA0;rw[Tryz.params7]at hA eC;obtain⟨us,k1,k2,k3⟩:=Vx.args_rep closed (by decide) (fun j t v h1 h2=> eC j t v (by simpa using h1) (by simpa using h2)) hA;obtain⟨v0,Gj,d0,ds0,p0,q0,fp,rfl,rfl,h0,r0⟩:=trodAll_cons hA;obtain⟨v1,C?,d1,I8,p1,q1,fm,rfl,rfl,h1,r1⟩:=trodAll_cons r0;obtain⟨rfl,rfl,rfl⟩:=trodAll_nil r1;obtain⟨rfl,rfl⟩:=trodVars_none hV;simp only[Vx.OfArgs]at k3;obtain⟨u0,Ve,rfl,m0,u1,us1,rfl,m1,rfl⟩:=k3;obtain⟨X0,rfl,H0⟩:=Un m0;obtain⟨X1,rfl,H1⟩:=Um m1;clear hA0 QW;refine(Vx.law_calls ((qib _ X0 X1 true (qxw X0 X1 (zF _))).mono fun u s h=> h.1) k1 k2).mono fun e W' ⟨he,hg⟩=> ?_;subst he;exact⟨_,rfl,Rx.law_post fy laid (by kernel_rfl) hg rfl rfl Tryz.underlying4 rfl rfl rfl⟩
theorem over:Rows.trailOrdersRow.holds Tryz.pinned (OpenSpec.ofChange Rows.trailOrdersSpec):=
  OpenClaim.holds_of_wide 7 Tryz.f7 rfl rfl rfl rfl rfl rfl rfl ⟨rfl,rfl,rfl,rfl,rfl⟩ rfl rfl rfl rfl rfl (by kernel_rfl) Tryz.func7 (by kernel_rfl)
    (of_decide_eq_true (by kernel_rfl)) (by unfold Func.isWrapper;first |(rw[if_pos (by decide+kernel)];kernel_rfl)|(rw[if_neg (by decide+kernel)];exact⟨rfl,rfl⟩))
    (fun os started v06 enc _=> lifted os started v06 enc)
theorem proved:Rows.TrailOrdersSaid :=
  over
#print axioms proved
end Go.Proofs.YtldlchbgolpkaaaGreat.trailOrders
