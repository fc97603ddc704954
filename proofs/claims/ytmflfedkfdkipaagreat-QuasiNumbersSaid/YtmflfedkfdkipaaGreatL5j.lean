import Derived.Test.YtmflfedkfdkipaaGreatRows
import Derived.WalkKit
import Derived.ProofKit
import Derived.OpenShut
import Derived.Test.YtmflfedkfdkipaaGreatP19
namespace Go.Proofs.YtmflfedkfdkipaaGreat.quasiNumbers
open Go.ChangeShapes Go.WideShapes Go.ChangeAt Go.RowKit
set_option linter.unusedVariables false
set_option linter.unusedSimpArgs false
set_option maxRecDepth 20000

theorem own:ownKnob Tryz.prog.godebug=none:=by kernel_rfl
theorem laid:laidOutB Tryz.prog=true:=by kernel_rfl
theorem XP:Tryz.prog.underlying 22=some (.slice 153):=by kernel_rfl
theorem g_:Tryz.prog.cellsOf 22=1:=by kernel_rfl
theorem XR : Tryz.prog.underlying 153 = some (.struct #[⟨ "Name", 9, 0, false, "", "", 0⟩, ⟨ "Supers", 150, 1, false, "", "", 16⟩, ⟨ "Feats", 151, 2, false, "", "", 40⟩]) := by kernel_rfl
theorem Ao:Tryz.prog.cellsOf 153=3:=by kernel_rfl
theorem nu:Tryz.prog.underlying 9=some (.string):=by kernel_rfl
theorem vt:Tryz.prog.cellsOf 9=1:=by kernel_rfl
theorem XT:Tryz.prog.underlying 150=some (.slice 9):=by kernel_rfl
theorem Aq:Tryz.prog.cellsOf 150=1:=by kernel_rfl
theorem XS:Tryz.prog.underlying 151=some (.slice 156):=by kernel_rfl
theorem Ap:Tryz.prog.cellsOf 151=1:=by kernel_rfl
theorem XQ : Tryz.prog.underlying 156 = some (.struct #[⟨ "Feat", 9, 0, false, "", "", 0⟩, ⟨ "Value", 9, 1, false, "", "", 16⟩]) := by kernel_rfl
theorem An:Tryz.prog.cellsOf 156=2:=by kernel_rfl
theorem XO:Tryz.prog.underlying 33=some (.slice 39):=by kernel_rfl
theorem f_:Tryz.prog.cellsOf 33=1:=by kernel_rfl
theorem Rl : Tryz.prog.underlying 39 = some (.struct #[⟨ "Nodes", 37, 0, false, "", "", 0⟩]) := by kernel_rfl
theorem Tu:Tryz.prog.cellsOf 39=1:=by kernel_rfl
theorem Rm:Tryz.prog.underlying 37=some (.slice 79):=by kernel_rfl
theorem Tv:Tryz.prog.cellsOf 37=1:=by kernel_rfl
theorem Rj : Tryz.prog.underlying 79 = some (.struct #[⟨ "Type", 3, 0, false, "", "", 0⟩, ⟨ "Arcs", 77, 1, false, "", "", 8⟩]) := by kernel_rfl
theorem Ts:Tryz.prog.cellsOf 79=2:=by kernel_rfl
theorem kg:Tryz.prog.underlying 3=some (.int .i64):=by kernel_rfl
theorem vz:Tryz.prog.cellsOf 3=1:=by kernel_rfl
theorem Rk:Tryz.prog.underlying 77=some (.slice 105):=by kernel_rfl
theorem Tt:Tryz.prog.cellsOf 77=1:=by kernel_rfl
theorem XU : Tryz.prog.underlying 105 = some (.struct #[⟨ "Feat", 3, 0, false, "", "", 0⟩, ⟨ "To", 3, 1, false, "", "", 8⟩]) := by kernel_rfl
theorem Ar:Tryz.prog.cellsOf 105=2:=by kernel_rfl
theorem closed:Vx.closedTS Tryz.prog [22, 153, 9, 150, 151, 156, 33, 39, 37, 79, 3, 77, 105]=true:=by kernel_rfl
theorem Iu{n:Nat}{us:List Vx.U}(h:Vx.OfTy Tryz.prog n 9 us): ∃s,us=[.str s]:=by
  cases n with|zero=> exact h.elim|succ n=> simp only[Vx.OfTy,nu]at h;obtain⟨i,rfl,_⟩:=h;exact⟨i,rfl⟩
theorem zP{n:Nat}: ∀{l:List (List Vx.U)},(∀c∈l,Vx.OfTy Tryz.prog n 9 c)->∃ks:List (List UInt8),l=ks.map Vx.cS
  |[],_=> ⟨[],rfl⟩|c::l,h=> by obtain⟨d,rfl⟩:=Iu (h c (by simp));obtain⟨ks,rfl⟩:=zP (l:=l) fun x hx=> h x (by simp[hx]);exact⟨d::ks,rfl⟩
theorem Y9{n:Nat}{us:List Vx.U}(h:Vx.OfTy Tryz.prog n 150 us): ∃x:List (List UInt8),us=[.isl false (x.map Vx.cS)]/\(x.length<=9223372036854775807):=by
  cases n with|zero=> exact h.elim|succ n=>simp only[Vx.OfTy,XT]at h;obtain⟨l,hl,hlen,hall⟩:=h;subst hl;obtain⟨ks,rfl⟩:=zP hall;exact⟨ks,rfl,by simpa[maxLen]using hlen⟩
theorem Y6{n:Nat}{us:List Vx.U}(h:Vx.OfTy Tryz.prog n 156 us): ∃x:jI,us=gG x:=by
  cases n with
  |zero=> exact h.elim|succ n=>
    simp only[Vx.OfTy,XQ,An]at h;obtain⟨hl,hf⟩:=h
    match us,hl with
    |[u0,u1],_=>simp only[zI,List.not_mem_nil,or_false,forall_eq_or_imp,forall_eq,vt,List.drop,List.take]at hf;obtain⟨h0,h1⟩:=hf;obtain⟨a0,e0⟩:=Iu h0;simp only[List.cons.injEq,and_true]at e0;subst e0;obtain⟨a1,e1⟩:=Iu h1;simp only[List.cons.injEq,and_true]at e1;subst e1;exact⟨⟨a0,a1⟩,rfl⟩
theorem zE{n:Nat}: ∀{l:List (List Vx.U)},(∀c∈l,Vx.OfTy Tryz.prog n 156 c)->∃ks:List jI,l=ks.map gG
  |[],_=> ⟨[],rfl⟩|c::l,h=> by obtain⟨d,rfl⟩:=Y6 (h c (by simp));obtain⟨ks,rfl⟩:=zE (l:=l) fun x hx=> h x (by simp[hx]);exact⟨d::ks,rfl⟩
theorem Y8{n:Nat}{us:List Vx.U}(h:Vx.OfTy Tryz.prog n 151 us): ∃x:List jI,us=[.isl false (x.map gG)]/\(x.length<=9223372036854775807):=by
  cases n with|zero=> exact h.elim|succ n=>simp only[Vx.OfTy,XS]at h;obtain⟨l,hl,hlen,hall⟩:=h;subst hl;obtain⟨ks,rfl⟩:=zE hall;exact⟨ks,rfl,by simpa[maxLen]using hlen⟩
theorem Y7{n:Nat}{us:List Vx.U}(h:Vx.OfTy Tryz.prog n 153 us): ∃x:aT,us=aX x/\((x.Supers.length<=9223372036854775807)/\(x.Feats.length<=9223372036854775807)):=by
  cases n with
  |zero=> exact h.elim|succ n=>
    simp only[Vx.OfTy,XR,Ao]at h;obtain⟨hl,hf⟩:=h
    match us,hl with
    |[u0,u1,u2],_=>simp only[zI,List.not_mem_nil,or_false,forall_eq_or_imp,forall_eq,Aq,Ap,vt,List.drop,List.take]at hf;obtain⟨h0,h1,h2⟩:=hf;obtain⟨a0,e0⟩:=Iu h0;simp only[List.cons.injEq,and_true]at e0;subst e0;obtain⟨a1,e1,k1⟩:=Y9 h1;simp only[List.cons.injEq,and_true]at e1;subst e1;obtain⟨a2,e2,k2⟩:=Y8 h2;simp only[List.cons.injEq,and_true]at e2;subst e2;exact⟨⟨a0,a1,a2⟩,rfl,⟨k1,k2⟩⟩
theorem I5{n:Nat}: ∀{l:List (List Vx.U)},(∀c∈l,Vx.OfTy Tryz.prog n 153 c)->∃ks:List aT,l=ks.map aX/\∀q∈ks,(q.Supers.length<=9223372036854775807)/\(q.Feats.length<=9223372036854775807)
  |[],_=> ⟨[],rfl,by simp⟩|c::l,h=> by obtain⟨d,rfl,hk⟩:=Y7 (h c (by simp));obtain⟨ks,rfl,hks⟩:=I5 (l:=l) fun x hx=> h x (by simp[hx]);exact⟨d::ks,rfl,by intro q hq;rcases zI.1 hq with rfl |hq;exact hk;exact hks q hq⟩
theorem Ru{n:Nat}{us:List Vx.U}(h:Vx.OfTy Tryz.prog n 22 us): ∃x:List aT,us=[.isl false (x.map aX)]/\(x.length<=9223372036854775807/\∀q∈x,(q.Supers.length<=9223372036854775807)/\(q.Feats.length<=9223372036854775807)):=by
  cases n with|zero=> exact h.elim|succ n=>simp only[Vx.OfTy,XP]at h;obtain⟨l,hl,hlen,hall⟩:=h;subst hl;obtain⟨ks,rfl,hks⟩:=I5 hall;exact⟨ks,rfl,by simpa[maxLen]using hlen,hks⟩
theorem Iv{n:Nat}{us:List Vx.U}(h:Vx.OfTy Tryz.prog n 3 us): ∃i,us=[.int .i64 i]:=by
  cases n with|zero=> exact h.elim|succ n=> simp only[Vx.OfTy,kg]at h;obtain⟨i,rfl,_⟩:=h;exact⟨i,rfl⟩
theorem YA{n:Nat}{us:List Vx.U}(h:Vx.OfTy Tryz.prog n 105 us): ∃x:bE,us=c6 x:=by
  cases n with
  |zero=> exact h.elim|succ n=>
    simp only[Vx.OfTy,XU,Ar]at h;obtain⟨hl,hf⟩:=h
    match us,hl with
    |[u0,u1],_=>simp only[zI,List.not_mem_nil,or_false,forall_eq_or_imp,forall_eq,vz,List.drop,List.take]at hf;obtain⟨h0,h1⟩:=hf;obtain⟨a0,e0⟩:=Iv h0;simp only[List.cons.injEq,and_true]at e0;subst e0;obtain⟨a1,e1⟩:=Iv h1;simp only[List.cons.injEq,and_true]at e1;subst e1;exact⟨⟨a0,a1⟩,rfl⟩
theorem I2{n:Nat}: ∀{l:List (List Vx.U)},(∀c∈l,Vx.OfTy Tryz.prog n 105 c)->∃ks:List bE,l=ks.map c6
  |[],_=> ⟨[],rfl⟩|c::l,h=> by obtain⟨d,rfl⟩:=YA (h c (by simp));obtain⟨ks,rfl⟩:=I2 (l:=l) fun x hx=> h x (by simp[hx]);exact⟨d::ks,rfl⟩
theorem Rq{n:Nat}{us:List Vx.U}(h:Vx.OfTy Tryz.prog n 77 us): ∃x:List bE,us=[.isl false (x.map c6)]/\(x.length<=9223372036854775807):=by
  cases n with|zero=> exact h.elim|succ n=>simp only[Vx.OfTy,Rk]at h;obtain⟨l,hl,hlen,hall⟩:=h;subst hl;obtain⟨ks,rfl⟩:=I2 hall;exact⟨ks,rfl,by simpa[maxLen]using hlen⟩
theorem Rp{n:Nat}{us:List Vx.U}(h:Vx.OfTy Tryz.prog n 79 us): ∃x:bS,us=bM x/\((x.Arcs.length<=9223372036854775807)):=by
  cases n with
  |zero=> exact h.elim|succ n=>
    simp only[Vx.OfTy,Rj,Ts]at h;obtain⟨hl,hf⟩:=h
    match us,hl with
    |[u0,u1],_=>simp only[zI,List.not_mem_nil,or_false,forall_eq_or_imp,forall_eq,vz,Tt,List.drop,List.take]at hf;obtain⟨h0,h1⟩:=hf;obtain⟨a0,e0⟩:=Iv h0;simp only[List.cons.injEq,and_true]at e0;subst e0;obtain⟨a1,e1,k1⟩:=Rq h1;simp only[List.cons.injEq,and_true]at e1;subst e1;exact⟨⟨a0,a1⟩,rfl,k1⟩
theorem I3{n:Nat}: ∀{l:List (List Vx.U)},(∀c∈l,Vx.OfTy Tryz.prog n 79 c)->∃ks:List bS,l=ks.map bM/\∀q∈ks,(q.Arcs.length<=9223372036854775807)
  |[],_=> ⟨[],rfl,by simp⟩|c::l,h=> by obtain⟨d,rfl,hk⟩:=Rp (h c (by simp));obtain⟨ks,rfl,hks⟩:=I3 (l:=l) fun x hx=> h x (by simp[hx]);exact⟨d::ks,rfl,by intro q hq;rcases zI.1 hq with rfl |hq;exact hk;exact hks q hq⟩
theorem Rs{n:Nat}{us:List Vx.U}(h:Vx.OfTy Tryz.prog n 37 us): ∃x:List bS,us=[.isl false (x.map bM)]/\(x.length<=9223372036854775807/\∀q∈x,(q.Arcs.length<=9223372036854775807)):=by
  cases n with|zero=> exact h.elim|succ n=>simp only[Vx.OfTy,Rm]at h;obtain⟨l,hl,hlen,hall⟩:=h;subst hl;obtain⟨ks,rfl,hks⟩:=I3 hall;exact⟨ks,rfl,by simpa[maxLen]using hlen,hks⟩
theorem Rr{n:Nat}{us:List Vx.U}(h:Vx.OfTy Tryz.prog n 39 us): ∃x:GFS,us=fV x/\((x.Nodes.length<=9223372036854775807/\∀q∈x.Nodes,(q.Arcs.length<=9223372036854775807))):=by
  cases n with
  |zero=> exact h.elim|succ n=>
    simp only[Vx.OfTy,Rl,Tu]at h;obtain⟨hl,hf⟩:=h
    match us,hl with
    |[u0],_=>simp only[zI,List.not_mem_nil,or_false,forall_eq_or_imp,forall_eq,Tv,List.drop,List.take]at hf;have h0:=hf;obtain⟨a0,e0,k0⟩:=Rs h0;simp only[List.cons.injEq,and_true]at e0;subst e0;exact⟨⟨a0⟩,rfl,k0⟩
theorem I4{n:Nat}: ∀{l:List (List Vx.U)},(∀c∈l,Vx.OfTy Tryz.prog n 39 c)->∃ks:List GFS,l=ks.map fV/\∀q∈ks,(q.Nodes.length<=9223372036854775807/\∀qq∈q.Nodes,(qq.Arcs.length<=9223372036854775807))
  |[],_=> ⟨[],rfl,by simp⟩|c::l,h=> by obtain⟨d,rfl,hk⟩:=Rr (h c (by simp));obtain⟨ks,rfl,hks⟩:=I4 (l:=l) fun x hx=> h x (by simp[hx]);exact⟨d::ks,rfl,by intro q hq;rcases zI.1 hq with rfl |hq;exact hk;exact hks q hq⟩
theorem Rt{n:Nat}{us:List Vx.U}(h:Vx.OfTy Tryz.prog n 33 us): ∃x:List GFS,us=[.isl false (x.map fV)]/\(x.length<=9223372036854775807/\∀q∈x,(q.Nodes.length<=9223372036854775807/\∀qq∈q.Nodes,(qq.Arcs.length<=9223372036854775807))):=by
  cases n with|zero=> exact h.elim|succ n=>simp only[Vx.OfTy,XO]at h;obtain⟨l,hl,hlen,hall⟩:=h;subst hl;obtain⟨ks,rfl,hks⟩:=I4 hall;exact⟨ks,rfl,by simpa[maxLen]using hlen,hks⟩
theorem Uk{u:Vx.U}(h:Vx.OfArg Tryz.prog 3 u): ∃x:Int,u=.int .i64 x:=by
  obtain⟨n,us,h1,h2⟩:=h;simp only[kg]at h2;obtain⟨x,rfl⟩:=Iv h1;exact⟨x,by first |exact h2 |simpa using h2 |simpa using h2.symm⟩
theorem Bb{u:Vx.U}(h:Vx.OfArg Tryz.prog 22 u): ∃x:List aT,u=.isl false (x.map aX)/\(x.length<=9223372036854775807/\∀q∈x,(q.Supers.length<=9223372036854775807)/\(q.Feats.length<=9223372036854775807)):=by
  obtain⟨n,us,h1,h2⟩:=h;simp only[XP]at h2;obtain⟨x,rfl,hk⟩:=Ru h1;exact⟨x,by first |exact h2 |simpa using h2 |simpa using h2.symm,hk⟩
theorem Ba{u:Vx.U}(h:Vx.OfArg Tryz.prog 33 u): ∃x:List GFS,u=.isl false (x.map fV)/\(x.length<=9223372036854775807/\∀q∈x,(q.Nodes.length<=9223372036854775807/\∀qq∈q.Nodes,(qq.Arcs.length<=9223372036854775807))):=by
  obtain⟨n,us,h1,h2⟩:=h;simp only[XO]at h2;obtain⟨x,rfl,hk⟩:=Rt h1;exact⟨x,by first |exact h2 |simpa using h2 |simpa using h2.symm,hk⟩
set_option maxRecDepth 100000 in
theorem lifted (os : Os) (started : os.Started) (H : Type) (enc : TypeId × Value -> H) :
    ReturnsInHanded {} Tryz.checked os 5 .any (Rows.quasiNumbersSpec.pre6 enc Tryz.prog Tryz.f5 Rows.quasiNumbersRow.domain false) (Rows.quasiNumbersSpec.post enc Tryz.prog Tryz.f5 false true false false):=by
  refine returnsInHanded_of_change (C:=Tryz.checked) own started (by kernel_rfl) Tryz.func5
    (ChangeSpec.witness6 (enc:=enc) (C:=Tryz.checked) false ⟨#[], #[.slice none 0 0, .slice none 0 0, .int .i64 0],[]⟩ 5 (by kernel_rfl) (by kernel_rfl) (by kernel_rfl) (by kernel_rfl)) ?_
  intro W base args ds gs before hval0 hW hcnd _;have hval : ∀(j:Nat) t v,Tryz.f5.params[j]? = some t->args[j]? = some v->Value.okWide Tryz.prog W .any base t v:=hval0;have hW':=hW;obtain⟨p,q,vd,hV,rfl,hfz,hnd⟩:=hW;have hA:DataW.TrodAll enc Tryz.prog W 0 (fun _=> true) true Tryz.f5.params.toList args.toList ds p:=vd;rw[Tryz.params5]at hA hval;obtain⟨us,k1,k2,k3⟩:=Vx.args_rep closed (by decide) (fun j t v h1 h2=> hval j t v (by simpa using h1) (by simpa using h2)) hA;obtain⟨v0,SR,d0,SJ,p0,q0,hargs0,rfl,rfl,h0,r0⟩:=trodAll_cons hA;obtain⟨v1,Kz,d1,zR,p1,q1,hargs1,rfl,rfl,h1,r1⟩:=trodAll_cons r0;obtain⟨v2,sy,d2,Tr,p2,q2,hargs2,rfl,rfl,h2,r2⟩:=trodAll_cons r1;obtain⟨rfl,rfl,rfl⟩:=trodAll_nil r2;obtain⟨rfl,rfl⟩:=trodVars_none hV;simp only[Vx.OfArgs]at k3;obtain⟨u0,Bq,rfl,m0,u1,p_,rfl,m1,u2,o_,rfl,m2,rfl⟩:=k3;obtain⟨X0,rfl,H0⟩:=Bb m0;obtain⟨X1,rfl,H1⟩:=Ba m1;obtain⟨X2,rfl⟩:=Uk m2;clear vd hval0;refine(Vx.law_calls ((nl _ X0 X1 X2 true (az X0 X1 X2 H1.1 (zF _))).mono fun u s h=> h.1) k1 k2).mono fun e W' ⟨he,hg⟩=> ?_;subst he;exact⟨_,rfl,Rx.law_post hW' laid (by kernel_rfl) hg rfl rfl Tryz.underlying4 rfl rfl rfl⟩
theorem over:Rows.quasiNumbersRow.holds Tryz.pinned (OpenSpec.ofChange Rows.quasiNumbersSpec):=
  OpenClaim.holds_of_wide 5 Tryz.f5 rfl rfl rfl rfl rfl rfl rfl ⟨rfl,rfl,rfl,rfl,rfl⟩ rfl rfl rfl rfl rfl (by kernel_rfl) Tryz.func5 (by kernel_rfl)
    (of_decide_eq_true (by kernel_rfl)) (by unfold Func.isWrapper;first |(rw[if_pos (by decide+kernel)];kernel_rfl)|(rw[if_neg (by decide+kernel)];exact⟨rfl,rfl⟩))
    (fun os started H enc _=> lifted os started H enc)
theorem proved:Rows.QuasiNumbersSaid :=
  over
#print axioms proved
end Go.Proofs.YtmflfedkfdkipaaGreat.quasiNumbers
