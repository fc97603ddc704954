import Derived.Test.YtmflfedkfdkipaaGreatRows
import Derived.WalkKit
import Derived.ProofKit
import Derived.OpenShut
import Derived.Test.YtmflfedkfdkipaaGreatP22
namespace Go.Proofs.YtmflfedkfdkipaaGreat.quasiHeaps
open Go.ChangeShapes Go.WideShapes Go.ChangeAt Go.RowKit
set_option linter.all false
set_option maxRecDepth 20000

theorem own:ownKnob Tryz.prog.godebug=none:=bD
theorem laid:laidOutB Tryz.prog=true:=bD
theorem Wu:Tryz.prog.underlying 22=some (.slice 153):=bD
theorem ce22:Tryz.prog.cellsOf 22=1:=bD
theorem Ww:Tryz.prog.underlying 153=some (.struct #[⟨ "Name",9,0,false,"","",0⟩,⟨ "Supers",150,1,false,"","",16⟩,⟨ "Feats",151,2,false,"","",40⟩]):=bD
theorem kj:Tryz.prog.cellsOf 153=3:=bD
theorem pu9:Tryz.prog.underlying 9=some (.string):=bD
theorem ce9:Tryz.prog.cellsOf 9=1:=bD
theorem Wy:Tryz.prog.underlying 150=some (.slice 9):=bD
theorem kq:Tryz.prog.cellsOf 150=1:=bD
theorem Wx:Tryz.prog.underlying 151=some (.slice 156):=bD
theorem kl:Tryz.prog.cellsOf 151=1:=bD
theorem Wv:Tryz.prog.underlying 156=some (.struct #[⟨ "Feat",9,0,false,"","",0⟩,⟨ "Value",9,1,false,"","",16⟩]):=bD
theorem kh:Tryz.prog.cellsOf 156=2:=bD
theorem Wt:Tryz.prog.underlying 33=some (.slice 39):=bD
theorem ce33:Tryz.prog.cellsOf 33=1:=bD
theorem pu39:Tryz.prog.underlying 39=some (.struct #[⟨ "Nodes",37,0,false,"","",0⟩]):=bD
theorem MP:Tryz.prog.cellsOf 39=1:=bD
theorem Rb:Tryz.prog.underlying 37=some (.slice 79):=bD
theorem ce37:Tryz.prog.cellsOf 37=1:=bD
theorem YB:Tryz.prog.underlying 79=some (.struct #[⟨ "Type",3,0,false,"","",0⟩,⟨ "Arcs",77,1,false,"","",8⟩]):=bD
theorem ce79:Tryz.prog.cellsOf 79=2:=bD
theorem pu3:Tryz.prog.underlying 3=some (.int .i64):=bD
theorem ce3:Tryz.prog.cellsOf 3=1:=bD
theorem pu77:Tryz.prog.underlying 77=some (.slice 105):=bD
theorem ce77:Tryz.prog.cellsOf 77=1:=bD
theorem Wz:Tryz.prog.underlying 105=some (.struct #[⟨ "Feat",3,0,false,"","",0⟩,⟨ "To",3,1,false,"","",8⟩]):=bD
theorem kw:Tryz.prog.cellsOf 105=2:=bD
theorem closed:Vx.iS Tryz.prog [22, 153, 9, 150, 151, 156, 33, 39, 37, 79, 3, 77, 105]=true:=bD
theorem iy{n:Nat}{us:X Vx.U}(h:Vx.L1 Tryz.prog n 9 us): ∃s,us=[.str s]:=by cases n with|zero=> exact h.elim|succ n=> simp only[Vx.L1,pu9]at h;obtain⟨i,rfl,_⟩:=h;exact⟨i,rfl⟩
theorem LY{n:Nat}: ∀{l:X (X Vx.U)},(∀c∈l,Vx.L1 Tryz.prog n 9 c)->∃ks:X (X RX),l=ks.map Vx.cS
  |[],_=> ⟨[],rfl⟩|c::l,h=> by obtain⟨d,rfl⟩:=iy (h c ca);obtain⟨ks,rfl⟩:=LY (l:=l) fun x hx=> h x (by simp[hx]);exact⟨d::ks,rfl⟩
theorem Xl{n:Nat}{us:X Vx.U}(h:Vx.L1 Tryz.prog n 150 us): ∃x:X (X RX),us=[.O false (x.map Vx.cS)]/\(x.length<=9223372036854775807):=by cases n with|zero=> exact h.elim|succ n=>simp only[Vx.L1,Wy]at h;obtain⟨l,hl,aP,cD⟩:=h;subst hl;obtain⟨ks,rfl⟩:=LY cD;exact⟨ks,rfl,by simpa[maxLen]using aP⟩
theorem Xi{n:Nat}{us:X Vx.U}(h:Vx.L1 Tryz.prog n 156 us): ∃x:rJ,us=lY x:=by
  cases n with
  |zero=> exact h.elim|succ n=>
    simp only[Vx.L1,Wv,kh]at h;obtain⟨hl,hf⟩:=h
    match us,hl with
    |[u0,u1],_=>simp only[zI,List.not_mem_nil,or_false,forall_eq_or_imp,forall_eq,ce9,List.drop,List.take]at hf;obtain⟨h0,h1⟩:=hf;obtain⟨a0,e0⟩:=iy h0;simp only[List.cons.injEq,and_true]at e0;subst e0;obtain⟨a1,e1⟩:=iy h1;simp only[List.cons.injEq,and_true]at e1;subst e1;exact⟨⟨a0,a1⟩,rfl⟩
theorem LX{n:Nat}: ∀{l:X (X Vx.U)},(∀c∈l,Vx.L1 Tryz.prog n 156 c)->∃ks:X rJ,l=ks.map lY
  |[],_=> ⟨[],rfl⟩|c::l,h=> by obtain⟨d,rfl⟩:=Xi (h c ca);obtain⟨ks,rfl⟩:=LX (l:=l) fun x hx=> h x (by simp[hx]);exact⟨d::ks,rfl⟩
theorem Xk{n:Nat}{us:X Vx.U}(h:Vx.L1 Tryz.prog n 151 us): ∃x:X rJ,us=[.O false (x.map lY)]/\(x.length<=9223372036854775807):=by cases n with|zero=> exact h.elim|succ n=>simp only[Vx.L1,Wx]at h;obtain⟨l,hl,aP,cD⟩:=h;subst hl;obtain⟨ks,rfl⟩:=LX cD;exact⟨ks,rfl,by simpa[maxLen]using aP⟩
theorem Xj{n:Nat}{us:X Vx.U}(h:Vx.L1 Tryz.prog n 153 us): ∃x:bE,us=bO x/\((x.E6.length<=9223372036854775807)/\(x.E3.length<=9223372036854775807)):=by
  cases n with
  |zero=> exact h.elim|succ n=>
    simp only[Vx.L1,Ww,kj]at h;obtain⟨hl,hf⟩:=h
    match us,hl with
    |[u0,u1,u2],_=>simp only[zI,List.not_mem_nil,or_false,forall_eq_or_imp,forall_eq,kq,kl,ce9,List.drop,List.take]at hf;obtain⟨h0,h1,h2⟩:=hf;obtain⟨a0,e0⟩:=iy h0;simp only[List.cons.injEq,and_true]at e0;subst e0;obtain⟨a1,e1,k1⟩:=Xl h1;simp only[List.cons.injEq,and_true]at e1;subst e1;obtain⟨a2,e2,k2⟩:=Xk h2;simp only[List.cons.injEq,and_true]at e2;subst e2;exact⟨⟨a0,a1,a2⟩,rfl,⟨k1,k2⟩⟩
theorem XN{n:Nat}: ∀{l:X (X Vx.U)},(∀c∈l,Vx.L1 Tryz.prog n 153 c)->∃ks:X bE,l=ks.map bO/\∀q∈ks,(q.E6.length<=9223372036854775807)/\(q.E3.length<=9223372036854775807)
  |[],_=> ⟨[],rfl,by simp⟩|c::l,h=> by obtain⟨d,rfl,hk⟩:=Xj (h c ca);obtain⟨ks,rfl,vF⟩:=XN (l:=l) fun x hx=> h x (by simp[hx]);exact⟨d::ks,rfl,by intro q hq;rcases zI.1 hq with rfl |hq;exact hk;exact vF q hq⟩
theorem QT{n:Nat}{us:X Vx.U}(h:Vx.L1 Tryz.prog n 22 us): ∃x:X bE,us=[.O false (x.map bO)]/\(x.length<=9223372036854775807/\∀q∈x,(q.E6.length<=9223372036854775807)/\(q.E3.length<=9223372036854775807)):=by cases n with|zero=> exact h.elim|succ n=>simp only[Vx.L1,Wu]at h;obtain⟨l,hl,aP,cD⟩:=h;subst hl;obtain⟨ks,rfl,vF⟩:=XN cD;exact⟨ks,rfl,by simpa[maxLen]using aP,vF⟩
theorem X!{n:Nat}{us:X Vx.U}(h:Vx.L1 Tryz.prog n 3 us): ∃i,us=[.int .i64 i]:=by cases n with|zero=> exact h.elim|succ n=> simp only[Vx.L1,pu3]at h;obtain⟨i,rfl,_⟩:=h;exact⟨i,rfl⟩
theorem Xm{n:Nat}{us:X Vx.U}(h:Vx.L1 Tryz.prog n 105 us): ∃x:aL,us=bB x:=by
  cases n with
  |zero=> exact h.elim|succ n=>
    simp only[Vx.L1,Wz,kw]at h;obtain⟨hl,hf⟩:=h
    match us,hl with
    |[u0,u1],_=>simp only[zI,List.not_mem_nil,or_false,forall_eq_or_imp,forall_eq,ce3,List.drop,List.take]at hf;obtain⟨h0,h1⟩:=hf;obtain⟨a0,e0⟩:=X! h0;simp only[List.cons.injEq,and_true]at e0;subst e0;obtain⟨a1,e1⟩:=X! h1;simp only[List.cons.injEq,and_true]at e1;subst e1;exact⟨⟨a0,a1⟩,rfl⟩
theorem XK{n:Nat}: ∀{l:X (X Vx.U)},(∀c∈l,Vx.L1 Tryz.prog n 105 c)->∃ks:X aL,l=ks.map bB
  |[],_=> ⟨[],rfl⟩|c::l,h=> by obtain⟨d,rfl⟩:=Xm (h c ca);obtain⟨ks,rfl⟩:=XK (l:=l) fun x hx=> h x (by simp[hx]);exact⟨d::ks,rfl⟩
theorem Zb{n:Nat}{us:X Vx.U}(h:Vx.L1 Tryz.prog n 77 us): ∃x:X aL,us=[.O false (x.map bB)]/\(x.length<=9223372036854775807):=by cases n with|zero=> exact h.elim|succ n=>simp only[Vx.L1,pu77]at h;obtain⟨l,hl,aP,cD⟩:=h;subst hl;obtain⟨ks,rfl⟩:=XK cD;exact⟨ks,rfl,by simpa[maxLen]using aP⟩
theorem of79{n:Nat}{us:X Vx.U}(h:Vx.L1 Tryz.prog n 79 us): ∃x:aU,us=bL x/\((x.E2.length<=9223372036854775807)):=by
  cases n with
  |zero=> exact h.elim|succ n=>
    simp only[Vx.L1,YB,ce79]at h;obtain⟨hl,hf⟩:=h
    match us,hl with
    |[u0,u1],_=>simp only[zI,List.not_mem_nil,or_false,forall_eq_or_imp,forall_eq,ce3,ce77,List.drop,List.take]at hf;obtain⟨h0,h1⟩:=hf;obtain⟨a0,e0⟩:=X! h0;simp only[List.cons.injEq,and_true]at e0;subst e0;obtain⟨a1,e1,k1⟩:=Zb h1;simp only[List.cons.injEq,and_true]at e1;subst e1;exact⟨⟨a0,a1⟩,rfl,k1⟩
theorem XL{n:Nat}: ∀{l:X (X Vx.U)},(∀c∈l,Vx.L1 Tryz.prog n 79 c)->∃ks:X aU,l=ks.map bL/\∀q∈ks,(q.E2.length<=9223372036854775807)
  |[],_=> ⟨[],rfl,by simp⟩|c::l,h=> by obtain⟨d,rfl,hk⟩:=of79 (h c ca);obtain⟨ks,rfl,vF⟩:=XL (l:=l) fun x hx=> h x (by simp[hx]);exact⟨d::ks,rfl,by intro q hq;rcases zI.1 hq with rfl |hq;exact hk;exact vF q hq⟩
theorem MW{n:Nat}{us:X Vx.U}(h:Vx.L1 Tryz.prog n 37 us): ∃x:X aU,us=[.O false (x.map bL)]/\(x.length<=9223372036854775807/\∀q∈x,(q.E2.length<=9223372036854775807)):=by cases n with|zero=> exact h.elim|succ n=>simp only[Vx.L1,Rb]at h;obtain⟨l,hl,aP,cD⟩:=h;subst hl;obtain⟨ks,rfl,vF⟩:=XL cD;exact⟨ks,rfl,by simpa[maxLen]using aP,vF⟩
theorem E!{n:Nat}{us:X Vx.U}(h:Vx.L1 Tryz.prog n 39 us): ∃x:cb,us=jQ x/\((x.D6.length<=9223372036854775807/\∀q∈x.D6,(q.E2.length<=9223372036854775807))):=by
  cases n with
  |zero=> exact h.elim|succ n=>
    simp only[Vx.L1,pu39,MP]at h;obtain⟨hl,hf⟩:=h
    match us,hl with
    |[u0],_=>simp only[zI,List.not_mem_nil,or_false,forall_eq_or_imp,forall_eq,ce37,List.drop,List.take]at hf;have h0:=hf;obtain⟨a0,e0,k0⟩:=MW h0;simp only[List.cons.injEq,and_true]at e0;subst e0;exact⟨⟨a0⟩,rfl,k0⟩
theorem XM{n:Nat}: ∀{l:X (X Vx.U)},(∀c∈l,Vx.L1 Tryz.prog n 39 c)->∃ks:X cb,l=ks.map jQ/\∀q∈ks,(q.D6.length<=9223372036854775807/\∀qq∈q.D6,(qq.E2.length<=9223372036854775807))
  |[],_=> ⟨[],rfl,by simp⟩|c::l,h=> by obtain⟨d,rfl,hk⟩:=E! (h c ca);obtain⟨ks,rfl,vF⟩:=XM (l:=l) fun x hx=> h x (by simp[hx]);exact⟨d::ks,rfl,by intro q hq;rcases zI.1 hq with rfl |hq;exact hk;exact vF q hq⟩
theorem F!{n:Nat}{us:X Vx.U}(h:Vx.L1 Tryz.prog n 33 us): ∃x:X cb,us=[.O false (x.map jQ)]/\(x.length<=9223372036854775807/\∀q∈x,(q.D6.length<=9223372036854775807/\∀qq∈q.D6,(qq.E2.length<=9223372036854775807))):=by cases n with|zero=> exact h.elim|succ n=>simp only[Vx.L1,Wt]at h;obtain⟨l,hl,aP,cD⟩:=h;subst hl;obtain⟨ks,rfl,vF⟩:=XM cD;exact⟨ks,rfl,by simpa[maxLen]using aP,vF⟩
theorem vz{u:Vx.U}(h:Vx.hY Tryz.prog 22 u): ∃x:X bE,u=.O false (x.map bO)/\(x.length<=9223372036854775807/\∀q∈x,(q.E6.length<=9223372036854775807)/\(q.E3.length<=9223372036854775807)):=by obtain⟨n,us,h1,h2⟩:=h;simp only[Wu]at h2;obtain⟨x,rfl,hk⟩:=QT h1;exact⟨x,by first |exact h2 |simpa using h2 |simpa using h2.symm,hk⟩
theorem vt{u:Vx.U}(h:Vx.hY Tryz.prog 33 u): ∃x:X cb,u=.O false (x.map jQ)/\(x.length<=9223372036854775807/\∀q∈x,(q.D6.length<=9223372036854775807/\∀qq∈q.D6,(qq.E2.length<=9223372036854775807))):=by obtain⟨n,us,h1,h2⟩:=h;simp only[Wt]at h2;obtain⟨x,rfl,hk⟩:=F! h1;exact⟨x,by first |exact h2 |simpa using h2 |simpa using h2.symm,hk⟩
set_option maxRecDepth 100000 in
theorem lifted (os : Os) (started : os.Started) (H : Type) (enc : TypeId × I -> H) :
    ReturnsInHanded {} Tryz.checked os 8 .any (Rows.quasiHeapsSpec.pre6 enc Tryz.prog Tryz.f8 Rows.quasiHeapsRow.domain false) (Rows.quasiHeapsSpec.post enc Tryz.prog Tryz.f8 false true false false):=by
  refine returnsInHanded_of_change (C:=Tryz.checked) own started bD Tryz.func8
    (ChangeSpec.witness6 (enc:=enc) (C:=Tryz.checked) false ⟨#[], #[.slice none 0 0, .slice none 0 0],[]⟩ 8 bD bD bD bD) ?_
  intro W base args ds gs before W2 hW hcnd _;have eI : ∀(j:Nat) t v,Tryz.f8.params[j]? = some t->args[j]? = some v->Value.okWide Tryz.prog W .any base t v:=W2;have hW':=hW;obtain⟨p,q,hA0,hV,rfl,zd,pN⟩:=hW;have hA:DataW.TrodAll enc Tryz.prog W 0 (fun _=> true) true Tryz.f8.params.toList args.toList ds p:=hA0;rw[Tryz.params8]at hA eI;obtain⟨us,k1,k2,k3⟩:=Vx.iT closed cg (fun j t v h1 h2=> eI j t v (by simpa using h1) (by simpa using h2)) hA;obtain⟨v0,Jx,d0,Ph,p0,q0,hargs0,rfl,rfl,h0,r0⟩:=trodAll_cons hA;obtain⟨v1,lm,d1,LZ,p1,q1,hargs1,rfl,rfl,h1,r1⟩:=trodAll_cons r0;obtain⟨rfl,rfl,rfl⟩:=trodAll_nil r1;obtain⟨rfl,rfl⟩:=trodVars_none hV;simp only[Vx.jE]at k3;obtain⟨u0,Jy,rfl,m0,u1,us1,rfl,m1,rfl⟩:=k3;obtain⟨X0,rfl,H0⟩:=vz m0;obtain⟨X1,rfl,H1⟩:=vt m1;clear hA0 W2;refine(Vx.kD ((qi3 _ X0 X1 true (z0e X0 X1 (zF _))).mono fun u s h=> h.1) k1 k2).mono fun e W' ⟨he,hg⟩=> ?_;subst he;exact⟨_,rfl,Rx.iU hW' laid bD hg rfl rfl Tryz.underlying4 rfl rfl rfl⟩
theorem over:Rows.quasiHeapsRow.holds Tryz.pinned (OpenSpec.ofChange Rows.quasiHeapsSpec):=
  OpenClaim.holds_of_wide 8 Tryz.f8 rfl rfl rfl rfl rfl rfl rfl ⟨rfl,rfl,rfl,rfl,rfl⟩ rfl rfl rfl rfl rfl bD Tryz.func8 bD
    (of_decide_eq_true bD) (by unfold Func.isWrapper;first |(rw[if_pos (by decide+kernel)];kernel_rfl)|(rw[if_neg (by decide+kernel)];exact⟨rfl,rfl⟩))
    (fun os started H enc _=> lifted os started H enc)
theorem proved:Rows.QuasiHeapsSaid :=
  over
#print axioms proved
end Go.Proofs.YtmflfedkfdkipaaGreat.quasiHeaps
