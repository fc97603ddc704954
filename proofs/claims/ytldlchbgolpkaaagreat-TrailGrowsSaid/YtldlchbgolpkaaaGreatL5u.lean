import Derived.Test.YtldlchbgolpkaaaGreatRows
import Derived.WalkKit
import Derived.ProofKit
import Derived.OpenShut
import Derived.Test.YtldlchbgolpkaaaGreatP20
namespace Go.Proofs.YtldlchbgolpkaaaGreat.trailGrows
open Go.ChangeShapes Go.WideShapes Go.ChangeAt Go.RowKit
set_option linter.unusedVariables false
set_option linter.unusedSimpArgs false
set_option maxRecDepth 20000

theorem own:ownKnob Tryz.prog.godebug=none:=by kernel_rfl
theorem laid:laidOutB Tryz.prog=true:=by kernel_rfl
theorem Ug:Tryz.prog.underlying 22=some (.slice 138):=by kernel_rfl
theorem ce22:Tryz.prog.cellsOf 22=1:=by kernel_rfl
theorem Ui : Tryz.prog.underlying 138 = some (.struct #[⟨ "Name", 9, 0, false, "", "", 0⟩, ⟨ "Supers", 135, 1, false, "", "", 16⟩, ⟨ "Feats", 136, 2, false, "", "", 40⟩]) := by kernel_rfl
theorem qj:Tryz.prog.cellsOf 138=3:=by kernel_rfl
theorem pu9:Tryz.prog.underlying 9=some (.string):=by kernel_rfl
theorem ce9:Tryz.prog.cellsOf 9=1:=by kernel_rfl
theorem Uk:Tryz.prog.underlying 135=some (.slice 9):=by kernel_rfl
theorem ql:Tryz.prog.cellsOf 135=1:=by kernel_rfl
theorem Uj:Tryz.prog.underlying 136=some (.slice 141):=by kernel_rfl
theorem qk:Tryz.prog.cellsOf 136=1:=by kernel_rfl
theorem Uh : Tryz.prog.underlying 141 = some (.struct #[⟨ "Feat", 9, 0, false, "", "", 0⟩, ⟨ "Value", 9, 1, false, "", "", 16⟩]) := by kernel_rfl
theorem qi:Tryz.prog.cellsOf 141=2:=by kernel_rfl
theorem Uf:Tryz.prog.underlying 23=some (.slice 42):=by kernel_rfl
theorem ce23:Tryz.prog.cellsOf 23=1:=by kernel_rfl
theorem c? : Tryz.prog.underlying 42 = some (.struct #[⟨ "Kind", 3, 0, false, "", "", 0⟩, ⟨ "A", 3, 1, false, "", "", 8⟩, ⟨ "B", 3, 2, false, "", "", 16⟩, ⟨ "F", 40, 3, false, "", "", 24⟩]) := by kernel_rfl
theorem ce42:Tryz.prog.cellsOf 42=4:=by kernel_rfl
theorem pu3:Tryz.prog.underlying 3=some (.int .i64):=by kernel_rfl
theorem ce3:Tryz.prog.cellsOf 3=1:=by kernel_rfl
theorem d? : Tryz.prog.underlying 40 = some (.struct #[⟨ "Nodes", 33, 0, false, "", "", 0⟩]) := by kernel_rfl
theorem qh:Tryz.prog.cellsOf 40=1:=by kernel_rfl
theorem e?: Tryz.prog.underlying 33=some (.slice 78):=by kernel_rfl
theorem ce33:Tryz.prog.cellsOf 33=1:=by kernel_rfl
theorem a? : Tryz.prog.underlying 78 = some (.struct #[⟨ "Type", 3, 0, false, "", "", 0⟩, ⟨ "Arcs", 76, 1, false, "", "", 8⟩]) := by kernel_rfl
theorem ce78:Tryz.prog.cellsOf 78=2:=by kernel_rfl
theorem b?: Tryz.prog.underlying 76=some (.slice 98):=by kernel_rfl
theorem ce76:Tryz.prog.cellsOf 76=1:=by kernel_rfl
theorem Z_ : Tryz.prog.underlying 98 = some (.struct #[⟨ "Feat", 3, 0, false, "", "", 0⟩, ⟨ "To", 3, 1, false, "", "", 8⟩]) := by kernel_rfl
theorem ce98:Tryz.prog.cellsOf 98=2:=by kernel_rfl
theorem Ue:Tryz.prog.underlying 56=some (.array 2 5):=by kernel_rfl
theorem ce56:Tryz.prog.cellsOf 56=2:=by kernel_rfl
theorem pu5:Tryz.prog.underlying 5=some (.int .u8):=by kernel_rfl
theorem ce5:Tryz.prog.cellsOf 5=1:=by kernel_rfl
theorem closed:Vx.closedTS Tryz.prog [22, 138, 9, 135, 136, 141, 23, 42, 3, 40, 33, 78, 76, 98, 56, 5]=true:=by kernel_rfl
theorem bh{n:Nat}{us:I Vx.U}(h:Vx.OfTy Tryz.prog n 9 us): ∃s,us=[.str s]:=by cases n with|zero=> exact h.elim|succ n=> simp only[Vx.OfTy,pu9]at h;obtain⟨i,rfl,_⟩:=h;exact⟨i,rfl⟩
theorem LF{n:Nat}: ∀{l:I (I Vx.U)},(∀c∈l,Vx.OfTy Tryz.prog n 9 c)->∃ks:I (I UInt8),l=ks.map Vx.cS
  |[],_=> ⟨[],rfl⟩|c::l,h=> by obtain⟨d,rfl⟩:=bh (h c (by simp));obtain⟨ks,rfl⟩:=LF (l:=l) fun x hx=> h x (by simp[hx]);exact⟨d::ks,rfl⟩
theorem Us{n:Nat}{us:I Vx.U}(h:Vx.OfTy Tryz.prog n 135 us): ∃x:I (I UInt8),us=[.isl false (x.map Vx.cS)]/\(x.length<=9223372036854775807):=by cases n with|zero=> exact h.elim|succ n=>simp only[Vx.OfTy,Uk]at h;obtain⟨l,hl,bA,cR⟩:=h;subst hl;obtain⟨ks,rfl⟩:=LF cR;exact⟨ks,rfl,by simpa[maxLen]using bA⟩
theorem Up{n:Nat}{us:I Vx.U}(h:Vx.OfTy Tryz.prog n 141 us): ∃x:pG,us=lR x:=by
  cases n with
  |zero=> exact h.elim|succ n=>
    simp only[Vx.OfTy,Uh,qi]at h;obtain⟨hl,hf⟩:=h
    match us,hl with
    |[u0,u1],_=>simp only[zI,List.not_mem_nil,or_false,forall_eq_or_imp,forall_eq,ce9,List.drop,List.take]at hf;obtain⟨h0,h1⟩:=hf;obtain⟨a0,e0⟩:=bh h0;simp only[List.cons.injEq,and_true]at e0;subst e0;obtain⟨a1,e1⟩:=bh h1;simp only[List.cons.injEq,and_true]at e1;subst e1;exact⟨⟨a0,a1⟩,rfl⟩
theorem LD{n:Nat}: ∀{l:I (I Vx.U)},(∀c∈l,Vx.OfTy Tryz.prog n 141 c)->∃ks:I pG,l=ks.map lR
  |[],_=> ⟨[],rfl⟩|c::l,h=> by obtain⟨d,rfl⟩:=Up (h c (by simp));obtain⟨ks,rfl⟩:=LD (l:=l) fun x hx=> h x (by simp[hx]);exact⟨d::ks,rfl⟩
theorem Ur{n:Nat}{us:I Vx.U}(h:Vx.OfTy Tryz.prog n 136 us): ∃x:I pG,us=[.isl false (x.map lR)]/\(x.length<=9223372036854775807):=by cases n with|zero=> exact h.elim|succ n=>simp only[Vx.OfTy,Uj]at h;obtain⟨l,hl,bA,cR⟩:=h;subst hl;obtain⟨ks,rfl⟩:=LD cR;exact⟨ks,rfl,by simpa[maxLen]using bA⟩
theorem Uq{n:Nat}{us:I Vx.U}(h:Vx.OfTy Tryz.prog n 138 us): ∃x:bL,us=bU x/\((x.Supers.length<=9223372036854775807)/\(x.Feats.length<=9223372036854775807)):=by
  cases n with
  |zero=> exact h.elim|succ n=>
    simp only[Vx.OfTy,Ui,qj]at h;obtain⟨hl,hf⟩:=h
    match us,hl with
    |[u0,u1,u2],_=>simp only[zI,List.not_mem_nil,or_false,forall_eq_or_imp,forall_eq,ql,qk,ce9,List.drop,List.take]at hf;obtain⟨h0,h1,h2⟩:=hf;obtain⟨a0,e0⟩:=bh h0;simp only[List.cons.injEq,and_true]at e0;subst e0;obtain⟨a1,e1,k1⟩:=Us h1;simp only[List.cons.injEq,and_true]at e1;subst e1;obtain⟨a2,e2,k2⟩:=Ur h2;simp only[List.cons.injEq,and_true]at e2;subst e2;exact⟨⟨a0,a1,a2⟩,rfl,⟨k1,k2⟩⟩
theorem VZ{n:Nat}: ∀{l:I (I Vx.U)},(∀c∈l,Vx.OfTy Tryz.prog n 138 c)->∃ks:I bL,l=ks.map bU/\∀q∈ks,(q.Supers.length<=9223372036854775807)/\(q.Feats.length<=9223372036854775807)
  |[],_=> ⟨[],rfl,by simp⟩|c::l,h=> by obtain⟨d,rfl,hk⟩:=Uq (h c (by simp));obtain⟨ks,rfl,qR⟩:=VZ (l:=l) fun x hx=> h x (by simp[hx]);exact⟨d::ks,rfl,by intro q hq;rcases zI.1 hq with rfl |hq;exact hk;exact qR q hq⟩
theorem n?{n:Nat}{us:I Vx.U}(h:Vx.OfTy Tryz.prog n 22 us): ∃x:I bL,us=[.isl false (x.map bU)]/\(x.length<=9223372036854775807/\∀q∈x,(q.Supers.length<=9223372036854775807)/\(q.Feats.length<=9223372036854775807)):=by cases n with|zero=> exact h.elim|succ n=>simp only[Vx.OfTy,Ug]at h;obtain⟨l,hl,bA,cR⟩:=h;subst hl;obtain⟨ks,rfl,qR⟩:=VZ cR;exact⟨ks,rfl,by simpa[maxLen]using bA,qR⟩
theorem Kh{n:Nat}{us:I Vx.U}(h:Vx.OfTy Tryz.prog n 3 us): ∃i,us=[.int .i64 i]:=by cases n with|zero=> exact h.elim|succ n=> simp only[Vx.OfTy,pu3]at h;obtain⟨i,rfl,_⟩:=h;exact⟨i,rfl⟩
theorem f?{n:Nat}{us:I Vx.U}(h:Vx.OfTy Tryz.prog n 98 us): ∃x:aK,us=aU x:=by
  cases n with
  |zero=> exact h.elim|succ n=>
    simp only[Vx.OfTy,Z_,ce98]at h;obtain⟨hl,hf⟩:=h
    match us,hl with
    |[u0,u1],_=>simp only[zI,List.not_mem_nil,or_false,forall_eq_or_imp,forall_eq,ce3,List.drop,List.take]at hf;obtain⟨h0,h1⟩:=hf;obtain⟨a0,e0⟩:=Kh h0;simp only[List.cons.injEq,and_true]at e0;subst e0;obtain⟨a1,e1⟩:=Kh h1;simp only[List.cons.injEq,and_true]at e1;subst e1;exact⟨⟨a0,a1⟩,rfl⟩
theorem VW{n:Nat}: ∀{l:I (I Vx.U)},(∀c∈l,Vx.OfTy Tryz.prog n 98 c)->∃ks:I aK,l=ks.map aU
  |[],_=> ⟨[],rfl⟩|c::l,h=> by obtain⟨d,rfl⟩:=f? (h c (by simp));obtain⟨ks,rfl⟩:=VW (l:=l) fun x hx=> h x (by simp[hx]);exact⟨d::ks,rfl⟩
theorem h?{n:Nat}{us:I Vx.U}(h:Vx.OfTy Tryz.prog n 76 us): ∃x:I aK,us=[.isl false (x.map aU)]/\(x.length<=9223372036854775807):=by cases n with|zero=> exact h.elim|succ n=>simp only[Vx.OfTy,b?]at h;obtain⟨l,hl,bA,cR⟩:=h;subst hl;obtain⟨ks,rfl⟩:=VW cR;exact⟨ks,rfl,by simpa[maxLen]using bA⟩
theorem g?{n:Nat}{us:I Vx.U}(h:Vx.OfTy Tryz.prog n 78 us): ∃x:aM,us=aY x/\((x.Arcs.length<=9223372036854775807)):=by
  cases n with
  |zero=> exact h.elim|succ n=>
    simp only[Vx.OfTy,a?,ce78]at h;obtain⟨hl,hf⟩:=h
    match us,hl with
    |[u0,u1],_=>simp only[zI,List.not_mem_nil,or_false,forall_eq_or_imp,forall_eq,ce3,ce76,List.drop,List.take]at hf;obtain⟨h0,h1⟩:=hf;obtain⟨a0,e0⟩:=Kh h0;simp only[List.cons.injEq,and_true]at e0;subst e0;obtain⟨a1,e1,k1⟩:=h? h1;simp only[List.cons.injEq,and_true]at e1;subst e1;exact⟨⟨a0,a1⟩,rfl,k1⟩
theorem VX{n:Nat}: ∀{l:I (I Vx.U)},(∀c∈l,Vx.OfTy Tryz.prog n 78 c)->∃ks:I aM,l=ks.map aY/\∀q∈ks,(q.Arcs.length<=9223372036854775807)
  |[],_=> ⟨[],rfl,by simp⟩|c::l,h=> by obtain⟨d,rfl,hk⟩:=g? (h c (by simp));obtain⟨ks,rfl,qR⟩:=VX (l:=l) fun x hx=> h x (by simp[hx]);exact⟨d::ks,rfl,by intro q hq;rcases zI.1 hq with rfl |hq;exact hk;exact qR q hq⟩
theorem l?{n:Nat}{us:I Vx.U}(h:Vx.OfTy Tryz.prog n 33 us): ∃x:I aM,us=[.isl false (x.map aY)]/\(x.length<=9223372036854775807/\∀q∈x,(q.Arcs.length<=9223372036854775807)):=by cases n with|zero=> exact h.elim|succ n=>simp only[Vx.OfTy,e?]at h;obtain⟨l,hl,bA,cR⟩:=h;subst hl;obtain⟨ks,rfl,qR⟩:=VX cR;exact⟨ks,rfl,by simpa[maxLen]using bA,qR⟩
theorem k?{n:Nat}{us:I Vx.U}(h:Vx.OfTy Tryz.prog n 40 us): ∃x:GFS,us=qJ x/\((x.Nodes.length<=9223372036854775807/\∀q∈x.Nodes,(q.Arcs.length<=9223372036854775807))):=by
  cases n with
  |zero=> exact h.elim|succ n=>
    simp only[Vx.OfTy,d?,qh]at h;obtain⟨hl,hf⟩:=h
    match us,hl with
    |[u0],_=>simp only[zI,List.not_mem_nil,or_false,forall_eq_or_imp,forall_eq,ce33,List.drop,List.take]at hf;have h0:=hf;obtain⟨a0,e0,k0⟩:=l? h0;simp only[List.cons.injEq,and_true]at e0;subst e0;exact⟨⟨a0⟩,rfl,k0⟩
theorem j?{n:Nat}{us:I Vx.U}(h:Vx.OfTy Tryz.prog n 42 us): ∃x:qT,us=nH x/\(((x.F.Nodes.length<=9223372036854775807/\∀q∈x.F.Nodes,(q.Arcs.length<=9223372036854775807)))):=by
  cases n with
  |zero=> exact h.elim|succ n=>
    simp only[Vx.OfTy,c?,ce42]at h;obtain⟨hl,hf⟩:=h
    match us,hl with
    |[u0,u1,u2,u3],_=>simp only[zI,List.not_mem_nil,or_false,forall_eq_or_imp,forall_eq,ce3,qh,List.drop,List.take]at hf;obtain⟨h0,h1,h2,h3⟩:=hf;obtain⟨a0,e0⟩:=Kh h0;simp only[List.cons.injEq,and_true]at e0;subst e0;obtain⟨a1,e1⟩:=Kh h1;simp only[List.cons.injEq,and_true]at e1;subst e1;obtain⟨a2,e2⟩:=Kh h2;simp only[List.cons.injEq,and_true]at e2;subst e2;obtain⟨a3,e3,k3⟩:=k? h3;simp only[qJ,List.cons.injEq,and_true]at e3;obtain⟨rfl⟩:=e3;exact⟨⟨a0,a1,a2,a3⟩,rfl,k3⟩
theorem VY{n:Nat}: ∀{l:I (I Vx.U)},(∀c∈l,Vx.OfTy Tryz.prog n 42 c)->∃ks:I qT,l=ks.map nH/\∀q∈ks,((q.F.Nodes.length<=9223372036854775807/\∀qq∈q.F.Nodes,(qq.Arcs.length<=9223372036854775807)))
  |[],_=> ⟨[],rfl,by simp⟩|c::l,h=> by obtain⟨d,rfl,hk⟩:=j? (h c (by simp));obtain⟨ks,rfl,qR⟩:=VY (l:=l) fun x hx=> h x (by simp[hx]);exact⟨d::ks,rfl,by intro q hq;rcases zI.1 hq with rfl |hq;exact hk;exact qR q hq⟩
theorem m?{n:Nat}{us:I Vx.U}(h:Vx.OfTy Tryz.prog n 23 us): ∃x:I qT,us=[.isl false (x.map nH)]/\(x.length<=9223372036854775807/\∀q∈x,((q.F.Nodes.length<=9223372036854775807/\∀qq∈q.F.Nodes,(qq.Arcs.length<=9223372036854775807)))):=by cases n with|zero=> exact h.elim|succ n=>simp only[Vx.OfTy,Uf]at h;obtain⟨l,hl,bA,cR⟩:=h;subst hl;obtain⟨ks,rfl,qR⟩:=VY cR;exact⟨ks,rfl,by simpa[maxLen]using bA,qR⟩
theorem of5{n:Nat}{us:I Vx.U}(h:Vx.OfTy Tryz.prog n 5 us): ∃i,us=[.int .u8 i]:=by cases n with|zero=> exact h.elim|succ n=> simp only[Vx.OfTy,pu5]at h;obtain⟨i,rfl,_⟩:=h;exact⟨i,rfl⟩
theorem i?{n:Nat}{us:I Vx.U}(h:Vx.OfTy Tryz.prog n 56 us): ∃x:JB,us=EW x:=by
  cases n with
  |zero=> exact h.elim|succ n=>
    simp only[Vx.OfTy,Ue,ce56]at h;obtain⟨hl,hf⟩:=h
    match us,hl with
    |[u0,u1],_=>simp only[zI,List.not_mem_nil,or_false,forall_eq_or_imp,forall_eq,ce5,List.drop,List.take]at hf;have h0:=hf 0 (by omega);have h1:=hf 1 (by omega);simp only[Nat.zero_mul,Nat.one_mul,Nat.mul_one,List.drop,List.take]at h0 h1;obtain⟨a0,e0⟩:=of5 h0;simp only[List.cons.injEq,and_true]at e0;subst e0;obtain⟨a1,e1⟩:=of5 h1;simp only[List.cons.injEq,and_true]at e1;subst e1;exact⟨⟨a0,a1⟩,rfl⟩
theorem zd{u:Vx.U}(h:Vx.OfArg Tryz.prog 22 u): ∃x:I bL,u=.isl false (x.map bU)/\(x.length<=9223372036854775807/\∀q∈x,(q.Supers.length<=9223372036854775807)/\(q.Feats.length<=9223372036854775807)):=by obtain⟨n,us,h1,h2⟩:=h;simp only[Ug]at h2;obtain⟨x,rfl,hk⟩:=n? h1;exact⟨x,by first |exact h2 |simpa using h2 |simpa using h2.symm,hk⟩
theorem qz{u:Vx.U}(h:Vx.OfArg Tryz.prog 23 u): ∃x:I qT,u=.isl false (x.map nH)/\(x.length<=9223372036854775807/\∀q∈x,((q.F.Nodes.length<=9223372036854775807/\∀qq∈q.F.Nodes,(qq.Arcs.length<=9223372036854775807)))):=by obtain⟨n,us,h1,h2⟩:=h;simp only[Uf]at h2;obtain⟨x,rfl,hk⟩:=m? h1;exact⟨x,by first |exact h2 |simpa using h2 |simpa using h2.symm,hk⟩
theorem qy{u:Vx.U}(h:Vx.OfArg Tryz.prog 56 u): ∃x:JB,u=.agg (EW x):=by obtain⟨n,us,h1,h2⟩:=h;simp only[Ue]at h2;subst h2;obtain⟨x,rfl⟩:=i? h1;exact⟨x,rfl⟩
set_option maxRecDepth 100000 in
theorem lifted (os : Os) (started : os.Started) (H : Type) (enc : X × M -> H) :
    ReturnsInHanded {} Tryz.checked os 5 .any (Rows.trailGrowsSpec.pre6 enc Tryz.prog Tryz.f5 Rows.trailGrowsRow.domain false) (Rows.trailGrowsSpec.post enc Tryz.prog Tryz.f5 false true false false):=by
  refine returnsInHanded_of_change (C:=Tryz.checked) own started (by kernel_rfl) Tryz.func5
    (ChangeSpec.witness6 (enc:=enc) (C:=Tryz.checked) false ⟨#[], #[.slice none 0 0, .slice none 0 0, .agg #[.int .u8 0, .int .u8 0]],[]⟩ 5 (by kernel_rfl) (by kernel_rfl) (by kernel_rfl) (by kernel_rfl)) ?_
  intro W base args ds gs before UH hW hcnd _;have eZ : ∀(j:Nat) t v,Tryz.f5.params[j]? = some t->args[j]? = some v->Value.okWide Tryz.prog W .any base t v:=UH;have hW':=hW;obtain⟨p,q,hA0,hV,rfl,Xb,NC⟩:=hW;have hA:DataW.TrodAll enc Tryz.prog W 0 (fun _=> true) true Tryz.f5.params.toList args.toList ds p:=hA0;rw[Tryz.params5]at hA eZ;obtain⟨us,k1,k2,k3⟩:=Vx.args_rep closed (by decide) (fun j t v h1 h2=> eZ j t v (by simpa using h1) (by simpa using h2)) hA;obtain⟨v0,Md,d0,ds0,p0,q0,hargs0,rfl,rfl,h0,r0⟩:=trodAll_cons hA;obtain⟨v1,vs1,d1,LG,p1,q1,hargs1,rfl,rfl,h1,r1⟩:=trodAll_cons r0;obtain⟨v2,IA,d2,ds2,p2,q2,hargs2,rfl,rfl,h2,r2⟩:=trodAll_cons r1;obtain⟨rfl,rfl,rfl⟩:=trodAll_nil r2;obtain⟨rfl,rfl⟩:=trodVars_none hV;simp only[Vx.OfArgs]at k3;obtain⟨u0,wg,rfl,m0,u1,us1,rfl,m1,u2,us2,rfl,m2,rfl⟩:=k3;obtain⟨X0,rfl,H0⟩:=zd m0;obtain⟨X1,rfl,H1⟩:=qz m1;obtain⟨X2,rfl⟩:=qy m2;clear hA0 UH;refine(Vx.law_calls ((qlp _ X0 X1 X2 true (z3u X0 X1 X2 H1.1 (zF _))).mono fun u s h=> h.1) k1 k2).mono fun e W' ⟨he,hg⟩=> ?_;subst he;exact⟨_,rfl,Rx.law_post hW' laid (by kernel_rfl) hg rfl rfl Tryz.underlying4 rfl rfl rfl⟩
theorem over:Rows.trailGrowsRow.holds Tryz.pinned (OpenSpec.ofChange Rows.trailGrowsSpec):=
  OpenClaim.holds_of_wide 5 Tryz.f5 rfl rfl rfl rfl rfl rfl rfl ⟨rfl,rfl,rfl,rfl,rfl⟩ rfl rfl rfl rfl rfl (by kernel_rfl) Tryz.func5 (by kernel_rfl)
    (of_decide_eq_true (by kernel_rfl)) (by unfold Func.isWrapper;first |(rw[if_pos (by decide+kernel)];kernel_rfl)|(rw[if_neg (by decide+kernel)];exact⟨rfl,rfl⟩))
    (fun os started H enc _=> lifted os started H enc)
theorem proved:Rows.TrailGrowsSaid :=
  over
#print axioms proved
end Go.Proofs.YtldlchbgolpkaaaGreat.trailGrows
