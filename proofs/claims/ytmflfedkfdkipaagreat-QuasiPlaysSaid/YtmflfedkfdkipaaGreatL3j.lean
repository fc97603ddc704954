import Derived.Test.YtmflfedkfdkipaaGreatRows
import Derived.WalkKit
import Derived.ProofKit
import Derived.OpenShut
import Derived.Test.YtmflfedkfdkipaaGreatP20
namespace Go.Proofs.YtmflfedkfdkipaaGreat.quasiPlays
open Go.ChangeShapes Go.WideShapes Go.ChangeAt Go.RowKit
set_option linter.all false
set_option maxRecDepth 20000

theorem own:ownKnob Tryz.prog.godebug=none:=qq1
theorem laid:laidOutB Tryz.prog=true:=qq1
theorem Sv:Tryz.prog.underlying 22=some (.slice 153):=qq1
theorem ce22:Tryz.prog.cellsOf 22=1:=qq1
theorem Sx:Tryz.prog.underlying 153=some (.struct #[⟨ "Name",9,0,false,"","",0⟩,⟨ "Supers",150,1,false,"","",16⟩,⟨ "Feats",151,2,false,"","",40⟩]):=qq1
theorem Zl:Tryz.prog.cellsOf 153=3:=qq1
theorem pu9:Tryz.prog.underlying 9=some (.string):=qq1
theorem ce9:Tryz.prog.cellsOf 9=1:=qq1
theorem Sz:Tryz.prog.underlying 150=some (.slice 9):=qq1
theorem Zn:Tryz.prog.cellsOf 150=1:=qq1
theorem Sy:Tryz.prog.underlying 151=some (.slice 156):=qq1
theorem Zm:Tryz.prog.cellsOf 151=1:=qq1
theorem Sw:Tryz.prog.underlying 156=some (.struct #[⟨ "Feat",9,0,false,"","",0⟩,⟨ "Value",9,1,false,"","",16⟩]):=qq1
theorem Zk:Tryz.prog.cellsOf 156=2:=qq1
theorem Su:Tryz.prog.underlying 23=some (.slice 41):=qq1
theorem ce23:Tryz.prog.cellsOf 23=1:=qq1
theorem N?:Tryz.prog.underlying 41=some (.struct #[⟨ "Kind",3,0,false,"","",0⟩,⟨ "A",3,1,false,"","",8⟩,⟨ "B",3,2,false,"","",16⟩,⟨ "F",39,3,false,"","",24⟩]):=qq1
theorem ce41:Tryz.prog.cellsOf 41=4:=qq1
theorem pu3:Tryz.prog.underlying 3=some (.int .i64):=qq1
theorem ce3:Tryz.prog.cellsOf 3=1:=qq1
theorem O?:Tryz.prog.underlying 39=some (.struct #[⟨ "Nodes",37,0,false,"","",0⟩]):=qq1
theorem Zj:Tryz.prog.cellsOf 39=1:=qq1
theorem P?: Tryz.prog.underlying 37=some (.slice 79):=qq1
theorem ce37:Tryz.prog.cellsOf 37=1:=qq1
theorem L?:Tryz.prog.underlying 79=some (.struct #[⟨ "Type",3,0,false,"","",0⟩,⟨ "Arcs",77,1,false,"","",8⟩]):=qq1
theorem ce79:Tryz.prog.cellsOf 79=2:=qq1
theorem M?: Tryz.prog.underlying 77=some (.slice 105):=qq1
theorem ce77:Tryz.prog.cellsOf 77=1:=qq1
theorem Ta:Tryz.prog.underlying 105=some (.struct #[⟨ "Feat",3,0,false,"","",0⟩,⟨ "To",3,1,false,"","",8⟩]):=qq1
theorem Zo:Tryz.prog.cellsOf 105=2:=qq1
theorem closed:Vx.closedTS Tryz.prog [22, 153, 9, 150, 151, 156, 23, 41, 3, 39, 37, 79, 77, 105]=true:=qq1
theorem pg{n:Nat}{us:X Vx.U}(h:Vx.OfTy Tryz.prog n 9 us): ∃s,us=[.str s]:=by cases n with|zero=> exact h.elim|succ n=> simp only[Vx.OfTy,pu9]at h;obtain⟨i,rfl,_⟩:=h;exact⟨i,rfl⟩
theorem JF{n:Nat}: ∀{l:X (X Vx.U)},(∀c∈l,Vx.OfTy Tryz.prog n 9 c)->∃ks:X (X Yv),l=ks.map Vx.cS
  |[],_=> ⟨[],rfl⟩|c::l,h=> by obtain⟨d,rfl⟩:=pg (h c qq4);obtain⟨ks,rfl⟩:=JF (l:=l) fun x hx=> h x (by simp[hx]);exact⟨d::ks,rfl⟩
theorem Tn{n:Nat}{us:X Vx.U}(h:Vx.OfTy Tryz.prog n 150 us): ∃x:X (X Yv),us=[.isl false (x.map Vx.cS)]/\(x.length<=9223372036854775807):=by cases n with|zero=> exact h.elim|succ n=>simp only[Vx.OfTy,Sz]at h;obtain⟨l,hl,aQ,bY⟩:=h;subst hl;obtain⟨ks,rfl⟩:=JF bY;exact⟨ks,rfl,by simpa[maxLen]using aQ⟩
theorem Tk{n:Nat}{us:X Vx.U}(h:Vx.OfTy Tryz.prog n 156 us): ∃x:qF,us=lA x:=by
  cases n with
  |zero=> exact h.elim|succ n=>
    simp only[Vx.OfTy,Sw,Zk]at h;obtain⟨hl,hf⟩:=h
    match us,hl with
    |[u0,u1],_=>simp only[zI,List.not_mem_nil,or_false,forall_eq_or_imp,forall_eq,ce9,List.drop,List.take]at hf;obtain⟨h0,h1⟩:=hf;obtain⟨a0,e0⟩:=pg h0;simp only[List.cons.injEq,and_true]at e0;subst e0;obtain⟨a1,e1⟩:=pg h1;simp only[List.cons.injEq,and_true]at e1;subst e1;exact⟨⟨a0,a1⟩,rfl⟩
theorem JE{n:Nat}: ∀{l:X (X Vx.U)},(∀c∈l,Vx.OfTy Tryz.prog n 156 c)->∃ks:X qF,l=ks.map lA
  |[],_=> ⟨[],rfl⟩|c::l,h=> by obtain⟨d,rfl⟩:=Tk (h c qq4);obtain⟨ks,rfl⟩:=JE (l:=l) fun x hx=> h x (by simp[hx]);exact⟨d::ks,rfl⟩
theorem Tm{n:Nat}{us:X Vx.U}(h:Vx.OfTy Tryz.prog n 151 us): ∃x:X qF,us=[.isl false (x.map lA)]/\(x.length<=9223372036854775807):=by cases n with|zero=> exact h.elim|succ n=>simp only[Vx.OfTy,Sy]at h;obtain⟨l,hl,aQ,bY⟩:=h;subst hl;obtain⟨ks,rfl⟩:=JE bY;exact⟨ks,rfl,by simpa[maxLen]using aQ⟩
theorem Tl{n:Nat}{us:X Vx.U}(h:Vx.OfTy Tryz.prog n 153 us): ∃x:bG,us=bL x/\((x.Supers.length<=9223372036854775807)/\(x.Feats.length<=9223372036854775807)):=by
  cases n with
  |zero=> exact h.elim|succ n=>
    simp only[Vx.OfTy,Sx,Zl]at h;obtain⟨hl,hf⟩:=h
    match us,hl with
    |[u0,u1,u2],_=>simp only[zI,List.not_mem_nil,or_false,forall_eq_or_imp,forall_eq,Zn,Zm,ce9,List.drop,List.take]at hf;obtain⟨h0,h1,h2⟩:=hf;obtain⟨a0,e0⟩:=pg h0;simp only[List.cons.injEq,and_true]at e0;subst e0;obtain⟨a1,e1,k1⟩:=Tn h1;simp only[List.cons.injEq,and_true]at e1;subst e1;obtain⟨a2,e2,k2⟩:=Tm h2;simp only[List.cons.injEq,and_true]at e2;subst e2;exact⟨⟨a0,a1,a2⟩,rfl,⟨k1,k2⟩⟩
theorem VK{n:Nat}: ∀{l:X (X Vx.U)},(∀c∈l,Vx.OfTy Tryz.prog n 153 c)->∃ks:X bG,l=ks.map bL/\∀q∈ks,(q.Supers.length<=9223372036854775807)/\(q.Feats.length<=9223372036854775807)
  |[],_=> ⟨[],rfl,by simp⟩|c::l,h=> by obtain⟨d,rfl,hk⟩:=Tl (h c qq4);obtain⟨ks,rfl,xE⟩:=VK (l:=l) fun x hx=> h x (by simp[hx]);exact⟨d::ks,rfl,by intro q hq;rcases zI.1 hq with rfl |hq;exact hk;exact xE q hq⟩
theorem Y?{n:Nat}{us:X Vx.U}(h:Vx.OfTy Tryz.prog n 22 us): ∃x:X bG,us=[.isl false (x.map bL)]/\(x.length<=9223372036854775807/\∀q∈x,(q.Supers.length<=9223372036854775807)/\(q.Feats.length<=9223372036854775807)):=by cases n with|zero=> exact h.elim|succ n=>simp only[Vx.OfTy,Sv]at h;obtain⟨l,hl,aQ,bY⟩:=h;subst hl;obtain⟨ks,rfl,xE⟩:=VK bY;exact⟨ks,rfl,by simpa[maxLen]using aQ,xE⟩
theorem Jv{n:Nat}{us:X Vx.U}(h:Vx.OfTy Tryz.prog n 3 us): ∃i,us=[.int .i64 i]:=by cases n with|zero=> exact h.elim|succ n=> simp only[Vx.OfTy,pu3]at h;obtain⟨i,rfl,_⟩:=h;exact⟨i,rfl⟩
theorem Tp{n:Nat}{us:X Vx.U}(h:Vx.OfTy Tryz.prog n 105 us): ∃x:aR,us=bF x:=by
  cases n with
  |zero=> exact h.elim|succ n=>
    simp only[Vx.OfTy,Ta,Zo]at h;obtain⟨hl,hf⟩:=h
    match us,hl with
    |[u0,u1],_=>simp only[zI,List.not_mem_nil,or_false,forall_eq_or_imp,forall_eq,ce3,List.drop,List.take]at hf;obtain⟨h0,h1⟩:=hf;obtain⟨a0,e0⟩:=Jv h0;simp only[List.cons.injEq,and_true]at e0;subst e0;obtain⟨a1,e1⟩:=Jv h1;simp only[List.cons.injEq,and_true]at e1;subst e1;exact⟨⟨a0,a1⟩,rfl⟩
theorem VG{n:Nat}: ∀{l:X (X Vx.U)},(∀c∈l,Vx.OfTy Tryz.prog n 105 c)->∃ks:X aR,l=ks.map bF
  |[],_=> ⟨[],rfl⟩|c::l,h=> by obtain⟨d,rfl⟩:=Tp (h c qq4);obtain⟨ks,rfl⟩:=VG (l:=l) fun x hx=> h x (by simp[hx]);exact⟨d::ks,rfl⟩
theorem T?{n:Nat}{us:X Vx.U}(h:Vx.OfTy Tryz.prog n 77 us): ∃x:X aR,us=[.isl false (x.map bF)]/\(x.length<=9223372036854775807):=by cases n with|zero=> exact h.elim|succ n=>simp only[Vx.OfTy,M?]at h;obtain⟨l,hl,aQ,bY⟩:=h;subst hl;obtain⟨ks,rfl⟩:=VG bY;exact⟨ks,rfl,by simpa[maxLen]using aQ⟩
theorem S?{n:Nat}{us:X Vx.U}(h:Vx.OfTy Tryz.prog n 79 us): ∃x:aO,us=b7 x/\((x.Arcs.length<=9223372036854775807)):=by
  cases n with
  |zero=> exact h.elim|succ n=>
    simp only[Vx.OfTy,L?,ce79]at h;obtain⟨hl,hf⟩:=h
    match us,hl with
    |[u0,u1],_=>simp only[zI,List.not_mem_nil,or_false,forall_eq_or_imp,forall_eq,ce3,ce77,List.drop,List.take]at hf;obtain⟨h0,h1⟩:=hf;obtain⟨a0,e0⟩:=Jv h0;simp only[List.cons.injEq,and_true]at e0;subst e0;obtain⟨a1,e1,k1⟩:=T? h1;simp only[List.cons.injEq,and_true]at e1;subst e1;exact⟨⟨a0,a1⟩,rfl,k1⟩
theorem VH{n:Nat}: ∀{l:X (X Vx.U)},(∀c∈l,Vx.OfTy Tryz.prog n 79 c)->∃ks:X aO,l=ks.map b7/\∀q∈ks,(q.Arcs.length<=9223372036854775807)
  |[],_=> ⟨[],rfl,by simp⟩|c::l,h=> by obtain⟨d,rfl,hk⟩:=S? (h c qq4);obtain⟨ks,rfl,xE⟩:=VH (l:=l) fun x hx=> h x (by simp[hx]);exact⟨d::ks,rfl,by intro q hq;rcases zI.1 hq with rfl |hq;exact hk;exact xE q hq⟩
theorem W?{n:Nat}{us:X Vx.U}(h:Vx.OfTy Tryz.prog n 37 us): ∃x:X aO,us=[.isl false (x.map b7)]/\(x.length<=9223372036854775807/\∀q∈x,(q.Arcs.length<=9223372036854775807)):=by cases n with|zero=> exact h.elim|succ n=>simp only[Vx.OfTy,P?]at h;obtain⟨l,hl,aQ,bY⟩:=h;subst hl;obtain⟨ks,rfl,xE⟩:=VH bY;exact⟨ks,rfl,by simpa[maxLen]using aQ,xE⟩
theorem V?{n:Nat}{us:X Vx.U}(h:Vx.OfTy Tryz.prog n 39 us): ∃x:GFS,us=kI x/\((x.Nodes.length<=9223372036854775807/\∀q∈x.Nodes,(q.Arcs.length<=9223372036854775807))):=by
  cases n with
  |zero=> exact h.elim|succ n=>
    simp only[Vx.OfTy,O?,Zj]at h;obtain⟨hl,hf⟩:=h
    match us,hl with
    |[u0],_=>simp only[zI,List.not_mem_nil,or_false,forall_eq_or_imp,forall_eq,ce37,List.drop,List.take]at hf;have h0:=hf;obtain⟨a0,e0,k0⟩:=W? h0;simp only[List.cons.injEq,and_true]at e0;subst e0;exact⟨⟨a0⟩,rfl,k0⟩
theorem U?{n:Nat}{us:X Vx.U}(h:Vx.OfTy Tryz.prog n 41 us): ∃x:sA,us=oY x/\(((x.F.Nodes.length<=9223372036854775807/\∀q∈x.F.Nodes,(q.Arcs.length<=9223372036854775807)))):=by
  cases n with
  |zero=> exact h.elim|succ n=>
    simp only[Vx.OfTy,N?,ce41]at h;obtain⟨hl,hf⟩:=h
    match us,hl with
    |[u0,u1,u2,u3],_=>simp only[zI,List.not_mem_nil,or_false,forall_eq_or_imp,forall_eq,ce3,Zj,List.drop,List.take]at hf;obtain⟨h0,h1,h2,h3⟩:=hf;obtain⟨a0,e0⟩:=Jv h0;simp only[List.cons.injEq,and_true]at e0;subst e0;obtain⟨a1,e1⟩:=Jv h1;simp only[List.cons.injEq,and_true]at e1;subst e1;obtain⟨a2,e2⟩:=Jv h2;simp only[List.cons.injEq,and_true]at e2;subst e2;obtain⟨a3,e3,k3⟩:=V? h3;simp only[kI,List.cons.injEq,and_true]at e3;obtain⟨rfl⟩:=e3;exact⟨⟨a0,a1,a2,a3⟩,rfl,k3⟩
theorem VJ{n:Nat}: ∀{l:X (X Vx.U)},(∀c∈l,Vx.OfTy Tryz.prog n 41 c)->∃ks:X sA,l=ks.map oY/\∀q∈ks,((q.F.Nodes.length<=9223372036854775807/\∀qq∈q.F.Nodes,(qq.Arcs.length<=9223372036854775807)))
  |[],_=> ⟨[],rfl,by simp⟩|c::l,h=> by obtain⟨d,rfl,hk⟩:=U? (h c qq4);obtain⟨ks,rfl,xE⟩:=VJ (l:=l) fun x hx=> h x (by simp[hx]);exact⟨d::ks,rfl,by intro q hq;rcases zI.1 hq with rfl |hq;exact hk;exact xE q hq⟩
theorem X?{n:Nat}{us:X Vx.U}(h:Vx.OfTy Tryz.prog n 23 us): ∃x:X sA,us=[.isl false (x.map oY)]/\(x.length<=9223372036854775807/\∀q∈x,((q.F.Nodes.length<=9223372036854775807/\∀qq∈q.F.Nodes,(qq.Arcs.length<=9223372036854775807)))):=by cases n with|zero=> exact h.elim|succ n=>simp only[Vx.OfTy,Su]at h;obtain⟨l,hl,aQ,bY⟩:=h;subst hl;obtain⟨ks,rfl,xE⟩:=VJ bY;exact⟨ks,rfl,by simpa[maxLen]using aQ,xE⟩
theorem Zw{u:Vx.U}(h:Vx.OfArg Tryz.prog 22 u): ∃x:X bG,u=.isl false (x.map bL)/\(x.length<=9223372036854775807/\∀q∈x,(q.Supers.length<=9223372036854775807)/\(q.Feats.length<=9223372036854775807)):=by obtain⟨n,us,h1,h2⟩:=h;simp only[Sv]at h2;obtain⟨x,rfl,hk⟩:=Y? h1;exact⟨x,by first |exact h2 |simpa using h2 |simpa using h2.symm,hk⟩
theorem Zv{u:Vx.U}(h:Vx.OfArg Tryz.prog 23 u): ∃x:X sA,u=.isl false (x.map oY)/\(x.length<=9223372036854775807/\∀q∈x,((q.F.Nodes.length<=9223372036854775807/\∀qq∈q.F.Nodes,(qq.Arcs.length<=9223372036854775807)))):=by obtain⟨n,us,h1,h2⟩:=h;simp only[Su]at h2;obtain⟨x,rfl,hk⟩:=X? h1;exact⟨x,by first |exact h2 |simpa using h2 |simpa using h2.symm,hk⟩
set_option maxRecDepth 100000 in
theorem lifted (os : Os) (started : os.Started) (H : Type) (enc : TypeId × Value -> H) :
    ReturnsInHanded {} Tryz.checked os 3 .any (Rows.quasiPlaysSpec.pre6 enc Tryz.prog Tryz.f3 Rows.quasiPlaysRow.domain false) (Rows.quasiPlaysSpec.post enc Tryz.prog Tryz.f3 false true false false):=by
  refine returnsInHanded_of_change (C:=Tryz.checked) own started qq1 Tryz.func3
    (ChangeSpec.witness6 (enc:=enc) (C:=Tryz.checked) false ⟨#[], #[.slice none 0 0, .slice none 0 0],[]⟩ 3 qq1 qq1 qq1 qq1) ?_
  intro W base args ds gs before TM hW hcnd _;have eK : ∀(j:Nat) t v,Tryz.f3.params[j]? = some t->args[j]? = some v->Value.okWide Tryz.prog W .any base t v:=TM;have hW':=hW;obtain⟨p,q,hA0,hV,rfl,hfz,oS⟩:=hW;have hA:DataW.TrodAll enc Tryz.prog W 0 (fun _=> true) true Tryz.f3.params.toList args.toList ds p:=hA0;rw[Tryz.params3]at hA eK;obtain⟨us,k1,k2,k3⟩:=Vx.args_rep closed qq3 (fun j t v h1 h2=> eK j t v (by simpa using h1) (by simpa using h2)) hA;obtain⟨v0,zl,d0,Ld,p0,q0,hargs0,rfl,rfl,h0,r0⟩:=trodAll_cons hA;obtain⟨v1,db,d1,JG,p1,q1,hargs1,rfl,rfl,h1,r1⟩:=trodAll_cons r0;obtain⟨rfl,rfl,rfl⟩:=trodAll_nil r1;obtain⟨rfl,rfl⟩:=trodVars_none hV;simp only[Vx.OfArgs]at k3;obtain⟨u0,Fq,rfl,m0,u1,us1,rfl,m1,rfl⟩:=k3;obtain⟨X0,rfl,H0⟩:=Zw m0;obtain⟨X1,rfl,H1⟩:=Zv m1;clear hA0 TM;refine(Vx.law_calls ((qhu _ X0 X1 true (z1j X0 X1 H1.1 (zF _))).mono fun u s h=> h.1) k1 k2).mono fun e W' ⟨he,hg⟩=> ?_;subst he;exact⟨_,rfl,Rx.law_post hW' laid qq1 hg rfl rfl Tryz.underlying4 rfl rfl rfl⟩
theorem over:Rows.quasiPlaysRow.holds Tryz.pinned (OpenSpec.ofChange Rows.quasiPlaysSpec):=
  OpenClaim.holds_of_wide 3 Tryz.f3 rfl rfl rfl rfl rfl rfl rfl ⟨rfl,rfl,rfl,rfl,rfl⟩ rfl rfl rfl rfl rfl qq1 Tryz.func3 qq1
    (of_decide_eq_true qq1) (by unfold Func.isWrapper;first |(rw[if_pos (by decide+kernel)];kernel_rfl)|(rw[if_neg (by decide+kernel)];exact⟨rfl,rfl⟩))
    (fun os started H enc _=> lifted os started H enc)
theorem proved:Rows.QuasiPlaysSaid :=
  over
#print axioms proved
end Go.Proofs.YtmflfedkfdkipaaGreat.quasiPlays
