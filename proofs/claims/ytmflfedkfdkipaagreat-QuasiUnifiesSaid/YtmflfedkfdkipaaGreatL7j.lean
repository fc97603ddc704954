import Derived.Test.YtmflfedkfdkipaaGreatRows
import Derived.WalkKit
import Derived.ProofKit
import Derived.OpenShut
import Derived.Test.YtmflfedkfdkipaaGreatP22
namespace Go.Proofs.YtmflfedkfdkipaaGreat.quasiUnifies
open Go.ChangeShapes Go.WideShapes Go.ChangeAt Go.RowKit
set_option linter.all false
set_option maxRecDepth 20000

theorem own:ownKnob Tryz.prog.godebug=none:=ag
theorem laid:laidOutB Tryz.prog=true:=ag
theorem Zb:Tryz.prog.underlying 22=some (.slice 153):=ag
theorem ce22:Tryz.prog.cellsOf 22=1:=ag
theorem Zd:Tryz.prog.underlying 153=some (.struct #[⟨ "Name",9,0,false,"","",0⟩,⟨ "Supers",150,1,false,"","",16⟩,⟨ "Feats",151,2,false,"","",40⟩]):=ag
theorem lu:Tryz.prog.cellsOf 153=3:=ag
theorem pu9:Tryz.prog.underlying 9=some (.string):=ag
theorem ce9:Tryz.prog.cellsOf 9=1:=ag
theorem Zg:Tryz.prog.underlying 150=some (.slice 9):=ag
theorem mc:Tryz.prog.cellsOf 150=1:=ag
theorem Ze:Tryz.prog.underlying 151=some (.slice 156):=ag
theorem lw:Tryz.prog.cellsOf 151=1:=ag
theorem Zc:Tryz.prog.underlying 156=some (.struct #[⟨ "Feat",9,0,false,"","",0⟩,⟨ "Value",9,1,false,"","",16⟩]):=ag
theorem lr:Tryz.prog.cellsOf 156=2:=ag
theorem Za:Tryz.prog.underlying 23=some (.slice 41):=ag
theorem ce23:Tryz.prog.cellsOf 23=1:=ag
theorem pu41:Tryz.prog.underlying 41=some (.struct #[⟨ "Kind",3,0,false,"","",0⟩,⟨ "A",3,1,false,"","",8⟩,⟨ "B",3,2,false,"","",16⟩,⟨ "F",39,3,false,"","",24⟩]):=ag
theorem N!:Tryz.prog.cellsOf 41=4:=ag
theorem pu3:Tryz.prog.underlying 3=some (.int .i64):=ag
theorem W!:Tryz.prog.cellsOf 3=1:=ag
theorem pu39:Tryz.prog.underlying 39=some (.struct #[⟨ "Nodes",37,0,false,"","",0⟩]):=ag
theorem lq:Tryz.prog.cellsOf 39=1:=ag
theorem Qk:Tryz.prog.underlying 37=some (.slice 79):=ag
theorem Qw:Tryz.prog.cellsOf 37=1:=ag
theorem WC:Tryz.prog.underlying 79=some (.struct #[⟨ "Type",3,0,false,"","",0⟩,⟨ "Arcs",77,1,false,"","",8⟩]):=ag
theorem ce79:Tryz.prog.cellsOf 79=2:=ag
theorem pu77:Tryz.prog.underlying 77=some (.slice 105):=ag
theorem ce77:Tryz.prog.cellsOf 77=1:=ag
theorem Zh:Tryz.prog.underlying 105=some (.struct #[⟨ "Feat",3,0,false,"","",0⟩,⟨ "To",3,1,false,"","",8⟩]):=ag
theorem me:Tryz.prog.cellsOf 105=2:=ag
theorem Yz:Tryz.prog.underlying 61=some (.array 2 5):=ag
theorem ce61:Tryz.prog.cellsOf 61=2:=ag
theorem pu5:Tryz.prog.underlying 5=some (.int .u8):=ag
theorem ce5:Tryz.prog.cellsOf 5=1:=ag
theorem closed:Vx.gY Tryz.prog [22, 153, 9, 150, 151, 156, 23, 41, 3, 39, 37, 79, 77, 105, 61, 5]=true:=ag
theorem y_{n:Nat}{us:X Vx.U}(h:Vx.J3 Tryz.prog n 9 us): ∃s,us=[.str s]:=by cases n with|zero=> exact h.elim|succ n=> simp only[Vx.J3,pu9]at h;obtain⟨i,rfl,_⟩:=h;exact⟨i,rfl⟩
theorem MF{n:Nat}: ∀{l:X (X Vx.U)},(∀c∈l,Vx.J3 Tryz.prog n 9 c)->∃ks:X (X Yv),l=ks.map Vx.cS
  |[],_=> ⟨[],rfl⟩|c::l,h=> by obtain⟨d,rfl⟩:=y_ (h c aZ);obtain⟨ks,rfl⟩:=MF (l:=l) fun x hx=> h x (by simp[hx]);exact⟨d::ks,rfl⟩
theorem Zt{n:Nat}{us:X Vx.U}(h:Vx.J3 Tryz.prog n 150 us): ∃x:X (X Yv),us=[.O false (x.map Vx.cS)]/\(x.length<=9223372036854775807):=by cases n with|zero=> exact h.elim|succ n=>simp only[Vx.J3,Zg]at h;obtain⟨l,hl,aT,c5⟩:=h;subst hl;obtain⟨ks,rfl⟩:=MF c5;exact⟨ks,rfl,by simpa[maxLen]using aT⟩
theorem Zq{n:Nat}{us:X Vx.U}(h:Vx.J3 Tryz.prog n 156 us): ∃x:sH,us=mH x:=by
  cases n with
  |zero=> exact h.elim|succ n=>
    simp only[Vx.J3,Zc,lr]at h;obtain⟨hl,hf⟩:=h
    match us,hl with
    |[u0,u1],_=>simp only[zI,List.not_mem_nil,or_false,forall_eq_or_imp,forall_eq,ce9,List.drop,List.take]at hf;obtain⟨h0,h1⟩:=hf;obtain⟨a0,e0⟩:=y_ h0;simp only[List.cons.injEq,and_true]at e0;subst e0;obtain⟨a1,e1⟩:=y_ h1;simp only[List.cons.injEq,and_true]at e1;subst e1;exact⟨⟨a0,a1⟩,rfl⟩
theorem MD{n:Nat}: ∀{l:X (X Vx.U)},(∀c∈l,Vx.J3 Tryz.prog n 156 c)->∃ks:X sH,l=ks.map mH
  |[],_=> ⟨[],rfl⟩|c::l,h=> by obtain⟨d,rfl⟩:=Zq (h c aZ);obtain⟨ks,rfl⟩:=MD (l:=l) fun x hx=> h x (by simp[hx]);exact⟨d::ks,rfl⟩
theorem Zs{n:Nat}{us:X Vx.U}(h:Vx.J3 Tryz.prog n 151 us): ∃x:X sH,us=[.O false (x.map mH)]/\(x.length<=9223372036854775807):=by cases n with|zero=> exact h.elim|succ n=>simp only[Vx.J3,Ze]at h;obtain⟨l,hl,aT,c5⟩:=h;subst hl;obtain⟨ks,rfl⟩:=MD c5;exact⟨ks,rfl,by simpa[maxLen]using aT⟩
theorem Zr{n:Nat}{us:X Vx.U}(h:Vx.J3 Tryz.prog n 153 us): ∃x:bG,us=bM x/\((x.F5.length<=9223372036854775807)/\(x.E6.length<=9223372036854775807)):=by
  cases n with
  |zero=> exact h.elim|succ n=>
    simp only[Vx.J3,Zd,lu]at h;obtain⟨hl,hf⟩:=h
    match us,hl with
    |[u0,u1,u2],_=>simp only[zI,List.not_mem_nil,or_false,forall_eq_or_imp,forall_eq,mc,lw,ce9,List.drop,List.take]at hf;obtain⟨h0,h1,h2⟩:=hf;obtain⟨a0,e0⟩:=y_ h0;simp only[List.cons.injEq,and_true]at e0;subst e0;obtain⟨a1,e1,k1⟩:=Zt h1;simp only[List.cons.injEq,and_true]at e1;subst e1;obtain⟨a2,e2,k2⟩:=Zs h2;simp only[List.cons.injEq,and_true]at e2;subst e2;exact⟨⟨a0,a1,a2⟩,rfl,⟨k1,k2⟩⟩
theorem YR{n:Nat}: ∀{l:X (X Vx.U)},(∀c∈l,Vx.J3 Tryz.prog n 153 c)->∃ks:X bG,l=ks.map bM/\∀q∈ks,(q.F5.length<=9223372036854775807)/\(q.E6.length<=9223372036854775807)
  |[],_=> ⟨[],rfl,by simp⟩|c::l,h=> by obtain⟨d,rfl,hk⟩:=Zr (h c aZ);obtain⟨ks,rfl,AO⟩:=YR (l:=l) fun x hx=> h x (by simp[hx]);exact⟨d::ks,rfl,by intro q hq;rcases zI.1 hq with rfl |hq;exact hk;exact AO q hq⟩
theorem of22{n:Nat}{us:X Vx.U}(h:Vx.J3 Tryz.prog n 22 us): ∃x:X bG,us=[.O false (x.map bM)]/\(x.length<=9223372036854775807/\∀q∈x,(q.F5.length<=9223372036854775807)/\(q.E6.length<=9223372036854775807)):=by cases n with|zero=> exact h.elim|succ n=>simp only[Vx.J3,Zb]at h;obtain⟨l,hl,aT,c5⟩:=h;subst hl;obtain⟨ks,rfl,AO⟩:=YR c5;exact⟨ks,rfl,by simpa[maxLen]using aT,AO⟩
theorem Px{n:Nat}{us:X Vx.U}(h:Vx.J3 Tryz.prog n 3 us): ∃i,us=[.int .i64 i]:=by cases n with|zero=> exact h.elim|succ n=> simp only[Vx.J3,pu3]at h;obtain⟨i,rfl,_⟩:=h;exact⟨i,rfl⟩
theorem Zu{n:Nat}{us:X Vx.U}(h:Vx.J3 Tryz.prog n 105 us): ∃x:aI,us=aU x:=by
  cases n with
  |zero=> exact h.elim|succ n=>
    simp only[Vx.J3,Zh,me]at h;obtain⟨hl,hf⟩:=h
    match us,hl with
    |[u0,u1],_=>simp only[zI,List.not_mem_nil,or_false,forall_eq_or_imp,forall_eq,W!,List.drop,List.take]at hf;obtain⟨h0,h1⟩:=hf;obtain⟨a0,e0⟩:=Px h0;simp only[List.cons.injEq,and_true]at e0;subst e0;obtain⟨a1,e1⟩:=Px h1;simp only[List.cons.injEq,and_true]at e1;subst e1;exact⟨⟨a0,a1⟩,rfl⟩
theorem YO{n:Nat}: ∀{l:X (X Vx.U)},(∀c∈l,Vx.J3 Tryz.prog n 105 c)->∃ks:X aI,l=ks.map aU
  |[],_=> ⟨[],rfl⟩|c::l,h=> by obtain⟨d,rfl⟩:=Zu (h c aZ);obtain⟨ks,rfl⟩:=YO (l:=l) fun x hx=> h x (by simp[hx]);exact⟨d::ks,rfl⟩
theorem of77{n:Nat}{us:X Vx.U}(h:Vx.J3 Tryz.prog n 77 us): ∃x:X aI,us=[.O false (x.map aU)]/\(x.length<=9223372036854775807):=by cases n with|zero=> exact h.elim|succ n=>simp only[Vx.J3,pu77]at h;obtain⟨l,hl,aT,c5⟩:=h;subst hl;obtain⟨ks,rfl⟩:=YO c5;exact⟨ks,rfl,by simpa[maxLen]using aT⟩
theorem UG{n:Nat}{us:X Vx.U}(h:Vx.J3 Tryz.prog n 79 us): ∃x:aK,us=bA x/\((x.E4.length<=9223372036854775807)):=by
  cases n with
  |zero=> exact h.elim|succ n=>
    simp only[Vx.J3,WC,ce79]at h;obtain⟨hl,hf⟩:=h
    match us,hl with
    |[u0,u1],_=>simp only[zI,List.not_mem_nil,or_false,forall_eq_or_imp,forall_eq,W!,ce77,List.drop,List.take]at hf;obtain⟨h0,h1⟩:=hf;obtain⟨a0,e0⟩:=Px h0;simp only[List.cons.injEq,and_true]at e0;subst e0;obtain⟨a1,e1,k1⟩:=of77 h1;simp only[List.cons.injEq,and_true]at e1;subst e1;exact⟨⟨a0,a1⟩,rfl,k1⟩
theorem YP{n:Nat}: ∀{l:X (X Vx.U)},(∀c∈l,Vx.J3 Tryz.prog n 79 c)->∃ks:X aK,l=ks.map bA/\∀q∈ks,(q.E4.length<=9223372036854775807)
  |[],_=> ⟨[],rfl,by simp⟩|c::l,h=> by obtain⟨d,rfl,hk⟩:=UG (h c aZ);obtain⟨ks,rfl,AO⟩:=YP (l:=l) fun x hx=> h x (by simp[hx]);exact⟨d::ks,rfl,by intro q hq;rcases zI.1 hq with rfl |hq;exact hk;exact AO q hq⟩
theorem of37{n:Nat}{us:X Vx.U}(h:Vx.J3 Tryz.prog n 37 us): ∃x:X aK,us=[.O false (x.map bA)]/\(x.length<=9223372036854775807/\∀q∈x,(q.E4.length<=9223372036854775807)):=by cases n with|zero=> exact h.elim|succ n=>simp only[Vx.J3,Qk]at h;obtain⟨l,hl,aT,c5⟩:=h;subst hl;obtain⟨ks,rfl,AO⟩:=YP c5;exact⟨ks,rfl,by simpa[maxLen]using aT,AO⟩
theorem of39{n:Nat}{us:X Vx.U}(h:Vx.J3 Tryz.prog n 39 us): ∃x:az,us=eY x/\((x.D9.length<=9223372036854775807/\∀q∈x.D9,(q.E4.length<=9223372036854775807))):=by
  cases n with
  |zero=> exact h.elim|succ n=>
    simp only[Vx.J3,pu39,lq]at h;obtain⟨hl,hf⟩:=h
    match us,hl with
    |[u0],_=>simp only[zI,List.not_mem_nil,or_false,forall_eq_or_imp,forall_eq,Qw,List.drop,List.take]at hf;have h0:=hf;obtain⟨a0,e0,k0⟩:=of37 h0;simp only[List.cons.injEq,and_true]at e0;subst e0;exact⟨⟨a0⟩,rfl,k0⟩
theorem of41{n:Nat}{us:X Vx.U}(h:Vx.J3 Tryz.prog n 41 us): ∃x:rX,us=qH x/\(((x.F.D9.length<=9223372036854775807/\∀q∈x.F.D9,(q.E4.length<=9223372036854775807)))):=by
  cases n with
  |zero=> exact h.elim|succ n=>
    simp only[Vx.J3,pu41,N!]at h;obtain⟨hl,hf⟩:=h
    match us,hl with
    |[u0,u1,u2,u3],_=>simp only[zI,List.not_mem_nil,or_false,forall_eq_or_imp,forall_eq,W!,lq,List.drop,List.take]at hf;obtain⟨h0,h1,h2,h3⟩:=hf;obtain⟨a0,e0⟩:=Px h0;simp only[List.cons.injEq,and_true]at e0;subst e0;obtain⟨a1,e1⟩:=Px h1;simp only[List.cons.injEq,and_true]at e1;subst e1;obtain⟨a2,e2⟩:=Px h2;simp only[List.cons.injEq,and_true]at e2;subst e2;obtain⟨a3,e3,k3⟩:=of39 h3;simp only[eY,List.cons.injEq,and_true]at e3;obtain⟨rfl⟩:=e3;exact⟨⟨a0,a1,a2,a3⟩,rfl,k3⟩
theorem YQ{n:Nat}: ∀{l:X (X Vx.U)},(∀c∈l,Vx.J3 Tryz.prog n 41 c)->∃ks:X rX,l=ks.map qH/\∀q∈ks,((q.F.D9.length<=9223372036854775807/\∀qq∈q.F.D9,(qq.E4.length<=9223372036854775807)))
  |[],_=> ⟨[],rfl,by simp⟩|c::l,h=> by obtain⟨d,rfl,hk⟩:=of41 (h c aZ);obtain⟨ks,rfl,AO⟩:=YQ (l:=l) fun x hx=> h x (by simp[hx]);exact⟨d::ks,rfl,by intro q hq;rcases zI.1 hq with rfl |hq;exact hk;exact AO q hq⟩
theorem of23{n:Nat}{us:X Vx.U}(h:Vx.J3 Tryz.prog n 23 us): ∃x:X rX,us=[.O false (x.map qH)]/\(x.length<=9223372036854775807/\∀q∈x,((q.F.D9.length<=9223372036854775807/\∀qq∈q.F.D9,(qq.E4.length<=9223372036854775807)))):=by cases n with|zero=> exact h.elim|succ n=>simp only[Vx.J3,Za]at h;obtain⟨l,hl,aT,c5⟩:=h;subst hl;obtain⟨ks,rfl,AO⟩:=YQ c5;exact⟨ks,rfl,by simpa[maxLen]using aT,AO⟩
theorem of5{n:Nat}{us:X Vx.U}(h:Vx.J3 Tryz.prog n 5 us): ∃i,us=[.int .u8 i]/\(0<=i/\i<=255):=by cases n with|zero=> exact h.elim|succ n=> simp only[Vx.J3,pu5]at h;obtain⟨i,rfl,hw⟩:=h;exact⟨i,rfl,by simpa[Lit.wf,IntKind.min,IntKind.max,IntKind.bits,IntKind.signed]using hw⟩
theorem of61{n:Nat}{us:X Vx.U}(h:Vx.J3 Tryz.prog n 61 us): ∃x:Nj,us=qmq x/\((0<=x.E0/\x.E0<=255)/\(0<=x.E1/\x.E1<=255)):=by
  cases n with
  |zero=> exact h.elim|succ n=>
    simp only[Vx.J3,Yz,ce61]at h;obtain⟨hl,hf⟩:=h
    match us,hl with
    |[u0,u1],_=>simp only[zI,List.not_mem_nil,or_false,forall_eq_or_imp,forall_eq,ce5,List.drop,List.take]at hf;have h0:=hf 0 af;have h1:=hf 1 af;simp only[Nat.zero_mul,Nat.one_mul,Nat.mul_one,List.drop,List.take]at h0 h1;obtain⟨a0,e0,k0⟩:=of5 h0;simp only[List.cons.injEq,and_true]at e0;subst e0;obtain⟨a1,e1,k1⟩:=of5 h1;simp only[List.cons.injEq,and_true]at e1;subst e1;exact⟨⟨a0,a1⟩,rfl,⟨k0,k1⟩⟩
theorem mz{u:Vx.U}(h:Vx.Z8 Tryz.prog 22 u): ∃x:X bG,u=.O false (x.map bM)/\(x.length<=9223372036854775807/\∀q∈x,(q.F5.length<=9223372036854775807)/\(q.E6.length<=9223372036854775807)):=by obtain⟨n,us,h1,h2⟩:=h;simp only[Zb]at h2;obtain⟨x,rfl,hk⟩:=of22 h1;exact⟨x,by first |exact h2 |simpa using h2 |simpa using h2.symm,hk⟩
theorem mw{u:Vx.U}(h:Vx.Z8 Tryz.prog 23 u): ∃x:X rX,u=.O false (x.map qH)/\(x.length<=9223372036854775807/\∀q∈x,((q.F.D9.length<=9223372036854775807/\∀qq∈q.F.D9,(qq.E4.length<=9223372036854775807)))):=by obtain⟨n,us,h1,h2⟩:=h;simp only[Za]at h2;obtain⟨x,rfl,hk⟩:=of23 h1;exact⟨x,by first |exact h2 |simpa using h2 |simpa using h2.symm,hk⟩
theorem mu{u:Vx.U}(h:Vx.Z8 Tryz.prog 61 u): ∃x:Nj,u=.agg (qmq x)/\((0<=x.E0/\x.E0<=255)/\(0<=x.E1/\x.E1<=255)):=by obtain⟨n,us,h1,h2⟩:=h;simp only[Yz]at h2;subst h2;obtain⟨x,rfl,hk⟩:=of61 h1;exact⟨x,rfl,hk⟩
set_option maxRecDepth 100000 in
theorem lifted (os : Os) (started : os.Started) (H : Type) (enc : TypeId × Value -> H) :
    ReturnsInHanded {} Tryz.checked os 7 .any (Rows.quasiUnifiesSpec.pre6 enc Tryz.prog Tryz.f7 Rows.quasiUnifiesRow.domain false) (Rows.quasiUnifiesSpec.post enc Tryz.prog Tryz.f7 false true false false):=by
  refine returnsInHanded_of_change (C:=Tryz.checked) own started ag Tryz.func7
    (ChangeSpec.witness6 (enc:=enc) (C:=Tryz.checked) false ⟨#[], #[.slice none 0 0, .slice none 0 0, .agg #[.int .u8 0, .int .u8 0]],[]⟩ 7 ag ag ag ag) ?_
  intro W base args ds gs before WV hW hcnd _;have eV : ∀(j:Nat) t v,Tryz.f7.params[j]? = some t->args[j]? = some v->Value.okWide Tryz.prog W .any base t v:=WV;have hW':=hW;obtain⟨p,q,hA0,hV,rfl,hfz,pD⟩:=hW;have hA:DataW.TrodAll enc Tryz.prog W 0 (fun _=> true) true Tryz.f7.params.toList args.toList ds p:=hA0;rw[Tryz.params7]at hA eV;obtain⟨us,k1,k2,k3⟩:=Vx.hP closed bF (fun j t v h1 h2=> eV j t v (by simpa using h1) (by simpa using h2)) hA;obtain⟨v0,pb,d0,Re,p0,q0,hargs0,rfl,rfl,h0,r0⟩:=trodAll_cons hA;obtain⟨v1,vs1,d1,MG,p1,q1,hargs1,rfl,rfl,h1,r1⟩:=trodAll_cons r0;obtain⟨v2,IV,d2,ds2,p2,q2,hargs2,rfl,rfl,h2,r2⟩:=trodAll_cons r1;obtain⟨rfl,rfl,rfl⟩:=trodAll_nil r2;obtain⟨rfl,rfl⟩:=trodVars_none hV;simp only[Vx.iY]at k3;obtain⟨u0,Lk,rfl,m0,u1,us1,rfl,m1,u2,us2,rfl,m2,rfl⟩:=k3;obtain⟨X0,rfl,H0⟩:=mz m0;obtain⟨X1,rfl,H1⟩:=mw m1;obtain⟨X2,rfl,H2⟩:=mu m2;clear hA0 WV;refine(Vx.jS ((qhj _ X0 X1 X2 true (qwi X0 X1 X2 H1.1 H2 (zF _))).mono fun u s h=> h.1) k1 k2).mono fun e W' ⟨he,hg⟩=> ?_;subst he;exact⟨_,rfl,Rx.hY hW' laid ag hg rfl rfl Tryz.underlying4 rfl rfl rfl⟩
theorem over:Rows.quasiUnifiesRow.holds Tryz.pinned (OpenSpec.ofChange Rows.quasiUnifiesSpec):=
  OpenClaim.holds_of_wide 7 Tryz.f7 rfl rfl rfl rfl rfl rfl rfl ⟨rfl,rfl,rfl,rfl,rfl⟩ rfl rfl rfl rfl rfl ag Tryz.func7 ag
    (of_decide_eq_true ag) (by unfold Func.isWrapper;first |(rw[if_pos (by decide+kernel)];kernel_rfl)|(rw[if_neg (by decide+kernel)];exact⟨rfl,rfl⟩))
    (fun os started H enc _=> lifted os started H enc)
theorem proved:Rows.QuasiUnifiesSaid :=
  over
#print axioms proved
end Go.Proofs.YtmflfedkfdkipaaGreat.quasiUnifies
