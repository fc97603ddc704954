import Derived.Test.YtmflfedkfdkipaaGreatP18
set_option linter.all false
namespace Go.Proofs
open Go Go.Rx Go.Vx Tryz
set_option maxRecDepth 20000
set_option maxHeartbeats 4000000
set_option synthInstance.maxSize 4000
set_option synthInstance.maxHeartbeats 200000
variable{n:Nat}
theorem me{f:GFS}(hf:cA f 1000)(hn:3000000<=n):G1 n f f=some true:=by
 rw[Yz hf hf hn,qk.2 rfl];rfl
theorem eo(hn:3000000<=n)(d:List aT)(l:List GFS)(hl:l.length<=9223372036854775807)(k:Int):cE prog 5 [.iM aX d,.iM fV l,.i6 k] (.bool true):=by
 obtain⟨g,ws,hg,hh⟩:=lw d (n:=n) (by omega);refine EI 143 a_ ?_;refine goN ?_;refine aI rfl (pC (nj n d g hg) _) vn ?_;refine goN ?_;by_cases h6:(l.length:Int)>6;rw[decide_eq_true h6];refine goN ?_;refine cU rfl (fun _=>?_) (fun q=>by cases q);refine goN ?_;refine aI rfl (Ki (n:=n) (by omega) _ _) yX ?_;refine goN ?_;exact rt1 rfl rfl rfl rfl;rw[decide_eq_false h6];obtain⟨b,hb,hfit⟩:=ma g (l:=l) (by omega) (n:=n) (by omega);refine goN ?_;refine aI rfl (pC (fh n g l b hb) _) Aj ?_;refine goN ?_;cases b with
 |false=>refine cU rfl (fun _=>?_) (fun q=>by cases q);refine goN ?_;refine aI rfl (Ki (n:=n) (by omega) _ _) yX ?_;refine goN ?_;exact rt1 rfl rfl rfl rfl|true=>
 refine cU rfl (fun q=>by cases q) (fun _=>?_);have hf:=hfit rfl;refine goN ?_;refine i7 rfl (eG rfl O1 rfl).2 (Vk g [(0,.row (iY g) 27)] 1) rfl rfl ?_;rintro _ _ ⟨rfl,rfl⟩;have p0:PL 1 [(0,.row (iY g) 27)] 2 (nV g) (AU g 1 [(0,.row (iY g) 27)]) 4:=Vj g (zF _) fun _ _=>rfl;refine goN ?_;have u_:l.length<=6:=by omega
 have hlen:∀{i:Nat}{f:GFS},l[i]? = some f->f.Nodes.length<=12:=fun h=>(hf _ (zX h)).sm.nodes;refine gL (fun m tm σ=>∃(i:Nat)(P:PP)(h:List (Nat×B))(nx:Nat),m=l.length-i/\i<=l.length/\Has P (l.take i)/\P.N.length<=12*i/\PL 1 [(0,.row (iY g) 27)] 2 P h nx/\tm=fr 143 [(1,.iM fV l),(2,.i6 k),(8,.ptr 2 0 0),(35,.iM fV l),(36,.i6 l.length),(37,.i6 i)]/\σ=⟨h,nx⟩)
  (fun tm σ=>∃(P:PP)(h:List (Nat×B))(nx:Nat),Has P l/\P.N.length<=12*l.length/\PL 1 [(0,.row (iY g) 27)] 2 P h nx/\tm=fr 143 [(1,.iM fV l),(2,.i6 k),(8,.ptr 2 0 0)]/\σ=⟨h,nx⟩) (l.length-0)
  ⟨0,nV g,_,4,rfl,Nat.zero_le _,by rw[List.take_zero];exact Has.new g,by simp[nV],p0,rfl,rfl⟩ ?_ ?_
 ·rintro _ _ ⟨P,h,nx,hP,hN,p,rfl,rfl⟩
  haveI:SuC nx (nx+1):=⟨rfl⟩
  refine goN ?_;refine gL (fun m tm σ=>∃(i:Nat)(h:List (Nat×B))(nx:Nat),m=l.length-i/\i<=l.length/\PL 1 [(0,.row (iY g) 27)] 2 P h nx/\tm=fr 143 [(1,.iM fV l),(2,.i6 k),(8,.ptr 2 0 0),(48,.iM fV l),(49,.i6 l.length),(50,.i6 i)]/\σ=⟨h,nx⟩)
   (fun tm σ=>∃(h:List (Nat×B))(nx:Nat),PL 1 [(0,.row (iY g) 27)] 2 P h nx/\tm=fr 143 [(1,.iM fV l),(2,.i6 k),(8,.ptr 2 0 0)]/\σ=⟨h,nx⟩) (l.length-0)
   ⟨0,h,nx,rfl,Nat.zero_le _,p,rfl,rfl⟩ ?_ ?_
  ·rintro _ _ ⟨h,nx,p,rfl,rfl⟩;have fin:∀(h:List (Nat×B))(nx:Nat),aO prog 11 [] ⟨h,nx⟩ (fun u σ'=>u=.bool true/\σ'=⟨h,nx⟩):=fun h nx=>Ki (n:=n) (by omega) h nx;refine goN ?_;by_cases hk:0<=k/\k<(l.length:Int);rw[decide_eq_true hk.1];refine goN ?_;refine cU rfl (fun _=>?_) (fun q=>absurd hk.2 (by simpa using q));refine goN ?_;refine aI rfl (fin _ _) yX ?_;refine goN ?_;exact rt1 rfl rfl rfl rfl;have hr:P.roots.length=l.length:=hP.len;have hR:rX n P k=some (⟨[]⟩,false):=en (by rw[hr];exact hk);have ow:rZ n P k 0=some ((0,false),P):=wv (by rw[hr];exact fun q=>hk q.1);have ot:rZ n P 0 k=some ((0,false),P):=wv (by rw[hr];exact fun q=>hk q.2);have rg:rW n P k 0=some (false,P):=Pk (by rw[hr];exact fun q=>hk q.1);have rf:rW n P 0 k=some (false,P):=Pk (by rw[hr];exact fun q=>hk q.2);have re:rW n P k k=some (false,P):=Pk (by rw[hr];exact fun q=>hk q.1);have rest:∀{t:List (Nat×U)},True:=fun{_}=>trivial;by_cases h0:k>=0
   all_goals
    first |rw[decide_eq_true h0] |rw[decide_eq_false h0]
    refine goN ?_;refine cU rfl (fun q=>?_) (fun _=>?_);exfalso
    first |cases q |exact hk ⟨h0,by simpa using q⟩
    haveI:SuC nx (nx+1):=⟨rfl⟩
    refine goN ?_;refine i7 rfl (eG rfl yI rfl).2 (Zc p n hR) rfl rfl ?_;rintro _ _ ⟨rfl,rfl⟩;refine goN ?_
    haveI:dK ((nx,.row [.iM bM ([]:List bS)] 39)::h) nx (.row [.iM bM ([]:List bS)] 39):=⟨by rw[aK,if_pos rfl]⟩
    refine i7 rfl (eG rfl uD rfl).2 (qv (p.more _) n ow) rfl rfl ?_;rintro _ _ ⟨h1,n1,rfl,rfl,p1⟩;refine goN ?_;refine i7 rfl (eG rfl uD rfl).2 (qv p1.pl n ot) rfl rfl ?_;rintro _ _ ⟨h2,n2,rfl,rfl,p2⟩
    haveI:dK h2 nx (.row [.iM bM ([]:List bS)] 39):=⟨p2.np _ _ (p1.np _ _ (by rw[aK,if_pos rfl];rfl) ⟨nofun,nofun,nofun⟩) ⟨nofun,nofun,nofun⟩⟩
    refine goN ?_;refine i7 rfl (eG rfl uC rfl).2 (Oi p2.pl n rg) rfl rfl ?_;rintro _ _ ⟨h3,rfl,rfl,p3⟩;refine goN ?_;refine i7 rfl (eG rfl uC rfl).2 (Oi p3.pl n rf) rfl rfl ?_;rintro _ _ ⟨h4,rfl,rfl,p4⟩;refine goN ?_;refine i7 rfl (eG rfl uC rfl).2 (Oi p4.pl n re) rfl rfl ?_;rintro _ _ ⟨h5,rfl,rfl,p5⟩;refine goN ?_;refine aI rfl (fin _ _) yX ?_;refine goN ?_;exact rt1 rfl rfl rfl rfl
  rintro m _ _ ⟨i,h,nx,rfl,hi,p,rfl,rfl⟩
  haveI:SuC nx (nx+1):=⟨rfl⟩
  haveI:SuC (nx+1) (nx+2):=⟨rfl⟩
  haveI:Nq (nx+1) nx:=⟨by rw[beq_eq];simp⟩
  refine goN ?_;refine cU rfl (fun h1=>?_) (fun h1=>?_)
  ·have hil:i<l.length:=by simpa using h1
   obtain⟨f,hfi⟩:=Cq hil;have hid:aC l (i:Int)=some f:=by rw[cP,hfi]
   refine goN ?_;apply aL;refine goN ?_;refine aP hid ?_;refine goN ?_;have hfl:=hlen hfi;refine i7 rfl (eG rfl yI rfl).2 (Zc (p.more _) n (hP.read (by omega) hfi)) rfl rfl ?_;rintro _ _ ⟨rfl,rfl⟩;refine goN ?_;refine aI rfl (pC (Qw n f f true (me ((hf f (zX hfi)).sm.up (by decide)) (by omega))) _) EF ?_;refine goN ?_;refine cU rfl (fun q=>absurd q (by decide)) (fun _=>?_);refine goN ?_;have hwr:IntKind.i64.wrap ((i:Int)+1)=((i+1:Nat):Int):=by rw[kR (by omega) (by omega)];rfl
   refine⟨l.length-(i+1),_,_,by omega,⟨i+1,_,_,rfl,hil,(p.more (.row (fV f) 39)).more (.row (fV f) 39),rfl,rfl⟩,Nat.zero_le _,Gh.sub ?_⟩;rw[<-hwr];(repeat refine⟨rfl,?_⟩);exact trivial
  ·refine goN ?_;exact⟨_,_,⟨h,nx,p,rfl,rfl⟩,Nat.zero_le _,Gh.sub (by((repeat refine⟨rfl,?_⟩);exact trivial))⟩
 rintro m _ _ ⟨i,P,h,nx,rfl,hi,hP,hN,p,rfl,rfl⟩
 haveI:SuC nx (nx+1):=⟨rfl⟩
 refine goN ?_;refine cU rfl (fun h1=>?_) (fun h1=>?_)
 ·have hil:i<l.length:=by simpa using h1
  obtain⟨f,hfi⟩:=Cq hil;have hid:aC l (i:Int)=some f:=by rw[cP,hfi]
  refine goN ?_;apply aL;refine goN ?_;refine aP hid ?_;refine goN ?_;have hfl:=hlen hfi;obtain⟨P',J,hP',hN',_,_⟩:=hP.put (hf f (zX hfi)) (by omega) (by rw[hP.len,List.length_take];omega);refine i7 rfl (eG rfl yJ rfl).2 (yw (p.more _) J) rfl rfl ?_;rintro _ _ ⟨h',nx',rfl,rfl,p'⟩;have e1:P.roots.length=i:=by rw[hP.len,List.length_take];omega
  refine goN ?_;refine cU rfl (fun q=>absurd q (by simp[e1])) (fun _=>?_);refine goN ?_;have hwr:IntKind.i64.wrap ((i:Int)+1)=((i+1:Nat):Int):=by rw[kR (by omega) (by omega)];rfl
  refine⟨l.length-(i+1),_,_,by omega,⟨i+1,P',h',nx',rfl,hil,by rw[List.take_succ,hfi];exact hP',by omega,p'.pl,rfl,rfl⟩,Nat.zero_le _,Gh.sub ?_⟩;rw[<-hwr];(repeat refine⟨rfl,?_⟩);exact trivial
 ·have hil:i=l.length:=by have:¬ (i:Int)<l.length:=(by simpa using h1);omega
  refine goN ?_;exact⟨_,_,⟨P,h,nx,by rw[hil,List.take_length]at hP;exact hP,by rw[<-hil];exact hN,p,rfl,rfl⟩,Nat.zero_le _,Gh.sub (by((repeat refine⟨rfl,?_⟩);exact trivial))⟩
def kc(n:Nat)(p1:List aT)(p2:List GFS)(p3:Int):Option Bool:=aH (3000000<=n/\p2.length<=9223372036854775807) (some true)
theorem nl(n:Nat)(p1:List aT)(p2:List GFS)(p3:Int)(r:Bool)(J:kc n p1 p2 p3=some r):cE prog 5 [.isl false (p1.map aX),.isl false (p2.map fV),.int .i64 p3] (.bool r):=by
 obtain⟨⟨h1,h2⟩,J⟩:=bU J;obtain rfl:=sI J;exact eo h1 p1 p2 h2 p3
theorem az(p1:List aT)(p2:List GFS)(p3:Int)(h:p2.length<=9223372036854775807)(hn:3000000<=n):kc n p1 p2 p3=some true:=if_pos ⟨hn,h⟩
end Go.Proofs
