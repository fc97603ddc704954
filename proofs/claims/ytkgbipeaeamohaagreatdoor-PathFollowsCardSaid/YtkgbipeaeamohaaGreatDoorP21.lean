/-
  Texts of the walk: H5 H6 H7 H11 Q1.
-/
import Derived.Test.YtkgbipeaeamohaaGreatDoorP20
set_option linter.unusedSimpArgs false
set_option linter.unusedVariables false
section
namespace Go.Proofs
open Go Go.Rx Go.Vx Go.Shelf Go.Sort
set_option maxRecDepth 10000
theorem qwn (n:Nat) (a b:Int):q43 n a b=some (cmpI a b):=by
 have e1:(a != a)=false:=by simp
 have e2:(b != b)=false:=by simp
 simp only [q43,q5e,q0o,e1,e2,cond_false,cmpI]
 by_cases h1:a<b
 ·simp [h1]
 ·by_cases h2:b<a<;>simp [h1,h2]
def qie {α:Type} (c:α→α→Int):List α→List α→Int
 | [],[]=>0
 | [],_::_=>-1
 | _::_,[]=>1
 | x::xs,y::ys=>if c x y≠0 then c x y else qie c xs ys
theorem Cmp.list {α:Type} {c:α→α→Int} (h:Cmp c):Cmp (qie c) where
 val:=by
  intro x
  induction x with
  | nil=>intro y; cases y<;>simp [qie]
  | cons a x ih =>
   intro y
   cases y with
   | nil=>simp [qie]
   | cons b y=>simp only [qie]; split; exact h.val a b; exact ih y
 anti:=by
  intro x
  induction x with
  | nil=>intro y; cases y<;>simp [qie]
  | cons a x ih =>
   intro y
   cases y with
   | nil=>simp [qie]
   | cons b y =>
    simp only [qie]
    have a1:=h.anti a b
    have a2:=ih y
    by_cases e:c a b=0
    ·have:c b a=0:=by omega
     simp [e,this,a2]
    ·have:¬ c b a=0:=by omega
     simp [e,this,a1]
 trans:=by
  intro x
  induction x with
  | nil =>
   intro y z h1 h2
   cases z<;>simp [qie]
  | cons a x ih =>
   intro y z h1 h2
   cases y with
   | nil=>simp [qie] at h1
   | cons b y =>
    cases z with
    | nil=>simp [qie] at h2
    | cons d z =>
     simp only [qie] at *
     by_cases e:c a b=0
     ·have e2:=h.congr e d
      simp only [e,ne_eq,not_true,if_false] at h1
      rw [e2]
      by_cases e3:c b d=0
      ·simp only [e3,ne_eq,not_true,if_false] at h2 ⊢
       exact ih y z h1 h2
      ·simp only [e3,ne_eq,not_false_eq_true,if_true] at h2 ⊢
       exact h2
     ·simp only [e,ne_eq,not_false_eq_true,if_true] at h1
      have h1':c a b<0:=by omega
      by_cases e3:c b d=0
      ·have e4:=h.congr' e3 a
       rw [← e4]
       simp only [e,ne_eq,not_false_eq_true,if_true]
       exact h1
      ·simp only [e3,ne_eq,not_false_eq_true,if_true] at h2
       have:=h.lt_of h1' h2
       have hne:¬ c a d=0:=by omega
       simp only [hne,ne_eq,not_false_eq_true,if_true]
       omega
theorem qmf {α:Type} {c:α→α→Int}:∀ {xs ys:List α},(∀ x∈xs,∀ y,c x y=0→x=y)→qie c xs ys=0→xs=ys
 | [],[],_,_=>rfl
 | [],_::_,_,h=>by simp [qie] at h
 | _::_,[],_,h=>by simp [qie] at h
 | x::xs,y::ys,hc,h=>by
  simp only [qie] at h
  by_cases e:c x y=0
  ·simp only [e,ne_eq,not_true,if_false] at h
   rw [hc x (by simp) y e,qmf (fun a ha=>hc a (by simp [ha])) h]
  ·simp [e] at h
def ccA:q0s→q0s→Int:=qvz (fun x y=>cmpI x.Feat y.Feat) (fun x y=>cmpI x.To y.To)
theorem ccA_ok:Cmp ccA:=(qjg.pull _).lex (qjg.pull _)
theorem qzu {x y:q0s} (h:ccA x y=0):x=y:=by
 simp only [ccA,qme,qcm] at h
 cases x; cases y; simp only at h; obtain ⟨rfl,rfl⟩:=h; rfl
def ccN:q0n→q0n→Int:=qvz (qvz (fun x y=>cmpI x.Typex y.Typex) (fun x y=>cmpI x.Arcs.length y.Arcs.length)) (fun x y=>qie ccA x.Arcs y.Arcs)
theorem ccN_ok:Cmp ccN:=((qjg.pull _).lex (qjg.pull (fun x:q0n=>(x.Arcs.length:Int)))).lex (ccA_ok.list.pull _)
theorem qzw {x y:q0n} (h:ccN x y=0):x=y:=by
 simp only [ccN,qme,qcm] at h
 have:=qmf (fun a _ b h=>qzu h) h.2
 cases x; cases y; simp only at h this; obtain ⟨⟨rfl,_⟩,_⟩:=h; subst this; rfl
def ccG:GFS→GFS→Int:=qvz (fun x y=>cmpI x.Nodes.length y.Nodes.length) (fun x y=>qie ccN x.Nodes y.Nodes)
theorem z1o:Cmp ccG:=(qjg.pull (fun x:GFS=>(x.Nodes.length:Int))).lex (ccN_ok.list.pull _)
theorem qzv {x y:GFS}:ccG x y=0↔x=y:=⟨fun h=>by
 simp only [ccG,qme,qcm] at h
 have:=qmf (fun a _ b h=>qzw h) h.2
 cases x; cases y; simp only at this; subst this; rfl,fun h=>by subst h; exact z1o.self x⟩
structure Small (f:GFS) (k:Nat):Prop where
 nodes:f.Nodes.length≤k
 arcs:∀ x∈f.Nodes,x.Arcs.length≤k
def qzd (l:List q0s):List Int:=l.flatMap fun a=>[a.Feat,a.To]
def qr1 (x:q0n):List Int:=[x.Typex,(x.Arcs.length:Int)]++qzd x.Arcs
def qy1 (f:GFS):List Int:=(f.Nodes.length:Int)::f.Nodes.flatMap qr1
theorem qor:∀ l:List q0s,(qzd l).length=2*l.length
 | []=>rfl
 | a::l=>by have:=qor l; simp only [qzd,List.flatMap_cons,List.length_append,List.length_cons,List.length_nil] at *; omega
theorem qy3 {x:q0n} {i:Int} {rc:Int→List Int→Option (List Int)} (hx:x.Arcs.length≤1000000):∀ (m k:Nat) (acc:List Int),x.Arcs.length - k<m→k≤x.Arcs.length→acc.length+2*(x.Arcs.length - k)≤1000000000 →
  q3p i rc x m k acc=rc (IntKind.i64.wrap (i+1)) (acc++qzd (x.Arcs.drop k))
 | 0,k,acc,hm,_,_=>by omega
 | m+1,k,acc,hm,hk,ha=>by
  unfold q3p
  by_cases hlt:k<x.Arcs.length
  ·obtain ⟨a,h1,_⟩:=q5x hlt
   have hn:(acc.length+2)*8≤140737488355328∧acc.length+2≤140737488355328:=by omega
   simp only [dlt hlt,cond_true,q2w,h1,q0o,q1i,hn,and_self,if_true,wr1 hlt (show x.Arcs.length≤9223372036854775807 by omega)]
   rw [qy3 hx m (k+1) _ (by omega) (by omega) (by simp only [List.length_append,List.length_cons,List.length_nil]; omega),drop_cons' h1]
   simp [qzd]
  ·simp only [qng hlt,cond_false,q6f,drop_nil' hlt,qzd,List.flatMap_nil,List.append_nil]
theorem qy2 {f:GFS} {n:Nat} (hf:Small f 1000) (hn:1001≤n):∀ (m i:Nat) (acc:List Int),f.Nodes.length - i<m→i≤f.Nodes.length→acc.length+2002*(f.Nodes.length - i)≤900000000 →
  q29 f n m i acc=some (acc++(f.Nodes.drop i).flatMap qr1)
 | 0,i,acc,hm,_,_=>by omega
 | m+1,i,acc,hm,hi,ha=>by
  unfold q29
  have hl:=hf.nodes
  by_cases hlt:i<f.Nodes.length
  ·obtain ⟨x,hx,hxm⟩:=q5x hlt
   have h2:=hf.arcs x hxm
   have hn:(acc.length+2)*8≤140737488355328∧acc.length+2≤140737488355328:=by omega
   have h0:=qy3 (i:=(i:Int)) (rc:=q29 f n m) (x:=x) (by omega) n 0 (acc++[x.Typex,(x.Arcs.length:Int)]) (by omega) (by omega) (by simp only [List.length_append,List.length_cons,List.length_nil]; omega)
   rw [Int.ofNat_zero,List.drop_zero] at h0
   simp only [dlt hlt,cond_true,q2w,hx,q0o,q1i,hn,and_self,if_true,h0,wr1 hlt (show f.Nodes.length≤9223372036854775807 by omega)]
   rw [qy2 hf (by omega) m (i+1) _ (by omega) (by omega) (by simp only [List.length_append,List.length_cons,List.length_nil,qor]; omega),drop_cons' hx]
   simp [qr1]
  ·simp only [qng hlt,cond_false,q6e,drop_nil' hlt,List.flatMap_nil,List.append_nil]
theorem qy4 {f:GFS} {n:Nat} (hf:Small f 1000) (hn:1001≤n):q5v n f=some (qy1 f):=by
 have hl:=hf.nodes
 have:=qy2 hf hn n 0 [(f.Nodes.length:Int)] (by omega) (by omega) (by simp only [List.length_cons,List.length_nil]; omega)
 rw [Int.ofNat_zero,List.drop_zero] at this
 simp only [q5v,this,qy1,List.singleton_append]
def qsj:List Int→List Int→Int
 | x::xs,y::ys=>if cmpI x y≠0 then cmpI x y else qsj xs ys
 | _,_=>0
theorem quf {l m:List Int} (hl:l.length≤1000000000):∀ (n i:Nat),l.length - i<n→i≤l.length→q3o l m n i=some (qsj (l.drop i) (m.drop i))
 | 0,i,hn,_=>by omega
 | n+1,i,hn,hi=>by
  unfold q3o
  by_cases h1:i<l.length
  ·obtain ⟨x,hx,_⟩:=q5x h1
   by_cases h2:i<m.length
   ·obtain ⟨y,hy,_⟩:=q5x h2
    simp only [dlt h1,dlt h2,cond_true,q0o,q2w,hx,hy,wr1 h1 (show l.length≤9223372036854775807 by omega),drop_cons' hx,drop_cons' hy,qsj,cmpI]
    by_cases h3:x<y
    ·simp [h3]
    ·by_cases h4:y<x
     ·simp [h3,h4]
     ·simp only [h3,h4,decide_false,cond_false,if_false,ne_eq,not_true,gt_iff_lt]
      exact quf hl n (i+1) (by omega) (by omega)
   ·simp only [dlt h1,qng h2,cond_true,cond_false,q0o,q4k,drop_cons' hx,drop_nil' h2,qsj]
  ·simp only [qng h1,cond_false,q0o,q4k,drop_nil' h1,qsj]
theorem z0o {f:GFS} {k:Nat} (hf:Small f k):(qy1 f).length≤1+f.Nodes.length*(2+2*k):=by
 have:∀ l:List q0n,(∀ x∈l,x.Arcs.length≤k)→(l.flatMap qr1).length≤l.length*(2+2*k):=by
  intro l
  induction l with
  | nil=>intro _; simp
  | cons x l ih =>
   intro h
   have h1:=ih fun y hy=>h y (List.mem_cons_of_mem _ hy)
   have h2:=h x (by simp)
   have h3:(l.length+1)*(2+2*k)=l.length*(2+2*k)+(2+2*k):=by rw [Nat.add_mul,Nat.one_mul]
   simp only [List.flatMap_cons,List.length_append,qr1,List.length_cons,List.length_nil,qor]
   rw [h3]
   omega
 have:=this f.Nodes hf.arcs
 simp only [qy1,List.length_cons]
 omega
theorem qyh {f g:GFS} {n:Nat} (hf:Small f 1000) (hg:Small g 1000) (hn:3000000≤n):q7f n f g=some (qsj (qy1 f) (qy1 g)):=by
 have h1:=z0o hf
 have h2:=hf.nodes
 have h3:f.Nodes.length*(2+2*1000)≤1000*(2+2*1000):=Nat.mul_le_mul_right _ h2
 have:=quf (l:=qy1 f) (m:=qy1 g) (by omega) n 0 (by omega) (by omega)
 rw [Int.ofNat_zero,List.drop_zero,List.drop_zero] at this
 simp only [q7f,qy4 hf (show 1001≤n by omega),qy4 hg (show 1001≤n by omega),q0o,this]
theorem qqv {c d:List Int}:∀ {xs ys:List q0s},xs.length=ys.length→qsj (qzd xs++c) (qzd ys++d)=if qie ccA xs ys≠0 then qie ccA xs ys else qsj c d
 | [],[],_=>by simp [qzd,qie]
 | [],_::_,h=>by simp at h
 | _::_,[],h=>by simp at h
 | x::xs,y::ys,h=>by
  simp only [List.length_cons,Nat.add_right_cancel_iff] at h
  have ih:=qqv (c:=c) (d:=d) h
  simp only [qzd,List.flatMap_cons,List.cons_append,List.nil_append,qsj,qie] at ih ⊢
  rw [ih]
  unfold ccA qvz
  by_cases e:cmpI x.Feat y.Feat=0
  ·by_cases e2:cmpI x.To y.To=0<;>simp [e,e2]
  ·simp [e]
theorem qod {c d:List Int}:∀ {xs ys:List q0n},xs.length=ys.length→qsj (xs.flatMap qr1++c) (ys.flatMap qr1++d)=if qie ccN xs ys≠0 then qie ccN xs ys else qsj c d
 | [],[],_=>by simp [qie]
 | [],_::_,h=>by simp at h
 | _::_,[],h=>by simp at h
 | x::xs,y::ys,h=>by
  simp only [List.length_cons,Nat.add_right_cancel_iff] at h
  have ih:=qod (c:=c) (d:=d) h
  simp only [List.flatMap_cons,qr1,List.append_assoc,List.cons_append,List.nil_append,qsj,qie]
  have hN:ccN x y=(if (if cmpI x.Typex y.Typex≠0 then cmpI x.Typex y.Typex else cmpI (x.Arcs.length:Int) y.Arcs.length)≠0 then (if cmpI x.Typex y.Typex≠0 then cmpI x.Typex y.Typex else cmpI (x.Arcs.length:Int) y.Arcs.length) else qie ccA x.Arcs y.Arcs):=rfl
  simp only [hN]
  by_cases e:cmpI x.Typex y.Typex=0
  ·by_cases e2:cmpI (x.Arcs.length:Int) y.Arcs.length=0
   ·have hl:x.Arcs.length=y.Arcs.length:=by have:=qcm.1 e2; omega
    simp only [e,e2,ne_eq,not_true,if_false]
    rw [qqv hl,ih]
    by_cases e3:qie ccA x.Arcs y.Arcs=0<;>simp [e3]
   ·simp [e,e2]
  ·simp [e]
theorem z2z (f g:GFS):qsj (qy1 f) (qy1 g)=ccG f g:=by
 simp only [qy1,qsj,ccG]
 unfold qvz
 by_cases e:cmpI (f.Nodes.length:Int) g.Nodes.length=0
 ·have hl:f.Nodes.length=g.Nodes.length:=by have:=qcm.1 e; omega
  have:=qod (c:=[]) (d:=[]) hl
  simp only [List.append_nil,qsj] at this
  simp only [e,ne_eq,not_true,if_false,this]
  by_cases e2:qie ccN f.Nodes g.Nodes=0<;>simp [e2]
 ·simp [e]
theorem qug {f g:GFS} {n:Nat} (hf:Small f 1000) (hg:Small g 1000) (hn:3000000≤n):q6k n f g=some (ccG f g == 0):=by
 simp only [q6k,qyh hf hg hn,q0o,z2z]
theorem qtw {f:GFS} (hl:f.Nodes.length≤12):∀ (m i:Nat),f.Nodes.length - i<m→i≤f.Nodes.length→∃ b,q4y f m i=some b∧(b=true→∀ x∈f.Nodes.drop i,x.Arcs.length≤12)
 | 0,i,hm,_=>by omega
 | m+1,i,hm,hi=>by
  unfold q4y
  by_cases hlt:i<f.Nodes.length
  ·obtain ⟨x,hx,_⟩:=q5x hlt
   simp only [dlt hlt,cond_true,q2w,hx,q0o,wr1 hlt (show f.Nodes.length≤9223372036854775807 by omega)]
   by_cases h:(x.Arcs.length:Int) > 12
   ·simp only [h,decide_true,cond_true]; exact ⟨false,rfl,fun h=>by cases h⟩
   ·simp only [h,decide_false,cond_false]
    obtain ⟨b,h1,h2⟩:=qtw hl m (i+1) (by omega) (by omega)
    refine ⟨b,h1,fun hb=>?_⟩
    rw [drop_cons' hx]
    intro y hy
    rcases List.mem_cons.1 hy with rfl | hy
    ·omega
    ·exact h2 hb y hy
  ·simp only [qng hlt,cond_false,q8s,drop_nil' hlt]
   exact ⟨true,rfl,fun _ x hx=>by cases hx⟩
theorem z0i (f:GFS) {n:Nat} (hn:20≤n):∃ b,qb3 n f=some b∧(b=true→Small f 12):=by
 unfold qb3
 by_cases h:(f.Nodes.length:Int) > 12
 ·simp only [h,decide_true,cond_true]; exact ⟨false,rfl,fun h=>by cases h⟩
 ·simp only [h,decide_false,cond_false]
  obtain ⟨b,h1,h2⟩:=qtw (f:=f) (by omega) n 0 (by omega) (by omega)
  rw [Int.ofNat_zero] at h1
  rw [List.drop_zero] at h2
  exact ⟨b,h1,fun hb=>⟨by omega,h2 hb⟩⟩
theorem Small.up {f:GFS} {k k':Nat} (h:Small f k) (hk:k≤k'):Small f k':=⟨by have:=h.nodes; omega,fun x hx=>by have:=h.arcs x hx; omega⟩
end Go.Proofs
end
section
namespace Go.Proofs
open Go Go.Rx Go.Vx Go.Shelf Go.Sort
set_option maxRecDepth 10000
theorem qob {α:Type} {lt lt':α→α→Bool} (x:α):∀ {l:List α},(∀ y∈l,lt y x=lt' y x)→qvg lt x l=qvg lt' x l
 | [],_=>rfl
 | y::l,h=>by
  have ih:=qob (lt:=lt) (lt':=lt') x (l:=l) fun z hz=>h z (List.mem_cons_of_mem _ hz)
  simp only [qvg,h y (by simp),ih]
theorem qrt {α:Type} {lt lt':α→α→Bool}:∀ {l:List α},(∀ x∈l,∀ y∈l,lt x y=lt' x y)→srt lt l=srt lt' l
 | [],_=>rfl
 | x::l,h=>by
  simp only [srt]
  rw [qrt fun a ha b hb=>h a (by simp [ha]) b (by simp [hb])]
  exact qob x fun y hy=>h y (by simp [(qg9 lt' l).mem_iff.1 hy]) x (by simp)
theorem qy6 {α:Type} {eq:α→α→Bool} (heq:∀ x,eq x x=true) {f:α→α→Option Int} {c:α→α→Int} (hc:Cmp c) {ds:List α} (hf:∀ x∈ds,∀ y∈ds,f x y=some (c x y)) (hz:∀ x∈ds,∀ y∈ds,c x y=0→x=y):qmm eq f ds=true:=by
 have hlt:∀ x∈ds,∀ y∈ds,fLt f x y=ltOf c x y:=fun x hx y hy=>by simp [fLt,hf x hx y hy,ltOf]
 have hs:=hc.swo
 unfold qmm
 rw [List.all_eq_true]
 intro x hx
 rw [Bool.and_eq_true,Bool.not_eq_true',List.all_eq_true]
 refine ⟨by rw [hlt x hx x hx]; exact hs.irrefl x,fun y hy=>?_⟩
 rw [Bool.and_eq_true,Bool.and_eq_true,List.all_eq_true]
 refine ⟨by rw [hf x hx y hy]; rfl,?_,fun z hzm=>?_⟩
 ·rw [hlt x hx y hy,hlt y hy x hx]
  cases h1:ltOf c x y with
  | true=>rfl
  | false =>
   cases h2:ltOf c y x with
   | true=>rfl
   | false =>
    have a:=hc.anti x y
    simp [ltOf] at h1 h2
    have:=hz x hx y hy (by omega)
    subst this
    simp [heq]
 ·rw [hlt x hx y hy,hlt y hy z hzm,hlt x hx z hzm]
  cases h1:ltOf c x y with
  | true =>
   cases h2:ltOf c y z with
   | true=>simp [hs.trans x y z h1 h2]
   | false=>simp
  | false =>
   cases h2:ltOf c y z with
   | true=>simp
   | false=>simp [hs.ntrans x y z h1 h2]
theorem z1b {α:Type} {eq:α→α→Bool} (heq:∀ x,eq x x=true) {f:α→α→Option Int} {c:α→α→Int} (hc:Cmp c) {ds:List α} (hl:ds.length≤1000000) (hf:∀ x∈ds,∀ y∈ds,f x y=some (c x y)) (hz:∀ x∈ds,∀ y∈ds,c x y=0→x=y):qrr eq f ds=some (srt (ltOf c) ds):=by
 unfold qrr
 have hb:Nat.ble ds.length 1000000=true:=by rw [Nat.ble_eq]; exact hl
 rw [qy6 heq hc hf hz,hb]
 simp only [Bool.and_self,cond_true]
 have e:srt (fLt f) ds=srt (ltOf c) ds:=qrt fun x hx y hy=>by simp [fLt,hf x hx y hy,ltOf]
 rw [e]
def cF (a b:q0s):Int:=cmpI a.Feat b.Feat
theorem cF_ok:Cmp cF:=qjg.pull q0s.Feat
def qol (l:List q0s):List q0s:=srt (ltOf cF) l
theorem q5d (l:List q0s):(qol l).Perm l:=qg9 _ l
def Dis (l:List q0s):Prop:=l.Pairwise (fun a b=>a.Feat≠b.Feat)
theorem Dis.perm {l m:List q0s} (h:l.Perm m) (hd:Dis l):Dis m:=(h.pairwise_iff (fun {a b} h=>Ne.symm h)).1 hd
theorem Dis.eq:∀ {l:List q0s},Dis l→∀ x∈l,∀ y∈l,x.Feat=y.Feat→x=y
 | [],_,x,hx,_,_,_=>by cases hx
 | a::l,h,x,hx,y,hy,e=>by
  obtain ⟨h1,h2⟩:=List.pairwise_cons.1 h
  rcases List.mem_cons.1 hx with e1 | hx'
  ·rcases List.mem_cons.1 hy with e2 | hy'
   ·rw [e1,e2]
   ·subst e1; exact absurd e (h1 y hy')
  ·rcases List.mem_cons.1 hy with e2 | hy'
   ·subst e2; exact absurd e.symm (h1 x hx')
   ·exact Dis.eq h2 x hx' y hy' e
def UpA (l:List q0s):Prop:=l.Pairwise (fun a b=>a.Feat<b.Feat)
theorem cF_le {a b:q0s}:cF a b≤0↔a.Feat≤b.Feat:=by
 unfold cF cmpI
 by_cases h1:a.Feat<b.Feat
 ·simp [h1]; omega
 ·by_cases h2:b.Feat<a.Feat
  ·simp [h1,h2]
  ·simp [h1,h2]; omega
theorem qpw {l:List q0s} (h:Dis l):UpA (qol l):=by
 have h1:=srt_le cF_ok l
 have h2:Dis (qol l):=h.perm (q5d l).symm
 refine (List.Pairwise.and h1 h2).imp fun {a b} h=>?_
 have:=cF_le.1 h.1
 have:=h.2
 omega
theorem quw:∀ {a b:List q0s},UpA a→UpA b→a.Perm b→a=b
 | [],b,_,_,h=>(List.nil_perm.1 h).symm
 | x::a,[],_,_,h=>by have:=h.length_eq; simp at this
 | x::a,y::b,ha,hb,h=>by
  obtain ⟨h1,h2⟩:=List.pairwise_cons.1 ha
  obtain ⟨h3,h4⟩:=List.pairwise_cons.1 hb
  have hxy:x=y:=by
   rcases List.mem_cons.1 (h.mem_iff.1 (List.mem_cons_self)) with hx | hx
   ·exact hx
   ·rcases List.mem_cons.1 (h.mem_iff.2 (List.mem_cons_self)) with hy | hy
    ·exact hy.symm
    ·have h5:=h1 y hy; have h6:=h3 x hx; omega
  subst hxy
  rw [quw h2 h4 (h.cons_inv)]
theorem qyz {l m:List q0s} (hd:Dis l) (h:m.Perm l) (hm:UpA m):qol l=m:=quw (qpw hd) hm ((q5d l).trans h.symm)
theorem UpA.dis {l:List q0s} (h:UpA l):Dis l:=h.imp fun {a b} h=>by omega
theorem qt8 {l:List q0s} (hl:l.length≤1000000):∀ (m i:Nat),l.length - i<m→i≤l.length→q19 l m i (l.take i)=some l
 | 0,i,hm,_=>by omega
 | m+1,i,hm,hi=>by
  unfold q19
  by_cases hlt:i<l.length
  ·obtain ⟨x,hx,_⟩:=q5x hlt
   have hn:((l.take i).length+1)*16≤140737488355328∧(l.take i).length+1≤140737488355328:=by rw [List.length_take]; omega
   simp only [dlt hlt,cond_true,q2w,hx,q0o,q1i,hn,and_self,if_true,q2s,wr1 hlt (show l.length≤9223372036854775807 by omega),← q9b hx]
   exact qt8 hl m (i+1) (by omega) (by omega)
  ·simp only [qng hlt,cond_false,q2r]
   rw [List.take_of_length_le (by omega)]
theorem byF_ok (n:Nat) (a b:q0s):q1y n a b=some (cF a b):=by simp [q1y,qwn,q0o,cF]
theorem z03 (x:q0s):eqA x x=true:=by simp [eqA]
theorem qrs {l:List q0s} (hl:l.length≤1000000) (hd:Dis l) {n:Nat} (hn:l.length<n):q1v n l=some (qol l):=by
 have h1:=qt8 hl n 0 (by omega) (by omega)
 rw [Int.ofNat_zero,List.take_zero] at h1
 have h2:=z1b z03 (f:=fun a b=>q1y n a b) cF_ok hl (fun x _ y _=>byF_ok n x y) (fun x hx y hy h=>hd.eq x hx y hy (qcm.1 h))
 simp only [q1v,q3w,q37,h1,q0o,h2,qol]
structure NOk (x:q0n) (N:Nat):Prop where
 ty:0≤x.Typex
 dis:Dis x.Arcs
 arc:∀ a∈x.Arcs,0≤a.Feat∧0≤a.To∧a.To<N
def GOK (f:GFS):Prop:=∀ x∈f.Nodes,NOk x f.Nodes.length
def nd (f:GFS) (v:Int):q0n:=(f.Nodes[v.toNat]?).getD (q0n.mk 0 [])
def InG (f:GFS) (v:Int):Prop:=0≤v∧v<f.Nodes.length
theorem qf4 {f:GFS} {v:Int} (h:InG f v):q15 f.Nodes v=some (nd f v)∧nd f v∈f.Nodes:=by
 have hv:v.toNat<f.Nodes.length:=by have:=h.1; have:=h.2; omega
 have h1:0≤v∧v<(f.Nodes.length:Int):=h
 simp [q15,h1,nd,hv]
def sar (f:GFS) (v:Int):List q0s:=qol (nd f v).Arcs
theorem qfo {f:GFS} {v:Int} {a:q0s}:a∈sar f v↔a∈(nd f v).Arcs:=(q5d _).mem_iff
def qo7 (g:List Int→Int→List Int) (o:List Int) (a:q0s):List Int:=if a.To∈o then o else g o a.To
def dfs (f:GFS):Nat→List Int→Int→List Int
 | 0,o,_=>o
 | k+1,o,v=>(sar f v).foldl (qo7 (dfs f k)) (o++[v])
structure Seen (f:GFS) (o:List Int):Prop where
 nd:o.Nodup
 ing:∀ v∈o,InG f v
theorem qmk:∀ (N:Nat) {o:List Int},o.Nodup→(∀ v∈o,0≤v∧v<N)→o.length≤N
 | 0,o,_,h=>by
  cases o with
  | nil=>simp
  | cons v o=>have:=h v (by simp); omega
 | N+1,o,hn,h=>by
  have h1:=qmk N (o:=o.filter (fun v=>v != (N:Int))) (hn.filter _) fun v hv=>by
   rw [List.mem_filter] at hv
   have:=h v hv.1
   have h2:=hv.2
   simp at h2
   omega
  have h2:o.length≤(o.filter (fun v=>v != (N:Int))).length+1:=by
   clear h1 h
   induction o with
   | nil=>simp
   | cons x o ih =>
    obtain ⟨h3,h4⟩:=List.nodup_cons.1 hn
    have:=ih h4
    by_cases e:x=N
    ·subst e
     have:o.filter (fun v=>v != (N:Int))=o:=List.filter_eq_self.2 fun v hv=>by
      simp only [bne_iff_ne,ne_eq]
      intro e; subst e; exact h3 hv
     simp [this]
    ·have e2:(x != (N:Int))=true:=by simpa using e
     rw [List.filter_cons_of_pos (by simpa using e)]
     simp only [List.length_cons]
     omega
  omega
theorem Seen.len {f:GFS} {o:List Int} (h:Seen f o):o.length≤f.Nodes.length:=qmk _ h.nd h.ing
theorem Seen.snoc {f:GFS} {o:List Int} (h:Seen f o) {v:Int} (hv:InG f v) (hn:v ∉ o):Seen f (o++[v]):=⟨by
 rw [List.nodup_append]
 refine ⟨h.nd,by simp,?_⟩
 intro a ha b hb
 simp at hb
 subst hb
 intro e; subst e; exact hn ha,fun u hu=>by
 rcases List.mem_append.1 hu with hu | hu
 ·exact h.ing u hu
 ·simp at hu; subst hu; exact hv⟩
theorem qth {f:GFS} (hg:GOK f):∀ (k:Nat) (o:List Int) (v:Int),Seen f o→InG f v→v ∉ o→f.Nodes.length - o.length≤k →
  Seen f (dfs f k o v)∧(∃ t,dfs f k o v=o++v::t)∧(∀ u∈dfs f k o v,u ∉ o→∀ a∈(nd f u).Arcs,a.To∈dfs f k o v)∧(∀ k',f.Nodes.length - o.length≤k'→dfs f k' o v=dfs f k o v)
 | 0,o,v,hs,hv,hn,hk=>by
  have h1:=(hs.snoc hv hn).len
  simp only [List.length_append,List.length_cons,List.length_nil] at h1
  omega
 | k+1,o,v,hs,hv,hn,hk=>by
  have hs1:=hs.snoc hv hn
  have hl1:=hs1.len
  simp only [List.length_append,List.length_cons,List.length_nil] at hl1
  have key:∀ (l:List q0s),(∀ a∈l,InG f a.To)→∀ (p:List Int),Seen f p→(∃ t,p=o++v::t)→(∀ u∈p,u ∉ o→u≠v→∀ a∈(nd f u).Arcs,a.To∈p) →
    Seen f (l.foldl (qo7 (dfs f k)) p)∧(∃ t,l.foldl (qo7 (dfs f k)) p=p++t)∧(∀ u∈l.foldl (qo7 (dfs f k)) p,u ∉ o→u≠v→∀ a∈(nd f u).Arcs,a.To∈l.foldl (qo7 (dfs f k)) p)∧(∀ a∈l,a.To∈l.foldl (qo7 (dfs f k)) p) ∧
     (∀ k',f.Nodes.length - (o.length+1)≤k'→l.foldl (qo7 (dfs f k')) p=l.foldl (qo7 (dfs f k)) p):=by
   intro l
   induction l with
   | nil=>intro _ p hp hpre hcl; exact ⟨hp,⟨[],by simp⟩,hcl,⟨fun a ha=>(List.not_mem_nil ha).elim,fun _ _=>rfl⟩⟩
   | cons a l ih =>
    intro hl p hp hpre hcl
    have hla:=hl a (by simp)
    have hll:=fun b hb=>hl b (List.mem_cons_of_mem a hb)
    simp only [List.foldl_cons]
    by_cases hm:a.To∈p
    ·have e:∀ k',qo7 (dfs f k') p a=p:=fun k'=>by simp [qo7,hm]
     simp only [e]
     obtain ⟨g1,⟨t,g2⟩,g3,g4,g5⟩:=ih hll p hp hpre hcl
     refine ⟨g1,⟨t,g2⟩,g3,fun b hb=>?_,g5⟩
     rcases List.mem_cons.1 hb with rfl | hb
     ·rw [g2]; exact List.mem_append_left _ hm
     ·exact g4 b hb
    ·have e:∀ k',qo7 (dfs f k') p a=dfs f k' p a.To:=fun k'=>by simp [qo7,hm]
     obtain ⟨t0,hpre⟩:=hpre
     have hpl:o.length+1≤p.length:=by rw [hpre]; simp
     obtain ⟨d1,⟨t1,d2⟩,d3,d4⟩:=qth hg k p a.To hp hla hm (by omega)
     have hsub:∀ u∈p,u∈dfs f k p a.To:=fun u hu=>by rw [d2]; exact List.mem_append_left _ hu
     obtain ⟨g1,⟨t,g2⟩,g3,g4,g5⟩:=ih hll (dfs f k p a.To) d1 ⟨t0++a.To::t1,by rw [d2,hpre]; simp⟩ (fun u hu h1 h2 b hb=>by
      by_cases hup:u∈p
      ·exact hsub _ (hcl u hup h1 h2 b hb)
      ·exact d3 u hu hup b hb)
     rw [e k]
     refine ⟨g1,⟨a.To::t1++t,by rw [g2,d2]; simp⟩,g3,fun b hb=>?_,fun k' hk'=>?_⟩
     ·rcases List.mem_cons.1 hb with rfl | hb
      ·rw [g2,d2]; simp
      ·exact g4 b hb
     ·rw [e k',d4 k' (by omega)]; exact g5 k' hk'
  have hla:∀ a∈sar f v,InG f a.To:=fun a ha=>by
   have h1:=(hg _ (qf4 hv).2).arc a (qfo.1 ha)
   exact ⟨h1.2.1,h1.2.2⟩
  obtain ⟨g1,⟨t,g2⟩,g3,g4,g5⟩:=key (sar f v) hla (o++[v]) hs1 ⟨[],rfl⟩ (fun u hu h1 h2=>by
   rcases List.mem_append.1 hu with hu | hu
   ·exact absurd hu h1
   ·simp at hu; exact absurd hu h2)
  refine ⟨g1,⟨t,by show (sar f v).foldl _ _=_; rw [g2]; simp⟩,fun u hu h1 a ha=>?_,fun k' hk'=>?_⟩
  ·by_cases e:u=v
   ·subst e; exact g4 a (qfo.2 ha)
   ·exact g3 u hu h1 e a ha
  ·cases k' with
   | zero=>omega
   | succ k'=>exact g5 k' (by omega)
def qnn (f:GFS) (r:Int):List Int:=dfs f f.Nodes.length [] r
theorem Seen.nil (f:GFS):Seen f []:=⟨List.nodup_nil,fun v hv=>by cases hv⟩
structure z2s (f:GFS) (r:Int) (o:List Int):Prop where
 seen:Seen f o
 head:∃ t,o=r::t
 clo:∀ u∈o,∀ a∈(nd f u).Arcs,a.To∈o
theorem qp8 {f:GFS} (hg:GOK f) {r:Int} (hr:InG f r):z2s f r (qnn f r)∧∀ k,f.Nodes.length≤k→dfs f k [] r=qnn f r:=by
 obtain ⟨h1,⟨t,h2⟩,h3,h4⟩:=qth hg f.Nodes.length [] r (Seen.nil f) hr (by simp) (by simp)
 exact ⟨⟨h1,⟨t,by have h5:=h2; rw [List.nil_append] at h5; exact h5⟩,fun u hu=>h3 u hu (by simp)⟩,fun k hk=>h4 k (by simpa using hk)⟩
def qjb (o:List Int) (a:q0s):q0s:=⟨a.Feat,(o.idxOf a.To:Int)⟩
def q9d (f:GFS) (o:List Int) (v:Int):q0n:=⟨(nd f v).Typex,(sar f v).map (qjb o)⟩
def q70 (f:GFS) (r:Int):GFS:=⟨(qnn f r).map (q9d f (qnn f r))⟩
structure Rep (w:q67 Int Int) (o:List Int):Prop where
 inv:MInv w
 get:∀ x,qny x w.es=if x∈o then some (o.idxOf x:Int) else none
theorem beqI (a b:Int):(a == b)=true↔a=b:=by simp
theorem Rep.nil:Rep (qmh:q67 Int Int) []:=⟨⟨by simp [qmh],by simp [qmh],by simp [qmh]⟩,fun x=>by simp [qmh,qny]⟩
theorem Rep.snoc {w:q67 Int Int} {o:List Int} (h:Rep w o) {v:Int} (hv:v ∉ o):Rep (qne (fun a b=>a == b) w v (o.length:Int)) (o++[v]):=by
 obtain ⟨h1,h2⟩:=upd_ok (eq:=fun a b:Int=>a == b) beqI h.inv v (o.length:Int)
 refine ⟨h1,fun x=>?_⟩
 rw [h2,h.get]
 by_cases e:x=v
 ·subst e
  simp [List.idxOf_append,hv]
 ·by_cases hx:x∈o
  ·simp [e,hx,List.idxOf_append]
  ·simp [e,hx]
theorem Rep.mget {w:q67 Int Int} {o:List Int} (h:Rep w o) (x:Int):qq1 (fun a b=>a == b) w x=if x∈o then some (o.idxOf x:Int) else none:=by
 rw [z0l (eq:=fun a b:Int=>a == b) beqI,h.get]
theorem quy {f:GFS} {k:Nat} (hg:GOK f) (hf:Small f k) (hk:k≤1000000):∀ (n:Nat) (o:List Int) (v:Int) (w:q67 Int Int),Seen f o→InG f v→v ∉ o→Rep w o→f.Nodes.length - o.length+k+2≤n →
  ∃ w',q1h n v f.Nodes o w=some (dfs f n o v,w')∧Rep w' (dfs f n o v)
 | 0,o,v,w,hs,hv,hn,hw,hfu=>by omega
 | n+1,o,v,w,hs,hv,hn,hw,hfu=>by
  have hs1:=hs.snoc hv hn
  have hl1:=hs1.len
  simp only [List.length_append,List.length_cons,List.length_nil] at hl1
  obtain ⟨hx,hxm⟩:=qf4 hv
  have hno:=hg _ hxm
  have hal:=hf.arcs _ hxm
  have hnl:=hf.nodes
  have hsl:(sar f v).length=(nd f v).Arcs.length:=(q5d _).length_eq
  have key:∀ (m i:Nat) (p:List Int) (w:q67 Int Int),(sar f v).length - i<m→i≤(sar f v).length→Seen f p→o.length+1≤p.length→Rep w p →
    ∃ w',q1d f.Nodes (sar f v) (q1h n) m i p w=some (((sar f v).drop i).foldl (qo7 (dfs f n)) p,w')∧Rep w' (((sar f v).drop i).foldl (qo7 (dfs f n)) p):=by
   intro m
   induction m with
   | zero=>intro i p w hm; omega
   | succ m ih =>
    intro i p w hm hi hp hpl hw
    unfold q1d
    by_cases hlt:i<(sar f v).length
    ·obtain ⟨a,ha,ham⟩:=q5x hlt
     have h1:=hno.arc a (qfo.1 ham)
     have hw1:IntKind.i64.wrap ((i:Int)+1)=((i+1:Nat):Int):=wr1 hlt (by omega)
     simp only [dlt hlt,cond_true,q2w,ha,q0o,hw.mget,drop_cons' ha,List.foldl_cons]
     by_cases hm2:a.To∈p
     ·simp only [hm2,if_true,Option.isSome_some,Bool.not_true,cond_false,q20,hw1,qo7]
      exact ih (i+1) p w (by omega) (by omega) hp hpl hw
     ·simp only [hm2,if_false,Option.isSome_none,Bool.not_false,cond_true,q20,hw1,qo7]
      obtain ⟨w1,g1,g2⟩:=quy hg hf hk n p a.To w hp ⟨h1.2.1,h1.2.2⟩ hm2 hw (by omega)
      obtain ⟨d1,⟨t,d2⟩,_,_⟩:=qth hg n p a.To hp ⟨h1.2.1,h1.2.2⟩ hm2 (by omega)
      simp only [g1,q0o]
      exact ih (i+1) _ w1 (by omega) (by omega) d1 (by rw [d2]; simp; omega) g2
    ·rw [drop_nil' hlt]
     simp only [qng hlt,cond_false,q33,List.foldl_nil]
     exact ⟨w,rfl,hw⟩
  have hneed:(o.length+1)*8≤140737488355328∧o.length+1≤140737488355328:=by omega
  obtain ⟨w',g1,g2⟩:=key n 0 (o++[v]) _ (by omega) (by omega) hs1 (by simp) (hw.snoc hn)
  rw [Int.ofNat_zero,List.drop_zero] at g1
  rw [List.drop_zero] at g2
  refine ⟨w',?_,g2⟩
  show q3i n (q1h n) v f.Nodes o w=_
  simp only [q3i,q1i,hneed,and_self,if_true,hx,q0o,q2m,qrs (show (nd f v).Arcs.length≤1000000 by omega) hno.dis (show (nd f v).Arcs.length<n by omega)]
  exact g1
theorem qys {α:Type} (a b:List α) (x y:α):(a++x::b).set a.length y=a++y::b:=by simp
theorem qtd {f:GFS} {o:List Int} {w:q67 Int Int} {z:Int} {l15:List q0n} {rc:Int→List q0n→Option GFS} {x:Int} {l:List q0s} (hl:l.length≤1000000) (hw:Rep w o) (hin:∀ a∈l,a.To∈o):∀ (m i:Nat),l.length - i<m→i≤l.length →
  q2j f (o,w) z l15 rc x l m i ((l.take i).map (qjb o)++l.drop i)=q3q f (o,w) z l15 rc x (l.map (qjb o))
 | 0,i,hm,_=>by omega
 | m+1,i,hm,hi=>by
  unfold q2j
  by_cases hlt:i<l.length
  ·obtain ⟨a,ha,ham⟩:=q5x hlt
   have e1:(((l.take i).map (qjb o)++l.drop i))[i]? = some a:=by
    rw [List.getElem?_append_right (by simp; omega)]
    simp [show min i l.length=i by omega,ha]
   have e2:(((l.take i).map (qjb o)++l.drop i)).set (0+(i:Int).toNat) (qjb o a)=(l.take (i+1)).map (qjb o)++l.drop (i+1):=by
    rw [drop_cons' ha,q9b ha]
    have h3:((l.take i).map (qjb o)).length=i:=by simp; omega
    have:=qys ((l.take i).map (qjb o)) (l.drop (i+1)) a (qjb o a)
    rw [h3] at this
    rw [Nat.zero_add,Int.toNat_natCast,this,List.map_append,List.map_cons,List.map_nil,List.append_assoc]
    rfl
   have e3:(⟨a.Feat,((if a.To∈o then some (o.idxOf a.To:Int) else none).getD 0)⟩:q0s)=qjb o a:=by simp [hin a ham,qjb]
   simp only [dlt hlt,cond_true,q2w,e1,q0o,hw.mget,e3,e2,wr1 hlt (show l.length≤9223372036854775807 by omega)]
   exact qtd hl hw hin m (i+1) (by omega) (by omega)
  ·simp only [qng hlt,cond_false]
   rw [List.take_of_length_le (by omega),List.drop_eq_nil_of_le (by omega),List.append_nil]
theorem qtc {f:GFS} {k:Nat} (hg:GOK f) (hf:Small f k) (hk:k≤1000000) {n:Nat} (hn:k+2≤n) {r:Int} {o:List Int} {w:q67 Int Int} (ho:z2s f r o) (hw:Rep w o):∀ (m i:Nat),o.length - i<m→i≤o.length →
  q1r f n (o,w) m i ((o.take i).map (q9d f o)++List.replicate (o.length - i) (q0n.mk 0 []))=some ⟨o.map (q9d f o)⟩
 | 0,i,hm,_=>by omega
 | m+1,i,hm,hi=>by
  have hol:=ho.seen.len
  have hnl:=hf.nodes
  unfold q1r
  by_cases hlt:i<o.length
  ·obtain ⟨v,hv,hvm⟩:=q5x hlt
   obtain ⟨hx,hxm⟩:=qf4 (ho.seen.ing v hvm)
   have hno:=hg _ hxm
   have hal:=hf.arcs _ hxm
   have hsl:(sar f v).length=(nd f v).Arcs.length:=(q5d _).length_eq
   have h2:=qtd (f:=f) (z:=(i:Int)) (l15:=(o.take i).map (q9d f o)++List.replicate (o.length - i) (q0n.mk 0 [])) (rc:=q1r f n (o,w) m) (x:=v) (l:=sar f v) (by omega) hw (fun a ha=>ho.clo v hvm a (qfo.1 ha)) n 0 (by omega) (by omega)
   rw [Int.ofNat_zero,List.take_zero,List.map_nil,List.nil_append,List.drop_zero] at h2
   have h3:((o.take i).map (q9d f o)).length=i:=by simp; omega
   have e0:o.length - i=(o.length - (i+1))+1:=by omega
   have e1:qp1 ((o.take i).map (q9d f o)++List.replicate (o.length - i) (q0n.mk 0 [])) 0 ((o.length:Int).toNat) (i:Int)=some (q0n.mk 0 []):=by
    have hi:0≤(i:Int)∧(i:Int)<(((o.length:Int).toNat:Nat):Int):=by rw [Int.toNat_natCast]; omega
    rw [qp1,if_pos hi,Nat.zero_add,Int.toNat_natCast,List.getElem?_append_right (by omega),h3,e0]
    simp
   have e2:((o.take i).map (q9d f o)++List.replicate (o.length - i) (q0n.mk 0 [])).set (i:Int).toNat (q9d f o v)=(o.take (i+1)).map (q9d f o)++List.replicate (o.length - (i+1)) (q0n.mk 0 []):=by
    rw [e0,List.replicate_succ,q9b hv]
    have:=qys ((o.take i).map (q9d f o)) (List.replicate (o.length - (i+1)) (q0n.mk 0 [])) (q0n.mk 0 []) (q9d f o v)
    rw [h3] at this
    simp only [Int.toNat_natCast]
    rw [this]
    simp
   have e3:(⟨(nd f v).Typex,(sar f v).map (qjb o)⟩:q0n)=q9d f o v:=rfl
   have hso:=qrs (show (nd f v).Arcs.length≤1000000 by omega) hno.dis (show (nd f v).Arcs.length<n by omega)
   simp only [dlt hlt,cond_true,q2w,hv,hx,q0o,q2m,hso]
   show q2j f (o,w) i _ _ v (sar f v) n 0 (sar f v)=_
   rw [h2]
   simp only [q3q,hx,q0o,e1,e3,wr1 hlt (show o.length≤9223372036854775807 by omega)]
   rw [e2]
   exact qtc hg hf hk hn ho hw m (i+1) (by omega) (by omega)
  ·have e:((o.length:Int)).toNat=((o.take i).map (q9d f o)++List.replicate (o.length - i) (q0n.mk 0 [])).length:=by simp; omega
   simp only [qng hlt,cond_false,q53,q1i,← e,if_true]
   rw [List.take_of_length_le (by omega),show o.length - i=0 by omega]
   simp
theorem qqa {f:GFS} {k:Nat} (hg:GOK f) (hf:Small f k) (hk:k≤1000000) {r:Int} (hr:InG f r) {n:Nat} (hn:2*k+4≤n):q44 n f r=some (q70 f r):=by
 obtain ⟨ho,hst⟩:=qp8 hg hr
 have hnl:=hf.nodes
 obtain ⟨w,g1,g2⟩:=quy hg hf hk n [] r qmh (Seen.nil f) hr (by simp) Rep.nil (by simp; omega)
 rw [hst n (by omega)] at g1 g2
 have hol:=ho.seen.len
 have h1:=qtc hg hf hk (show k+2≤n by omega) ho g2 n 0 (by omega) (by omega)
 rw [Int.ofNat_zero,List.take_zero,List.map_nil,List.nil_append,Nat.sub_zero] at h1
 have hneed:0≤((qnn f r).length:Int)∧32*((qnn f r).length:Int).toNat≤281474976710656∧((qnn f r).length:Int)≤281474976710656:=by simp; omega
 simp only [q44,g1,q0o,q1i,hneed,and_self,if_true]
 rw [Int.toNat_natCast]
 exact h1
end Go.Proofs
end
section
namespace Go.Proofs
open Go Go.Rx Go.Vx Go.Shelf Go.Sort
set_option maxRecDepth 10000
def qvb (N:Nat) (seen:List Int):List q0s→Int
 | []=>0
 | a::l=>if a.Feat<0∨a.To<0∨a.To ≥ (N:Int) then 2 else if a.Feat∈seen then 4 else qvb N (a.Feat::seen) l
def errN (N:Nat) (x:q0n):Int:=if x.Typex<0 then 2 else qvb N [] x.Arcs
theorem qqi {N:Nat}:∀ {l:List q0s} {seen:List Int},qvb N seen l=0↔(∀ a∈l,0≤a.Feat∧0≤a.To∧a.To<N)∧Dis l∧∀ a∈l,a.Feat ∉ seen
 | [],seen=>by simp [qvb,Dis]
 | a::l,seen=>by
  simp only [qvb]
  by_cases h1:a.Feat<0∨a.To<0∨a.To ≥ (N:Int)
  ·simp only [h1,if_true]
   refine ⟨fun h=>absurd h (by decide),fun h=>?_⟩
   have:=h.1 a (by simp)
   omega
  ·by_cases h2:a.Feat∈seen
   ·simp only [h1,h2,if_true,if_false]
    exact ⟨fun h=>absurd h (by decide),fun h=>absurd h2 (h.2.2 a (by simp))⟩
   ·simp only [h1,h2,if_false]
    rw [qqi (l:=l)]
    unfold Dis
    rw [List.pairwise_cons]
    constructor
    ·rintro ⟨g1,g2,g3⟩
     refine ⟨fun b hb=>?_,⟨fun b hb=>?_,g2⟩,fun b hb=>?_⟩
     ·rcases List.mem_cons.1 hb with rfl | hb
      ·omega
      ·exact g1 b hb
     ·have:=g3 b hb
      simp only [List.mem_cons,not_or] at this
      exact fun e=>this.1 e.symm
     ·rcases List.mem_cons.1 hb with rfl | hb
      ·exact h2
      ·have:=g3 b hb
       simp only [List.mem_cons,not_or] at this
       exact this.2
    ·rintro ⟨g1,⟨g2,g3⟩,g4⟩
     refine ⟨fun b hb=>g1 b (by simp [hb]),g3,fun b hb=>?_⟩
     simp only [List.mem_cons,not_or]
     exact ⟨fun e=>g2 b hb e.symm,g4 b (by simp [hb])⟩
theorem qqk {N:Nat} {x:q0n}:errN N x=0↔NOk x N:=by
 unfold errN
 by_cases h:x.Typex<0
 ·simp only [h,if_true]
  exact ⟨fun h=>absurd h (by decide),fun h'=>by have:=h'.ty; omega⟩
 ·simp only [h,if_false]
  rw [qqi]
  exact ⟨fun ⟨h1,h2,_⟩=>⟨by omega,h2,h1⟩,fun h=>⟨h.arc,h.dis,fun _ _=>by simp⟩⟩
def z1t (N:Nat):List q0n→Int
 | []=>0
 | x::l=>if errN N x≠0 then errN N x else z1t N l
theorem qqj {N:Nat}:∀ {l:List q0n},z1t N l=0↔∀ x∈l,NOk x N
 | []=>by simp [z1t]
 | x::l=>by
  simp only [z1t]
  by_cases h:errN N x=0
  ·simp only [h,ne_eq,not_true,if_false,qqj (l:=l),List.mem_cons,forall_eq_or_imp,qqk.1 h,true_and]
  ·simp only [h,ne_eq,not_false_eq_true,if_true,List.mem_cons,forall_eq_or_imp,false_iff,not_and]
   exact fun h2=>absurd (qqk.2 h2) h
def qwx (f:GFS):Int:=if f.Nodes.length=0 then 1 else if f.Nodes.length > 4096 then 7 else z1t f.Nodes.length f.Nodes
theorem qlz {f:GFS}:qwx f=0↔f.Nodes.length≠0∧f.Nodes.length≤4096∧GOK f:=by
 unfold qwx
 by_cases h0:f.Nodes.length=0
 ·simp [h0]
 ·by_cases h1:f.Nodes.length > 4096
  ·simp [h0,h1]; intro _; omega
  ·simp only [h0,h1,if_false,qqj]
   exact ⟨fun h=>⟨by simpa using h0,by omega,h⟩,fun h=>h.2.2⟩
structure Sim (f g:GFS) (π:Int→Int) (S:Int→Prop):Prop where
 clo:∀ v,S v→∀ a∈sar f v,S a.To
 inj:∀ u v,S u→S v→π u=π v→u=v
 ty:∀ v,S v→(nd g (π v)).Typex=(nd f v).Typex
 arc:∀ v,S v→sar g (π v)=(sar f v).map fun a=>⟨a.Feat,π a.To⟩
theorem z41 {l:List q0s} (h:UpA l):qol l=l:=qyz h.dis (List.Perm.refl _) h
theorem qm9 {o:List Int} {v:Int} (h:v∈o):o[o.idxOf v]? = some v:=by
 have h1:=List.idxOf_lt_length_of_mem h
 rw [List.getElem?_eq_getElem h1,List.getElem_idxOf]
structure CanOk (f:GFS) (r:Int) (c:GFS):Prop where
 len:c.Nodes.length=(qnn f r).length
 le:c.Nodes.length≤f.Nodes.length
 pos:0<c.Nodes.length
 ok:GOK c
 at_:∀ v∈qnn f r,nd c ((qnn f r).idxOf v:Int)=q9d f (qnn f r) v
 up:∀ x∈c.Nodes,UpA x.Arcs
 sim:Sim f c (fun v=>((qnn f r).idxOf v:Int)) (fun v=>v∈qnn f r)
theorem up_map {o:List Int} {l:List q0s} (h:UpA l):UpA (l.map (qjb o)):=by
 unfold UpA at *
 rw [List.pairwise_map]
 exact h
theorem z35 {f:GFS} (hf:GOK f) {r:Int} (hr:InG f r):CanOk f r (q70 f r):=by
 obtain ⟨o1,_⟩:=qp8 hf hr
 have hat:∀ v∈qnn f r,nd (q70 f r) ((qnn f r).idxOf v:Int)=q9d f (qnn f r) v:=fun v hv=>by
  simp only [nd,q70,Int.toNat_natCast,List.getElem?_map,qm9 hv,Option.map_some,Option.getD_some]
 have hin:∀ v∈qnn f r,InG f v:=o1.seen.ing
 have hup:∀ v∈qnn f r,UpA (q9d f (qnn f r) v).Arcs:=fun v hv=>up_map (qpw (hf _ (qf4 (hin v hv)).2).dis)
 refine ⟨by simp [q70],by simp only [q70,List.length_map]; exact o1.seen.len,?_,?_,hat,?_,?_⟩
 ·obtain ⟨t,ht⟩:=o1.head
  simp [q70,ht]
 ·intro x hx
  simp only [q70,List.mem_map] at hx
  obtain ⟨v,hv,rfl⟩:=hx
  have hn:=hf _ (qf4 (hin v hv)).2
  refine ⟨hn.ty,(hup v hv).dis,fun a ha=>?_⟩
  simp only [q9d,List.mem_map] at ha
  obtain ⟨b,hb,rfl⟩:=ha
  have hb':=qfo.1 hb
  refine ⟨(hn.arc b hb').1,by simp only [qjb]; omega,?_⟩
  have:=List.idxOf_lt_length_of_mem (o1.clo v hv b hb')
  simp only [qjb,q70,List.length_map]
  omega
 ·intro x hx
  simp only [q70,List.mem_map] at hx
  obtain ⟨v,hv,rfl⟩:=hx
  exact hup v hv
 ·refine ⟨fun v hv a ha=>o1.clo v hv a (qfo.1 ha),fun u v hu hv e=>?_,fun v hv=>?_,fun v hv=>?_⟩
  ·have h1:=qm9 hu
   have h2:=qm9 hv
   have e':(qnn f r).idxOf u=(qnn f r).idxOf v:=Int.ofNat.inj e
   rw [e',h2] at h1
   exact (Option.some.inj h1).symm
  ·simp only [hat v hv,q9d]
  ·simp only [sar,hat v hv]
   rw [z41 (hup v hv)]
   rfl
theorem Small.canon {f:GFS} {k:Nat} (hs:Small f k) (hf:GOK f) {r:Int} (hr:InG f r):Small (q70 f r) k:=by
 have hc:=z35 hf hr
 obtain ⟨o1,_⟩:=qp8 hf hr
 refine ⟨Nat.le_trans hc.le hs.nodes,fun x hx=>?_⟩
 simp only [q70,List.mem_map] at hx
 obtain ⟨v,hv,rfl⟩:=hx
 simp only [q9d,List.length_map,sar]
 rw [(q5d _).length_eq]
 exact hs.arcs _ (qf4 (o1.seen.ing v hv)).2
end Go.Proofs
end
section
namespace Go.Proofs
open Go Go.Rx Go.Vx Go.Shelf Go.Sort
set_option maxRecDepth 10000
theorem qo9 {N:Nat}:∀ {l:List q0s} {s s':List Int},(∀ x,x∈s↔x∈s')→qvb N s l=qvb N s' l
 | [],s,s',_=>rfl
 | a::l,s,s',h=>by
  simp only [qvb]
  rw [qo9 (l:=l) (s:=a.Feat::s) (s':=a.Feat::s') fun x=>by simp only [List.mem_cons,h x]]
  by_cases h1:a.Feat∈s
  ·simp only [h1,(h _).1 h1,if_true]
  ·simp only [h1,mt (h _).2 h1,if_false]
theorem qw8 {l:List q0s} (hl:l.length≤1000000) {i:Nat} {x:q0s} (hx:l[i]? = some x) (hi:i<l.length) {rc:Int→Option Int}:∀ (m k:Nat),i - k<m→k≤i →
  q5t l i rc m k=if x.Feat∈((l.take i).drop k).map q0s.Feat then some 4 else rc (IntKind.i64.wrap ((i:Int)+1))
 | 0,k,hm,_=>by omega
 | m+1,k,hm,hk=>by
  unfold q5t
  by_cases hlt:k<i
  ·obtain ⟨y,hy,_⟩:=q5x (l:=l) (i:=k) (by omega)
   have hy':(l.take i)[k]? = some y:=by rw [List.getElem?_take_of_lt hlt]; exact hy
   have hd:decide ((k:Int)<(i:Int))=true:=dlt hlt
   have hw:IntKind.i64.wrap ((k:Int)+1)=((k+1:Nat):Int):=wrn (by omega) (by omega)
   simp only [hd,cond_true,q2w,hy,hx,q0o,drop_cons' hy',List.map_cons,List.mem_cons,hw]
   by_cases e:y.Feat=x.Feat
   ·simp [e]
   ·have e2:(y.Feat == x.Feat)=false:=by simpa using e
    have e3:¬ x.Feat=y.Feat:=fun h=>e h.symm
    simp only [e2,cond_false,e3,false_or]
    exact qw8 hl hx hi m (k+1) (by omega) (by omega)
  ·have hd:decide ((k:Int)<(i:Int))=false:=qng hlt
   have:(l.take i).drop k=[]:=List.drop_eq_nil_of_le (by simp; omega)
   simp only [hd,cond_false,qaa,this,List.map_nil,List.not_mem_nil,if_false]
theorem qw7 {l:List q0s} {N n:Nat} (hl:l.length≤1000000) (hn:l.length<n):∀ (m i:Nat),l.length - i<m→i≤l.length→q36 l N n m i=some (qvb N ((l.take i).map q0s.Feat) (l.drop i))
 | 0,i,hm,_=>by omega
 | m+1,i,hm,hi=>by
  unfold q36
  by_cases hlt:i<l.length
  ·obtain ⟨a,ha,_⟩:=q5x hlt
   have h2:=qw8 hl ha hlt (rc:=q36 l N n m) n 0 (by omega) (by omega)
   rw [Int.ofNat_zero,List.drop_zero] at h2
   simp only [dlt hlt,cond_true,q2w,ha,q0o,drop_cons' ha,qvb]
   by_cases h1:a.Feat<0
   ·simp [h1,q0o]
   ·by_cases h3:a.To<0
    ·simp [h1,h3,q0o]
    ·by_cases h4:a.To ≥ (N:Int)
     ·simp [h1,h3,h4,q0o]
     ·simp only [h1,h3,h4,decide_false,cond_false,q0o,or_self,if_false,h2,wr1 hlt (show l.length≤9223372036854775807 by omega)]
      rw [qw7 hl hn m (i+1) (by omega) (by omega),q9b ha]
      by_cases h5:a.Feat∈(l.take i).map q0s.Feat
      ·simp only [h5,if_true]
      ·simp only [h5,if_false]
       congr 1
       exact qo9 fun x=>by simp [or_comm]
  ·simp only [qng hlt,cond_false,qa9,drop_nil' hlt,qvb]
theorem qx6 {f:GFS} {k:Nat} (hf:Small f k) (hk:k≤1000000) {n:Nat} (hn:k<n):∀ (m i:Nat),f.Nodes.length - i<m→i≤f.Nodes.length→q5u f n m i=some (z1t f.Nodes.length (f.Nodes.drop i))
 | 0,i,hm,_=>by omega
 | m+1,i,hm,hi=>by
  have hnl:=hf.nodes
  unfold q5u
  by_cases hlt:i<f.Nodes.length
  ·obtain ⟨x,hx,hxm⟩:=q5x hlt
   have hal:=hf.arcs x hxm
   have h2:=qw7 (l:=x.Arcs) (N:=f.Nodes.length) (n:=n) (by omega) (by omega) n 0 (by omega) (by omega)
   rw [Int.ofNat_zero,List.drop_zero,List.take_zero,List.map_nil] at h2
   simp only [dlt hlt,cond_true,q2w,hx,q0o,drop_cons' hx,z1t,errN,qg3,h2,wr1 hlt (show f.Nodes.length≤9223372036854775807 by omega)]
   by_cases h1:x.Typex<0
   ·simp [h1]
   ·simp only [h1,decide_false,cond_false,if_false]
    by_cases h3:qvb f.Nodes.length [] x.Arcs=0
    ·simp only [h3,bne_self_eq_false,cond_false,ne_eq,not_true,if_false]
     exact qx6 hf hk hn m (i+1) (by omega) (by omega)
    ·have hb:(qvb f.Nodes.length [] x.Arcs != 0)=true:=by simpa using h3
     simp only [hb,cond_true,h3,ne_eq,not_false_eq_true,if_true]
  ·simp only [qng hlt,cond_false,qab,drop_nil' hlt,z1t]
theorem z3g {f:GFS} {k:Nat} (hf:Small f k) (hk:k≤1000000) {n:Nat} (hn:k<n):qcx n f=some (qwx f):=by
 have hnl:=hf.nodes
 unfold qcx qwx
 by_cases h0:f.Nodes.length=0
 ·simp [h0]
 ·have e0:((f.Nodes.length:Int) == 0)=false:=by simp; intro h; simp [h] at h0
  simp only [e0,cond_false,h0,if_false]
  by_cases h1:f.Nodes.length > 4096
  ·have:(f.Nodes.length:Int) > 4096:=by omega
   simp [h1,this]
  ·have:¬ (f.Nodes.length:Int) > 4096:=by omega
   simp only [h1,this,decide_false,cond_false,if_false]
   have h:=qx6 hf hk hn n 0 (by omega) (by omega)
   rw [Int.ofNat_zero,List.drop_zero] at h
   exact h
theorem z1y {l:List q0s} {i:Nat} {x:q0s} (hx:l[i]? = some x) {out:List q0s} (hol:out.length≤1000000) (hup:UpA out) {rc:Int→List q0s→Option (List q0s)}:∀ (m p:Nat),p<m→p≤out.length→(∀ a∈out.drop p,x.Feat<a.Feat) →
  ∃ q,q≤out.length∧q4a l i out rc m p=q49 l i out rc (q:Int)∧(∀ a∈out.drop q,x.Feat<a.Feat)∧(∀ a∈out.take q,a.Feat≤x.Feat)
 | 0,p,hm,_,_=>by omega
 | m+1,p,hm,hp,hd=>by
  unfold q4a
  cases p with
  | zero =>
   have:¬ ((0:Nat):Int) > 0:=by omega
   simp only [this,decide_false,cond_false,q0o]
   exact ⟨0,by omega,rfl,hd,by simp⟩
  | succ p =>
   have h0:((p+1:Nat):Int) > 0:=by omega
   have hw:IntKind.i64.wrap (((p+1:Nat):Int) - 1)=(p:Int):=wrn (by omega) (by omega)
   obtain ⟨y,hy,_⟩:=q5x (l:=out) (i:=p) (by omega)
   simp only [h0,decide_true,cond_true,hw,q2w,hy,hx,q0o]
   by_cases e:y.Feat > x.Feat
   ·simp only [e,decide_true,cond_true]
    refine z1y hx hol hup m p (by omega) (by omega) fun a ha=>?_
    rw [drop_cons' hy] at ha
    rcases List.mem_cons.1 ha with rfl | ha
    ·omega
    ·exact hd a ha
   ·simp only [e,decide_false,cond_false]
    refine ⟨p+1,hp,rfl,hd,fun a ha=>?_⟩
    obtain ⟨j,hj,rfl⟩:=List.mem_iff_getElem.1 ha
    simp only [List.length_take] at hj
    rw [List.getElem_take]
    obtain ⟨hp',ey⟩:=List.getElem?_eq_some_iff.1 hy
    by_cases ej:j=p
    ·subst ej; rw [ey]; omega
    ·have:=List.pairwise_iff_getElem.1 hup j p (by omega) hp' (by omega)
     rw [ey] at this
     omega
theorem ins_K2 {l:List q0s} {i:Nat} {x:q0s} (hx:l[i]? = some x) {out:List q0s} (hol:out.length≤1000000) {rc:Int→List q0s→Option (List q0s)} {q:Nat} (hq:q≤out.length) :
  q49 l i out rc (q:Int)=rc (IntKind.i64.wrap ((i:Int)+1)) (out.take q++x::out.drop q):=by
 have e1:(out.drop 0).take ((q:Int)).toNat=out.take q:=by rw [List.drop_zero,Int.toNat_natCast]
 have e2:(out.drop (0+((q:Int)).toNat)).take (out.length - ((q:Int)).toNat)=out.drop q:=by
  rw [Int.toNat_natCast,Nat.zero_add,List.take_of_length_le (by simp)]
 have l1:(out.take q).length=q:=by simp; omega
 have n1:(0:Int)≤(q:Int)∧(q:Int)≤((out.length:Nat):Int):=by omega
 have n2:0+((q:Int)).toNat≤out.length:=by rw [Int.toNat_natCast]; omega
 have n3:(out.take q).length*16≤140737488355328∧(out.take q).length≤140737488355328:=by omega
 have n4:((out.take q).length+1)*16≤140737488355328∧(out.take q).length+1≤140737488355328:=by omega
 have n5:(0+((q:Int)).toNat)+(out.length - ((q:Int)).toNat)≤out.length:=by rw [Int.toNat_natCast]; omega
 have n6:((out.take q++[x]).length+(out.drop q).length)*16≤140737488355328∧(out.take q++[x]).length+(out.drop q).length≤140737488355328:=by simp; omega
 unfold q49
 simp only [q1i,e1,e2,q2w,hx,q0o]
 rw [if_pos n1,if_pos n2,if_pos n3,if_pos n4,if_pos n1,if_pos n5,if_pos n6]
 simp
theorem z1x {l:List q0s} (hl:l.length≤1000000) (hd:Dis l) {n:Nat} (hn:l.length<n):∀ (m i:Nat),l.length - i<m→i≤l.length→q2l l n m i (qol (l.take i))=some (qol l)
 | 0,i,hm,_=>by omega
 | m+1,i,hm,hi=>by
  have hdi:Dis (l.take i):=hd.sublist (List.take_sublist i l)
  have hol:(qol (l.take i)).length=i:=by rw [(q5d _).length_eq]; simp; omega
  unfold q2l
  by_cases hlt:i<l.length
  ·obtain ⟨x,hx,_⟩:=q5x hlt
   obtain ⟨q,q1,q2,q3,q4⟩:=z1y hx (out:=qol (l.take i)) (by omega) (qpw hdi) (rc:=q2l l n m) n (qol (l.take i)).length (by omega) (Nat.le_refl _) (by simp)
   simp only [dlt hlt,cond_true,q2,ins_K2 hx (show (qol (l.take i)).length≤1000000 by omega) q1,wr1 hlt (show l.length≤9223372036854775807 by omega)]
   have hdi1:Dis (l.take (i+1)):=hd.sublist (List.take_sublist _ l)
   have hperm:((qol (l.take i)).take q++x::(qol (l.take i)).drop q).Perm (l.take (i+1)):=by
    rw [q9b hx]
    refine List.perm_middle.trans ?_
    rw [List.take_append_drop]
    exact ((q5d (l.take i)).cons x).trans (List.perm_append_comm (l₁:=[x]) (l₂:=l.take i))
   have hne:∀ a∈qol (l.take i),a.Feat≠x.Feat:=fun a ha e=>by
    rw [q9b hx] at hdi1
    have:=(List.pairwise_append.1 hdi1).2.2 a ((q5d _).mem_iff.1 ha) x (by simp)
    exact this e
   have hup:UpA ((qol (l.take i)).take q++x::(qol (l.take i)).drop q):=by
    have h0:=qpw hdi
    unfold UpA at *
    rw [List.pairwise_append]
    refine ⟨h0.sublist (List.take_sublist _ _),List.pairwise_cons.2 ⟨q3,h0.sublist (List.drop_sublist _ _)⟩,fun a ha b hb=>?_⟩
    have h1:=q4 a ha
    have h2:=hne a (List.mem_of_mem_take ha)
    rcases List.mem_cons.1 hb with rfl | hb
    ·omega
    ·have:=q3 b hb; omega
   rw [← qyz hdi1 hperm hup]
   exact z1x hl hd hn m (i+1) (by omega) (by omega)
  ·simp only [qng hlt,cond_false,q7i]
   rw [List.take_of_length_le (by omega)]
theorem qkq {l:List q0s} (hl:l.length≤1000000) (hd:Dis l) {n:Nat} (hn:l.length<n):q97 n l=some (qol l):=by
 have h:=z1x hl hd hn n 0 (by omega) (by omega)
 rw [Int.ofNat_zero,List.take_zero] at h
 exact h
structure qzb (f:GFS) (w:List Int) (o:List Int):Prop where
 len:w.length=f.Nodes.length
 get:∀ x,InG f x→q15 w x=some (if x∈o then (o.idxOf x:Int) else -1)
theorem qzb.snoc {f:GFS} {w o:List Int} (h:qzb f w o) {v:Int} (hv:InG f v) (hn:v ∉ o):qzb f (w.set (0+v.toNat) (o.length:Int)) (o++[v]):=by
 refine ⟨by simp [h.len],fun x hx=>?_⟩
 have hvl:v.toNat<w.length:=by rw [h.len]; have:=hv.1; have:=hv.2; omega
 have hc:0≤x∧x<((w.set (0+v.toNat) (o.length:Int)).length:Int):=by rw [List.length_set,h.len]; exact hx
 have h2:=h.get x hx
 have hc2:0≤x∧x<(w.length:Int):=by rw [h.len]; exact hx
 rw [q15,if_pos hc2] at h2
 rw [q15,if_pos hc,Nat.zero_add]
 by_cases e:x=v
 ·subst e
  simp [List.idxOf_append,hn,hvl]
 ·rw [List.getElem?_set_ne (by have:=hx.1; have:=hv.1; omega),h2]
  by_cases hxo:x∈o
  ·simp [hxo,List.idxOf_append]
  ·simp [hxo,e]
theorem qrp {f:GFS} {k:Nat} (hg:GOK f) (hf:Small f k) (hk:k≤1000000):∀ (n:Nat) (o:List Int) (v:Int) (w:List Int),Seen f o→InG f v→v ∉ o→qzb f w o→f.Nodes.length - o.length+k+2≤n →
  ∃ w',q1m n v f.Nodes w o=some (w',dfs f n o v)∧qzb f w' (dfs f n o v)
 | 0,o,v,w,hs,hv,hn,hw,hfu=>by omega
 | n+1,o,v,w,hs,hv,hn,hw,hfu=>by
  have hs1:=hs.snoc hv hn
  have hl1:=hs1.len
  simp only [List.length_append,List.length_cons,List.length_nil] at hl1
  obtain ⟨hx,hxm⟩:=qf4 hv
  have hno:=hg _ hxm
  have hal:=hf.arcs _ hxm
  have hnl:=hf.nodes
  have hsl:(sar f v).length=(nd f v).Arcs.length:=(q5d _).length_eq
  have key:∀ (m i:Nat) (p:List Int) (w:List Int),(sar f v).length - i<m→i≤(sar f v).length→Seen f p→o.length+1≤p.length→qzb f w p →
    ∃ w',q1g f.Nodes (sar f v) (q1m n) m i w p=some (w',((sar f v).drop i).foldl (qo7 (dfs f n)) p)∧qzb f w' (((sar f v).drop i).foldl (qo7 (dfs f n)) p):=by
   intro m
   induction m with
   | zero=>intro i p w hm; omega
   | succ m ih =>
    intro i p w hm hi hp hpl hw
    unfold q1g
    by_cases hlt:i<(sar f v).length
    ·obtain ⟨a,ha,ham⟩:=q5x hlt
     have h1:=hno.arc a (qfo.1 ham)
     have hia:InG f a.To:=⟨h1.2.1,h1.2.2⟩
     have hw1:IntKind.i64.wrap ((i:Int)+1)=((i+1:Nat):Int):=wr1 hlt (by omega)
     simp only [dlt hlt,cond_true,q2w,ha,q0o,hw.get _ hia,drop_cons' ha,List.foldl_cons]
     by_cases hm2:a.To∈p
     ·have hneg:¬ ((p.idxOf a.To:Nat):Int)<0:=by omega
      simp only [hm2,if_true,hneg,decide_false,cond_false,q23,hw1,qo7]
      exact ih (i+1) p w (by omega) (by omega) hp hpl hw
     ·have hneg:(-1:Int)<0:=by decide
      simp only [hm2,if_false,hneg,decide_true,cond_true,q23,hw1,qo7]
      obtain ⟨w1,g1,g2⟩:=qrp hg hf hk n p a.To w hp hia hm2 hw (by omega)
      obtain ⟨d1,⟨t,d2⟩,_,_⟩:=qth hg n p a.To hp hia hm2 (by omega)
      simp only [g1,q0o]
      exact ih (i+1) _ w1 (by omega) (by omega) d1 (by rw [d2]; simp; omega) g2
    ·rw [drop_nil' hlt]
     simp only [qng hlt,cond_false,q3j,List.foldl_nil]
     exact ⟨w,rfl,hw⟩
  have hneed:(o.length+1)*8≤140737488355328∧o.length+1≤140737488355328:=by omega
  obtain ⟨w',g1,g2⟩:=key n 0 (o++[v]) _ (by omega) (by omega) hs1 (by simp) (hw.snoc hv hn)
  rw [Int.ofNat_zero,List.drop_zero] at g1
  rw [List.drop_zero] at g2
  refine ⟨w',?_,g2⟩
  show q3v n (q1m n) v f.Nodes w o=_
  simp only [q3v,hw.get _ hv,q1i,hneed,and_self,if_true,hx,q0o,qkq (show (nd f v).Arcs.length≤1000000 by omega) hno.dis (show (nd f v).Arcs.length<n by omega)]
  exact g1
theorem qxb {f:GFS} {o w:List Int} {z:Int} {l27:List q0n} {rc:Int→List q0n→Option GFS} {x:q0n} {l:List q0s} (hl:l.length≤1000000) (hw:qzb f w o) (hin:∀ a∈l,a.To∈o) (hing:∀ v∈o,InG f v):∀ (m i:Nat),l.length - i<m→i≤l.length →
  q4c (w,o) z l27 rc x m i ((l.take i).map (qjb o)++l.drop i)=q7h z l27 rc x (l.map (qjb o))
 | 0,i,hm,_=>by omega
 | m+1,i,hm,hi=>by
  unfold q4c
  have hlen:((l.take i).map (qjb o)++l.drop i).length=l.length:=by simp; omega
  rw [hlen]
  by_cases hlt:i<l.length
  ·obtain ⟨a,ha,ham⟩:=q5x hlt
   have e1:(((l.take i).map (qjb o)++l.drop i))[i]? = some a:=by
    rw [List.getElem?_append_right (by simp; omega)]
    simp [show min i l.length=i by omega,ha]
   have e2:(((l.take i).map (qjb o)++l.drop i)).set (0+(i:Int).toNat) (qjb o a)=(l.take (i+1)).map (qjb o)++l.drop (i+1):=by
    rw [drop_cons' ha,q9b ha]
    have h3:((l.take i).map (qjb o)).length=i:=by simp; omega
    have:=qys ((l.take i).map (qjb o)) (l.drop (i+1)) a (qjb o a)
    rw [h3] at this
    rw [Nat.zero_add,Int.toNat_natCast,this,List.map_append,List.map_cons,List.map_nil,List.append_assoc]
    rfl
   have hto:=hin a ham
   have e3:(⟨a.Feat,(o.idxOf a.To:Int)⟩:q0s)=qjb o a:=rfl
   simp only [dlt hlt,cond_true,q2w,e1,q0o,hw.get _ (hing _ hto),hto,if_true,e3,e2,wr1 hlt (show l.length≤9223372036854775807 by omega)]
   exact qxb hl hw hin hing m (i+1) (by omega) (by omega)
  ·simp only [qng hlt,cond_false]
   rw [List.take_of_length_le (by omega),List.drop_eq_nil_of_le (by omega),List.append_nil]
theorem qxa {f:GFS} {k:Nat} (hg:GOK f) (hf:Small f k) (hk:k≤1000000) {n:Nat} (hn:k+2≤n) {r:Int} {o w:List Int} (ho:z2s f r o) (hw:qzb f w o):∀ (m i:Nat),o.length - i<m→i≤o.length →
  q35 f n (w,o) m i ((o.take i).map (q9d f o))=some ⟨o.map (q9d f o)⟩
 | 0,i,hm,_=>by omega
 | m+1,i,hm,hi=>by
  have hol:=ho.seen.len
  have hnl:=hf.nodes
  unfold q35
  by_cases hlt:i<o.length
  ·obtain ⟨v,hv,hvm⟩:=q5x hlt
   obtain ⟨hx,hxm⟩:=qf4 (ho.seen.ing v hvm)
   have hno:=hg _ hxm
   have hal:=hf.arcs _ hxm
   have hsl:(sar f v).length=(nd f v).Arcs.length:=(q5d _).length_eq
   have h2:=qxb (z:=(i:Int)) (l27:=(o.take i).map (q9d f o)) (rc:=q35 f n (w,o) m) (x:=nd f v) (l:=sar f v) (by omega) hw (fun a ha=>ho.clo v hvm a (qfo.1 ha)) ho.seen.ing n 0 (by omega) (by omega)
   rw [Int.ofNat_zero,List.take_zero,List.map_nil,List.nil_append,List.drop_zero] at h2
   have hneed:(((o.take i).map (q9d f o)).length+1)*32≤140737488355328∧((o.take i).map (q9d f o)).length+1≤140737488355328:=by simp; omega
   have hso:=qkq (show (nd f v).Arcs.length≤1000000 by omega) hno.dis (show (nd f v).Arcs.length<n by omega)
   simp only [dlt hlt,cond_true,q2w,hv,hx,q0o,hso]
   show q4c (w,o) i _ _ (nd f v) n 0 (sar f v)=_
   rw [h2]
   simp only [q7h,q1i]
   rw [if_pos hneed,wr1 hlt (show o.length≤9223372036854775807 by omega)]
   have:=qxa hg hf hk hn ho hw m (i+1) (by omega) (by omega)
   rw [q9b hv] at this
   simpa [q9d,sar] using this
  ·simp only [qng hlt,cond_false,qa8]
   rw [List.take_of_length_le (by omega)]
theorem qx9 {f:GFS} (hN:f.Nodes.length≤1000000) {r:Int} {n:Nat}:∀ (m i:Nat),f.Nodes.length - i<m→i≤f.Nodes.length→q5s f r n m i (List.replicate i (-1))=q7g f r n (List.replicate f.Nodes.length (-1))
 | 0,i,hm,_=>by omega
 | m+1,i,hm,hi=>by
  unfold q5s
  by_cases hlt:i<f.Nodes.length
  ·have hneed:((List.replicate i (-1:Int)).length+1)*8≤140737488355328∧(List.replicate i (-1:Int)).length+1≤140737488355328:=by simp; omega
   have e:List.replicate i (-1:Int)++[-1]=List.replicate (i+1) (-1):=by rw [List.replicate_succ']
   simp only [dlt hlt,cond_true,q1i]
   rw [if_pos hneed,wr1 hlt (show f.Nodes.length≤9223372036854775807 by omega),e]
   exact qx9 hN m (i+1) (by omega) (by omega)
  ·simp only [qng hlt,cond_false]
   rw [show i=f.Nodes.length by omega]
theorem qxc {f:GFS} {k:Nat} (hg:GOK f) (hf:Small f k) (hk:k≤1000000) {r:Int} (hr:InG f r) {n:Nat} (hn:2*k+4≤n):qag n f r=some (q70 f r):=by
 obtain ⟨ho,hst⟩:=qp8 hg hr
 have hnl:=hf.nodes
 have h0:qzb f (List.replicate f.Nodes.length (-1)) []:=⟨by simp,fun x hx=>by
  have hc:0≤x∧x<((List.replicate f.Nodes.length (-1:Int)).length:Int):=by rw [List.length_replicate]; exact hx
  rw [q15,if_pos hc]
  have:x.toNat<f.Nodes.length:=by have:=hx.1; have:=hx.2; omega
  simp [this]⟩
 obtain ⟨w,g1,g2⟩:=qrp hg hf hk n [] r _ (Seen.nil f) hr (by simp) h0 (by simp; omega)
 rw [hst n (by omega)] at g1 g2
 have hol:=ho.seen.len
 have h1:=qxa hg hf hk (show k+2≤n by omega) ho g2 n 0 (by omega) (by omega)
 rw [Int.ofNat_zero,List.take_zero,List.map_nil] at h1
 have h2:=qx9 (f:=f) (by omega) (r:=r) (n:=n) n 0 (by omega) (by omega)
 rw [Int.ofNat_zero,List.replicate_zero] at h2
 simp only [qag,h2,q7g,g1,q0o,h1,q70]
theorem qt0 {f:GFS} {k:Nat} (hf:Small f k) (hk:k≤1000000) {n:Nat} (hn:2*k+4≤n):qb2 n f=some (if qwx f=0 then (q70 f 0,0) else (⟨[]⟩,qwx f)):=by
 simp only [qb2,z3g hf hk (show k<n by omega),q0o]
 by_cases he:qwx f=0
 ·obtain ⟨e1,e2,e3⟩:=qlz.1 he
  simp [he,qxc e3 hf hk (r:=0) ⟨by omega,by omega⟩ hn,q0o]
 ·have hb:(qwx f != 0)=true:=by simpa using he
  simp [he,hb]
end Go.Proofs
end
section
namespace Go.Proofs
open Go Go.Rx Go.Vx Go.Shelf Go.Sort
set_option maxRecDepth 10000
theorem ex_ok (m:Nat):q2z (m+200)=some true:=by kernel_rfl
theorem ex_n {n:Nat} (h:200≤n):q2z n=some true:=by
 have:=ex_ok (n - 200)
 rwa [Nat.sub_add_cancel h] at this
structure VOK (f:GFS):Prop where
 g:GOK f
 s:Small f 12
 e:qwx f=0
 c:q70 f 0=f
theorem VOK.pos {f:GFS} (h:VOK f):0<f.Nodes.length:=by have:=(qlz.1 h.e).1; omega
theorem VOK.root {f:GFS} (h:VOK f):InG f 0:=⟨by omega,by have:=h.pos; omega⟩
theorem qux {f:GFS} (hf:Small f 12):∀ (m i:Nat),f.Nodes.length - i<m→i≤f.Nodes.length→∃ b,q4o f m i=some b
 | 0,i,hm,_=>by omega
 | m+1,i,hm,hi=>by
  unfold q4o
  have hl:=hf.nodes
  by_cases hlt:i<f.Nodes.length
  ·obtain ⟨x,hx,hxm⟩:=q5x hlt
   have ha:=hf.arcs x hxm
   simp only [dlt hlt,cond_true,q2w,hx,q0o,wr1 hlt (show f.Nodes.length≤9223372036854775807 by omega)]
   have hin:∃ b,(cond (decide (x.Typex ≥ 256)) (some true) (cond (decide ((x.Arcs.length:Int) > 0)) (q04 (q15 x.Arcs (IntKind.i64.wrap ((x.Arcs.length:Int) - 1))) fun x24=>some (decide (x24.Feat ≥ 64))) (some false)))=some b:=by
    by_cases h1:x.Typex ≥ 256
    ·simp [h1]
    ·by_cases h2:(x.Arcs.length:Int) > 0
     ·obtain ⟨y,hy,_⟩:=q5x (l:=x.Arcs) (i:=x.Arcs.length - 1) (by omega)
      rw [wrn (z:=(x.Arcs.length:Int) - 1) (k:=x.Arcs.length - 1) (by omega) (by omega),q2w,hy]
      simp only [h1,h2,decide_false,decide_true,cond_false,cond_true,q0o]; exact ⟨_,rfl⟩
     ·simp only [h1,h2,decide_false,cond_false]; exact ⟨_,rfl⟩
   obtain ⟨b,hb⟩:=hin
   rw [hb,q0o]
   cases b with
   | true=>exact ⟨false,rfl⟩
   | false=>simp only [cond_false]; exact qux hf m (i+1) (by omega) (by omega)
  ·simp only [qng hlt,cond_false,q83]; exact ⟨true,rfl⟩
theorem z1i {f:GFS} {n:Nat} (hn:3000000≤n):∃ b,qal n f=some b∧(b=true→VOK f):=by
 obtain ⟨b,h1,h2⟩:=z0i f (show 20≤n by omega)
 simp only [qal,h1,q0o]
 cases b with
 | false=>exact ⟨false,rfl,fun h=>by cases h⟩
 | true =>
  have hf:=h2 rfl
  have hR:=qt0 hf (by omega) (show 2*12+4≤n by omega)
  have hnl:=hf.nodes
  obtain ⟨b2,hb2⟩:=qux hf n 0 (by omega) (by omega)
  rw [Int.ofNat_zero] at hb2
  simp only [Bool.not_true,cond_false,hR,q0o]
  by_cases he:qwx f=0
  ·obtain ⟨e1,e2,e3⟩:=qlz.1 he
   have hs:=(hf.canon e3 (r:=0) ⟨by omega,by omega⟩).up (show 12≤1000 by omega)
   have hq:=qug (hf.up (show 12≤1000 by omega)) hs hn
   simp only [he,if_true,bne_self_eq_false,cond_false,hq,q0o]
   by_cases hc:ccG f (q70 f 0)=0
   ·refine ⟨b2,by simp [hc,hb2],fun _=>⟨e3,hf,he,(qzv.1 hc).symm⟩⟩
   ·have:(ccG f (q70 f 0) == 0)=false:=by simpa using hc
    exact ⟨false,by simp [this],fun h=>by cases h⟩
  ·have hb:(qwx f != 0)=true:=by simpa using he
   exact ⟨false,by simp [he,hb,q0o],fun h=>by cases h⟩
theorem quq {p:List Int} (hp:p.length≤9223372036854775807):∀ (m i:Nat),p.length - i<m→i≤p.length→∃ b,q4n p m i=some b∧(b=true→p.length≤30∧∀ x∈p.drop i,0≤x∧x<64)
 | 0,i,hm,_=>by omega
 | m+1,i,hm,hi=>by
  unfold q4n
  by_cases hlt:i<p.length
  ·obtain ⟨x,hx,_⟩:=q5x hlt
   simp only [dlt hlt,cond_true,q2w,hx,q0o,wr1 hlt hp,drop_cons' hx]
   by_cases h1:x<0
   ·simp only [h1,decide_true,cond_true,q0o]; exact ⟨false,rfl,fun h=>by cases h⟩
   ·by_cases h2:x ≥ 64
    ·simp only [h1,h2,decide_true,decide_false,cond_true,cond_false,q0o]; exact ⟨false,rfl,fun h=>by cases h⟩
    ·simp only [h1,h2,decide_false,cond_false,q0o]
     obtain ⟨b,g1,g2⟩:=quq hp m (i+1) (by omega) (by omega)
     refine ⟨b,g1,fun hb=>⟨(g2 hb).1,fun y hy=>?_⟩⟩
     rcases List.mem_cons.1 hy with rfl | hy
     ·omega
     ·exact (g2 hb).2 y hy
  ·simp only [qng hlt,cond_false,q82,drop_nil' hlt]
   exact ⟨_,rfl,fun h=>⟨by have:=of_decide_eq_true h; omega,fun x hx=>by cases hx⟩⟩
theorem z0y {p:List Int} (hp:p.length≤9223372036854775807) {n:Nat} (hn:p.length<n):∃ b,qd8 n p=some b∧(b=true→p.length≤30∧∀ x∈p,0≤x∧x<64):=by
 obtain ⟨b,h1,h2⟩:=quq hp n 0 (by omega) (by omega)
 rw [List.drop_zero] at h2
 exact ⟨b,h1,h2⟩
def stp (f:GFS) (v feat:Int):Option Int:=((nd f v).Arcs.find? fun a=>a.Feat == feat).map q0s.To
theorem qm6 {l:List q0s} {feat:Int} {F:Nat→Int→Option (Int×Bool)} (hF:∀ m (z:Int),F (m+1) z=cond (decide (z<(l.length:Int))) (q04 (q15 l z) fun x=>cond (x.Feat == feat) (some (x.To,true)) (F m (IntKind.i64.wrap (z+1)))) (some (0,false))) (hl:l.length≤1000000) :
  ∀ (m i:Nat),l.length - i<m→i≤l.length→F m i=some (match ((l.drop i).find? fun a=>a.Feat == feat).map q0s.To with | some v=>(v,true) | none=>(0,false))
 | 0,i,hm,_=>by omega
 | m+1,i,hm,hi=>by
  rw [hF]
  by_cases hlt:i<l.length
  ·obtain ⟨x,hx,_⟩:=q5x hlt
   simp only [dlt hlt,cond_true,q2w,hx,q0o,wr1 hlt (show l.length≤9223372036854775807 by omega),drop_cons' hx,List.find?_cons]
   cases h:(x.Feat == feat) with
   | true=>simp
   | false=>simp only [cond_false]; exact qm6 hF hl m (i+1) (by omega) (by omega)
  ·simp only [qng hlt,cond_false,drop_nil' hlt,List.find?_nil,Option.map_none]
def pr (o:Option Int):Int×Bool:=match o with | some v=>(v,true) | none=>(0,false)
theorem z44 {f:GFS} {v feat:Int} (hv:InG f v) (hl:(nd f v).Arcs.length≤1000000) {n:Nat} (hn:(nd f v).Arcs.length<n):qcu n f v feat=some (pr (stp f v feat)):=by
 have h:=qm6 (F:=q92 feat (nd f v)) (feat:=feat) (fun m z=>rfl) hl n 0 (by omega) (by omega)
 rw [List.drop_zero] at h
 simp only [qcu,(qf4 hv).1,q0o]
 exact h
theorem qvr {f:GFS} {v feat:Int} (hv:InG f v) (hl:(nd f v).Arcs.length≤1000000) {n:Nat} (hn:(nd f v).Arcs.length<n):qah n f v feat=some (pr (stp f v feat)):=by
 have h:=qm6 (F:=q7k feat (nd f v)) (feat:=feat) (l:=(nd f v).Arcs) (fun m z=>by
  show cond _ _ _=_
  cases h1:decide (z<((nd f v).Arcs.length:Int)) with
  | false=>rfl
  | true =>
   simp only [cond_true]
   cases h2:q15 (nd f v).Arcs z with
   | none=>rfl
   | some x=>rfl) hl n 0 (by omega) (by omega)
 rw [List.drop_zero] at h
 simp only [qah,(qf4 hv).1,q0o]
 exact h
theorem z2m {f:GFS} (hg:GOK f) {v feat w:Int} (hv:InG f v) (h:stp f v feat=some w):InG f w∧∃ a∈(nd f v).Arcs,a.Feat=feat∧a.To=w:=by
 unfold stp at h
 cases hf:(nd f v).Arcs.find? fun a=>a.Feat == feat with
 | none=>rw [hf] at h; cases h
 | some a =>
  rw [hf] at h
  have hm:=List.mem_of_find?_eq_some hf
  have he:=List.find?_some hf
  simp only [Option.map_some,Option.some.injEq] at h
  subst h
  have h3:=(hg _ (qf4 hv).2).arc a hm
  exact ⟨⟨h3.2.1,h3.2.2⟩,a,hm,by simpa using he,rfl⟩
def atG (f:GFS):List Int→Int→Option Int
 | [],v=>some v
 | x::p,v=>match stp f v x with
  | some w=>atG f p w
  | none=>none
theorem qo1 {f:GFS} (hg:GOK f):∀ {p:List Int} {v w:Int},InG f v→atG f p v=some w→InG f w
 | [],v,w,hv,h=>by simp only [atG,Option.some.injEq] at h; exact h ▸ hv
 | x::p,v,w,hv,h=>by
  simp only [atG] at h
  cases hs:stp f v x with
  | none=>rw [hs] at h; cases h
  | some u=>rw [hs] at h; exact qo1 hg (z2m hg hv hs).1 h
theorem at_L {f:GFS} {k:Nat} (hg:GOK f) (hf:Small f k) (hk:k≤1000000) {p:List Int} (hp:p.length≤9223372036854775807) {S:Int→Int→Option (Int×Bool)} (hS:∀ v x,InG f v→S v x=some (pr (stp f v x))) {F:Nat→Int→Int→Option (Int×Bool)}
  (hF:∀ m (v z:Int),F (m+1) v z=cond (decide (z<(p.length:Int))) (q04 (q15 p z) fun x=>q04 (S v x) fun r=>cond (!r.2) (some (0,false)) (F m r.1 (IntKind.i64.wrap (z+1)))) (some (v,true))) :
  ∀ (m i:Nat) (v:Int),p.length - i<m→i≤p.length→InG f v→F m v i=some (pr (atG f (p.drop i) v))
 | 0,i,v,hm,_,_=>by omega
 | m+1,i,v,hm,hi,hv=>by
  rw [hF]
  by_cases hlt:i<p.length
  ·obtain ⟨x,hx,_⟩:=q5x hlt
   simp only [dlt hlt,cond_true,q2w,hx,q0o,wr1 hlt hp,drop_cons' hx,hS v x hv,atG]
   cases hs:stp f v x with
   | none=>simp [pr]
   | some w =>
    simp only [pr,Bool.not_true,cond_false]
    exact at_L hg hf hk hp hS hF m (i+1) w (by omega) (by omega) (z2m hg hv hs).1
  ·simp only [qng hlt,cond_false,drop_nil' hlt,atG,pr]
theorem z2w {f:GFS} {k:Nat} (hg:GOK f) (hf:Small f k) (hk:k≤1000000) (h0:InG f 0) {p:List Int} (hp:p.length≤9223372036854775807) {n:Nat} (hn:p.length<n) (hkn:k<n):qh5 n f p=some (pr (atG f p 0)):=by
 have:=at_L hg hf hk hp (S:=qcu n f) (fun v x hv=>z44 hv (by have:=hf.arcs _ (qf4 hv).2; omega) (by have:=hf.arcs _ (qf4 hv).2; omega)) (F:=qcr f p n) (fun m v z=>rfl) n 0 0 (by omega) (by omega) h0
 rwa [List.drop_zero] at this
theorem qpp {f:GFS} {k:Nat} (hg:GOK f) (hf:Small f k) (hk:k≤1000000) (h0:InG f 0) {p:List Int} (hp:p.length≤9223372036854775807) {n:Nat} (hn:p.length<n) (hkn:k<n):qg4 n f p=some (pr (atG f p 0)):=by
 have:=at_L hg hf hk hp (S:=qah n f) (fun v x hv=>qvr hv (by have:=hf.arcs _ (qf4 hv).2; omega) (by have:=hf.arcs _ (qf4 hv).2; omega)) (F:=qb4 f p n) (fun m v z=>rfl) n 0 0 (by omega) (by omega) h0
 rwa [List.drop_zero] at this
def getG (f:GFS) (p:List Int):GFS×Bool:=match atG f p 0 with | some v=>(q70 f v,true) | none=>(⟨[]⟩,false)
theorem get_ok {f:GFS} {k:Nat} (hg:GOK f) (hf:Small f k) (hk:k≤1000000) (h0:InG f 0) {p:List Int} (hp:p.length≤9223372036854775807) {n:Nat} (hn:p.length<n) (hkn:2*k+4≤n):qin n f p=some (getG f p):=by
 simp only [qin,z2w hg hf hk h0 hp hn (show k<n by omega),q0o,getG]
 cases h:atG f p 0 with
 | none=>simp [pr]
 | some v=>simp [pr,qi6,qqa hg hf hk (qo1 hg h0 h) hkn,q0o]
theorem qyi {f:GFS} {k:Nat} (hg:GOK f) (hf:Small f k) (hk:k≤1000000) (h0:InG f 0) {p:List Int} (hp:p.length≤9223372036854775807) {n:Nat} (hn:p.length<n) (hkn:2*k+4≤n):qfl n f p=some (getG f p):=by
 simp only [qfl,qpp hg hf hk h0 hp hn (show k<n by omega),q0o,getG]
 cases h:atG f p 0 with
 | none=>simp [pr]
 | some v=>simp [pr,qiy,qxc hg hf hk (qo1 hg h0 h) hkn,q0o]
def typG (f:GFS) (p:List Int):Int×Bool:=match atG f p 0 with | some v=>((nd f v).Typex,true) | none=>(0,false)
theorem z4a {f:GFS} {k:Nat} (hg:GOK f) (hf:Small f k) (hk:k≤1000000) (h0:InG f 0) {p:List Int} (hp:p.length≤9223372036854775807) {n:Nat} (hn:p.length<n) (hkn:k<n):qct n f p=some (typG f p):=by
 simp only [qct,z2w hg hf hk h0 hp hn hkn,q0o,typG]
 cases h:atG f p 0 with
 | none=>simp [pr]
 | some v=>simp [pr,(qf4 (qo1 hg h0 h)).1,q0o]
theorem qvs {f:GFS} {k:Nat} (hg:GOK f) (hf:Small f k) (hk:k≤1000000) (h0:InG f 0) {p:List Int} (hp:p.length≤9223372036854775807) {n:Nat} (hn:p.length<n) (hkn:k<n):qcy n f p=some (typG f p):=by
 simp only [qcy,qpp hg hf hk h0 hp hn hkn,q0o,typG]
 cases h:atG f p 0 with
 | none=>simp [pr]
 | some v=>simp [pr,(qf4 (qo1 hg h0 h)).1,q0o]
theorem qve {f:GFS} {k:Nat} (hg:GOK f) (hf:Small f k) (hk:k≤1000) (h0:InG f 0) (p:List Int):Small (getG f p).1 1000:=by
 unfold getG
 cases h:atG f p 0 with
 | none=>exact ⟨by simp,fun x hx=>by simp at hx⟩
 | some v=>exact (hf.canon hg (qo1 hg h0 h)).up hk
theorem qsb (f:GFS) {p:List Int} (hp:p.length≤9223372036854775807) {n:Nat} (hn:3000000+p.length≤n):q5f n f p=some true:=by
 obtain ⟨b,h1,h2⟩:=z1i (f:=f) (show 3000000≤n by omega)
 obtain ⟨c,h3,h4⟩:=z0y hp (show p.length<n by omega)
 have hex:=ex_n (show 200≤n by omega)
 simp only [q5f,h1,h3,hex,q0o]
 cases b with
 | false=>simp [q0o]
 | true =>
  cases c with
  | false=>simp [q0o]
  | true =>
   have hv:=h2 rfl
   have a1:=z2w hv.g hv.s (by omega) hv.root hp (show p.length<n by omega) (show 12<n by omega)
   have a2:=qpp hv.g hv.s (by omega) hv.root hp (show p.length<n by omega) (show 12<n by omega)
   have a3:=get_ok hv.g hv.s (by omega) hv.root hp (show p.length<n by omega) (show 2*12+4≤n by omega)
   have a4:=qyi hv.g hv.s (by omega) hv.root hp (show p.length<n by omega) (show 2*12+4≤n by omega)
   have a5:=z4a hv.g hv.s (by omega) hv.root hp (show p.length<n by omega) (show 12<n by omega)
   have a6:=qvs hv.g hv.s (by omega) hv.root hp (show p.length<n by omega) (show 12<n by omega)
   have hs:=qve hv.g hv.s (by omega) hv.root p
   have a7:=qug hs hs (show 3000000≤n by omega)
   simp [a1,a2,a3,a4,a5,a6,a7,q0o,z1o.self]
end Go.Proofs
end
