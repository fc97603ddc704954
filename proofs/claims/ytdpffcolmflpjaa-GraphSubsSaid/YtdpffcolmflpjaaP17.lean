/-
  Texts of the walk: PlA H5 MpA H6 H7 H8 H9 H11 H12.
-/
import Derived.Test.YtdpffcolmflpjaaP16
section
namespace Go.Proofs
open Go Go.Rx Go.Vx Go.Shelf Go.Sort
set_option linter.unusedVariables false
theorem q0h {α β:Type} (a:α) (k:α→Option β):bindO (some a) k=k a:=rfl
theorem wr {z:Int} (h1 : -9223372036854775808≤z) (h2:z≤9223372036854775807):IntKind.i64.wrap z=z:=qb4 (by omega) (by omega)
theorem wr1 {i len:Nat} (h:i<len) (hl:len≤9223372036854775807):IntKind.i64.wrap ((i:Int)+1)=((i+1:Nat):Int):=by rw [wr (by omega) (by omega)]; simp
theorem wrn {z:Int} {k:Nat} (h:z=k) (h2:k≤9223372036854775807):IntKind.i64.wrap z=(k:Int):=by subst h; exact wr (by omega) (by omega)
theorem q4w {α:Type} {l:List α} {i:Nat} (h:i<l.length):∃ x,l[i]? = some x∧x∈l:=⟨l[i],by simp [h],by simp⟩
theorem q5a {α:Type} {l:List α} {i:Nat} {x:α} (h:l[i]? = some x):l.take (i+1)=l.take i++[x]:=by rw [List.take_add_one,h]; rfl
theorem drop_cons' {α:Type} {l:List α} {i:Nat} {x:α} (h:l[i]? = some x):l.drop i=x::l.drop (i+1):=by
 have hlt:i<l.length:=(List.getElem?_eq_some_iff.1 h).1
 rw [List.drop_eq_getElem_cons hlt]
 congr 1
 rw [List.getElem?_eq_getElem hlt] at h
 exact Option.some.inj h
theorem dlt {i n:Nat} (h:i<n):decide ((i:Int)<(n:Int))=true:=by simp; omega
theorem dnlt {i n:Nat} (h:¬ i<n):decide ((i:Int)<(n:Int))=false:=by simp; omega
theorem drop_nil' {α:Type} {l:List α} {i:Nat} (h:¬ i<l.length):l.drop i=[]:=List.drop_eq_nil_of_le (by omega)
structure Cmp {α:Type} (c:α→α→Int):Prop where
 val:∀ x y,c x y = -1∨c x y=0∨c x y=1
 anti:∀ x y,c y x = - c x y
 trans:∀ x y z,c x y≤0→c y z≤0→c x z≤0
theorem Cmp.self {α:Type} {c:α→α→Int} (h:Cmp c) (x:α):c x x=0:=by have:=h.anti x x; omega
theorem Cmp.congr {α:Type} {c:α→α→Int} (h:Cmp c) {x y:α} (hxy:c x y=0) (z:α):c x z=c y z:=by
 have h1:=h.val x z
 have h2:=h.val y z
 have a1:=h.anti x y
 have a2:=h.anti x z
 have a3:=h.anti y z
 have t1:=h.trans x y z
 have t2:=h.trans y x z
 have t3:=h.trans z x y
 have t4:=h.trans z y x
 omega
theorem Cmp.congr' {α:Type} {c:α→α→Int} (h:Cmp c) {x y:α} (hxy:c x y=0) (z:α):c z x=c z y:=by
 have h1:=h.congr hxy z
 have a2:=h.anti x z
 have a3:=h.anti y z
 omega
theorem Cmp.lt_of {α:Type} {c:α→α→Int} (h:Cmp c) {x y z:α} (h1:c x y<0) (h2:c y z≤0):c x z<0:=by
 have t1:=h.trans x y z (by omega) h2
 rcases Int.lt_or_eq_of_le t1 with h3 | h3
 ·exact h3
 ·have:=h.congr h3 y
  have a3:=h.anti y z
  omega
def lexC {α:Type} (c d:α→α→Int) (x y:α):Int:=if c x y≠0 then c x y else d x y
theorem Cmp.lex {α:Type} {c d:α→α→Int} (hc:Cmp c) (hd:Cmp d):Cmp (lexC c d) where
 val x y:=by unfold lexC; split; exact hc.val x y; exact hd.val x y
 anti x y:=by
  unfold lexC
  have a1:=hc.anti x y
  have a2:=hd.anti x y
  by_cases h:c x y=0
  ·have:c y x=0:=by omega
   simp [h,this,a2]
  ·have:¬ c y x=0:=by omega
   simp [h,this,a1]
 trans x y z h1 h2:=by
  unfold lexC at *
  by_cases h:c x y=0
  ·have e:=hc.congr h z
   simp only [h,ne_eq,not_true,if_false] at h1
   rw [e]
   by_cases h':c y z=0
   ·simp only [h',ne_eq,not_true,if_false] at h2 ⊢
    exact hd.trans x y z h1 h2
   ·simp only [h',ne_eq,not_false_eq_true,if_true] at h2 ⊢
    exact h2
  ·simp only [h,ne_eq,not_false_eq_true,if_true] at h1
   have h1':c x y<0:=by omega
   by_cases h':c y z=0
   ·have e:=hc.congr' h' x
    rw [← e]
    simp only [h,ne_eq,not_false_eq_true,if_true]
    exact h1
   ·simp only [h',ne_eq,not_false_eq_true,if_true] at h2
    have:=hc.lt_of h1' h2
    have hne:¬ c x z=0:=by omega
    simp only [hne,ne_eq,not_false_eq_true,if_true]
    omega
theorem qbl {α:Type} {c d:α→α→Int} {x y:α}:lexC c d x y=0↔c x y=0∧d x y=0:=by
 unfold lexC
 by_cases h:c x y=0<;>simp [h]
theorem Cmp.pull {α β:Type} {c:α→α→Int} (h:Cmp c) (f:β→α):Cmp (fun x y=>c (f x) (f y)):=⟨fun x y=>h.val _ _,fun x y=>h.anti _ _,fun x y z=>h.trans _ _ _⟩
def cmpI (a b:Int):Int:=if a<b then -1 else if b<a then 1 else 0
theorem q6v {a b : Int} : cmpI a b = 0 ↔ a = b := by unfold cmpI; split; · omega
                                                     split <;> omega
theorem q9v : Cmp cmpI where
  val x y := by unfold cmpI; split; · simp
                split <;> simp
  anti x y := by unfold cmpI; split <;> split <;> (try split) <;> omega
  trans x y z := by
    unfold cmpI
    intro h1 h2
    split at h1 <;> split at h2 <;> (try split at h1) <;> (try split at h2) <;> (try split) <;> (try split) <;> omega
theorem ltOf_iff {α:Type} (c:α→α→Int) (x y:α):ltOf c x y=true↔c x y<0:=by simp [ltOf]
theorem Cmp.swo {α:Type} {c:α→α→Int} (h:Cmp c):SWO (ltOf c) where
 irrefl x:=by have:=h.self x; simp [ltOf,this]
 trans x y z h1 h2:=by rw [ltOf_iff] at *; exact h.lt_of h1 (by omega)
 ntrans x y z h1 h2:=by
  have e:∀ a b,ltOf c a b=false↔c b a≤0:=fun a b=>by have:=h.anti a b; simp [ltOf]; omega
  rw [e] at *
  exact h.trans z y x h2 h1
section
variable {α:Type} {c:α→α→Int}
theorem srt_le (hc:Cmp c) (l:List α):(srt (ltOf c) l).Pairwise (fun x y=>c x y≤0):=by
 have:=srt_asc hc.swo l
 refine List.Pairwise.imp ?_ this
 intro x y h
 have:=hc.anti x y
 simp [ltOf] at h
 omega
end
end Go.Proofs
end
section
namespace Go.Proofs
open Go Go.Rx Go.Vx Go.Shelf Go.Sort
set_option linter.unusedVariables false
set_option linter.unusedSimpArgs false
set_option maxRecDepth 10000
theorem ex_ok (m:Nat):q29 (m+60)=some true:=by kernel_rfl
theorem ex_n {n:Nat} (h:60≤n):q29 n=some true:=by
 have:=ex_ok (n - 60)
 rwa [Nat.sub_add_cancel h] at this
theorem cmpInt_eq (n:Nat) (a b:Int):q1q n a b=some (cmpI a b):=by
 have e1:(a != a)=false:=by simp
 have e2:(b != b)=false:=by simp
 simp only [q1q,q49,q0h,e1,e2,cond_false,cmpI]
 by_cases h1:a<b
 ·simp [h1]
 ·by_cases h2:b<a<;>simp [h1,h2]
def lexL {α:Type} (c:α→α→Int):List α→List α→Int
 | [],[]=>0
 | [],_::_=>-1
 | _::_,[]=>1
 | x::xs,y::ys=>if c x y≠0 then c x y else lexL c xs ys
theorem Cmp.list {α:Type} {c:α→α→Int} (h:Cmp c):Cmp (lexL c) where
 val:=by
  intro x
  induction x with
  | nil=>intro y; cases y<;>simp [lexL]
  | cons a x ih =>
   intro y
   cases y with
   | nil=>simp [lexL]
   | cons b y=>simp only [lexL]; split; exact h.val a b; exact ih y
 anti:=by
  intro x
  induction x with
  | nil=>intro y; cases y<;>simp [lexL]
  | cons a x ih =>
   intro y
   cases y with
   | nil=>simp [lexL]
   | cons b y =>
    simp only [lexL]
    have a1:=h.anti a b
    have a2:=ih y
    by_cases e:c a b=0
    ·have:c b a=0:=by omega
     simp [e,this,a2]
    ·have:¬ c b a=0:=by omega
     simp [e,this,a1]
 trans:=by
  intro x
  induction x with
  | nil =>
   intro y z h1 h2
   cases z<;>simp [lexL]
  | cons a x ih =>
   intro y z h1 h2
   cases y with
   | nil=>simp [lexL] at h1
   | cons b y =>
    cases z with
    | nil=>simp [lexL] at h2
    | cons d z =>
     simp only [lexL] at *
     by_cases e:c a b=0
     ·have e2:=h.congr e d
      simp only [e,ne_eq,not_true,if_false] at h1
      rw [e2]
      by_cases e3:c b d=0
      ·simp only [e3,ne_eq,not_true,if_false] at h2 ⊢
       exact ih y z h1 h2
      ·simp only [e3,ne_eq,not_false_eq_true,if_true] at h2 ⊢
       exact h2
     ·simp only [e,ne_eq,not_false_eq_true,if_true] at h1
      have h1':c a b<0:=by omega
      by_cases e3:c b d=0
      ·have e4:=h.congr' e3 a
       rw [← e4]
       simp only [e,ne_eq,not_false_eq_true,if_true]
       exact h1
      ·simp only [e3,ne_eq,not_false_eq_true,if_true] at h2
       have:=h.lt_of h1' h2
       have hne:¬ c a d=0:=by omega
       simp only [hne,ne_eq,not_false_eq_true,if_true]
       omega
theorem qbm {α:Type} {c:α→α→Int}:∀ {xs ys:List α},(∀ x∈xs,∀ y,c x y=0→x=y)→lexL c xs ys=0→xs=ys
 | [],[],_,_=>rfl
 | [],_::_,_,h=>by simp [lexL] at h
 | _::_,[],_,h=>by simp [lexL] at h
 | x::xs,y::ys,hc,h=>by
  simp only [lexL] at h
  by_cases e:c x y=0
  ·simp only [e,ne_eq,not_true,if_false] at h
   rw [hc x (by simp) y e,qbm (fun a ha=>hc a (by simp [ha])) h]
  ·simp [e] at h
def ccA:GArc→GArc→Int:=lexC (fun x y=>cmpI x.Feat y.Feat) (fun x y=>cmpI x.To y.To)
theorem ccA_ok:Cmp ccA:=(q9v.pull _).lex (q9v.pull _)
theorem ccA_zero {x y:GArc} (h:ccA x y=0):x=y:=by
 simp only [ccA,qbl,q6v] at h
 cases x; cases y; simp only at h; obtain ⟨rfl,rfl⟩:=h; rfl
def ccN:GNode→GNode→Int:=lexC (lexC (fun x y=>cmpI x.Typex y.Typex) (fun x y=>cmpI x.Arcs.length y.Arcs.length)) (fun x y=>lexL ccA x.Arcs y.Arcs)
theorem ccN_ok:Cmp ccN:=((q9v.pull _).lex (q9v.pull (fun x:GNode=>(x.Arcs.length:Int)))).lex (ccA_ok.list.pull _)
theorem ccN_zero {x y:GNode} (h:ccN x y=0):x=y:=by
 simp only [ccN,qbl,q6v] at h
 have:=qbm (fun a _ b h=>ccA_zero h) h.2
 cases x; cases y; simp only at h this; obtain ⟨⟨rfl,_⟩,_⟩:=h; subst this; rfl
def ccG:GFS→GFS→Int:=lexC (fun x y=>cmpI x.Nodes.length y.Nodes.length) (fun x y=>lexL ccN x.Nodes y.Nodes)
theorem ccG_ok:Cmp ccG:=(q9v.pull (fun x:GFS=>(x.Nodes.length:Int))).lex (ccN_ok.list.pull _)
theorem ccG_zero {x y:GFS}:ccG x y=0↔x=y:=⟨fun h=>by
 simp only [ccG,qbl,q6v] at h
 have:=qbm (fun a _ b h=>ccN_zero h) h.2
 cases x; cases y; simp only at this; subst this; rfl,fun h=>by subst h; exact ccG_ok.self x⟩
structure Small (f:GFS) (k:Nat):Prop where
 nodes:f.Nodes.length≤k
 arcs:∀ x∈f.Nodes,x.Arcs.length≤k
def arcN (l:List GArc):List Int:=l.flatMap fun a=>[a.Feat,a.To]
def nodeN (x:GNode):List Int:=[x.Typex,(x.Arcs.length:Int)]++arcN x.Arcs
def numN (f:GFS):List Int:=(f.Nodes.length:Int)::f.Nodes.flatMap nodeN
theorem arcN_len:∀ l:List GArc,(arcN l).length=2*l.length
 | []=>rfl
 | a::l=>by have:=arcN_len l; simp only [arcN,List.flatMap_cons,List.length_append,List.length_cons,List.length_nil] at *; omega
theorem nums_L2 {x:GNode} {i:Int} {rc:Int→List Int→Option (List Int)} (hx:x.Arcs.length≤1000000):∀ (m k:Nat) (acc:List Int),x.Arcs.length - k<m→k≤x.Arcs.length→acc.length+2*(x.Arcs.length - k)≤1000000000 →
  q3a i rc x m k acc=rc (IntKind.i64.wrap (i+1)) (acc++arcN (x.Arcs.drop k))
 | 0,k,acc,hm,_,_=>by omega
 | m+1,k,acc,hm,hk,ha=>by
  unfold q3a
  by_cases hlt:k<x.Arcs.length
  ·obtain ⟨a,h1,_⟩:=q4w hlt
   have hn:(acc.length+2)*8≤140737488355328∧acc.length+2≤140737488355328:=by omega
   simp only [dlt hlt,cond_true,q2t,h1,q0h,needO,hn,and_self,if_true,wr1 hlt (show x.Arcs.length≤9223372036854775807 by omega)]
   rw [nums_L2 hx m (k+1) _ (by omega) (by omega) (by simp only [List.length_append,List.length_cons,List.length_nil]; omega),drop_cons' h1]
   simp [arcN]
  ·simp only [dnlt hlt,cond_false,q4p,drop_nil' hlt,arcN,List.flatMap_nil,List.append_nil]
theorem nums_L1 {f:GFS} {n:Nat} (hf:Small f 1000) (hn:1001≤n):∀ (m i:Nat) (acc:List Int),f.Nodes.length - i<m→i≤f.Nodes.length→acc.length+2002*(f.Nodes.length - i)≤900000000 →
  q23 f n m i acc=some (acc++(f.Nodes.drop i).flatMap nodeN)
 | 0,i,acc,hm,_,_=>by omega
 | m+1,i,acc,hm,hi,ha=>by
  unfold q23
  have hl:=hf.nodes
  by_cases hlt:i<f.Nodes.length
  ·obtain ⟨x,hx,hxm⟩:=q4w hlt
   have h2:=hf.arcs x hxm
   have hn:(acc.length+2)*8≤140737488355328∧acc.length+2≤140737488355328:=by omega
   have h0:=nums_L2 (i:=(i:Int)) (rc:=q23 f n m) (x:=x) (by omega) n 0 (acc++[x.Typex,(x.Arcs.length:Int)]) (by omega) (by omega) (by simp only [List.length_append,List.length_cons,List.length_nil]; omega)
   rw [Int.ofNat_zero,List.drop_zero] at h0
   simp only [dlt hlt,cond_true,q2t,hx,q0h,needO,hn,and_self,if_true,h0,wr1 hlt (show f.Nodes.length≤9223372036854775807 by omega)]
   rw [nums_L1 hf (by omega) m (i+1) _ (by omega) (by omega) (by simp only [List.length_append,List.length_cons,List.length_nil,arcN_len]; omega),drop_cons' hx]
   simp [nodeN]
  ·simp only [dnlt hlt,cond_false,q4o,drop_nil' hlt,List.flatMap_nil,List.append_nil]
theorem nums_ok {f:GFS} {n:Nat} (hf:Small f 1000) (hn:1001≤n):q4g n f=some (numN f):=by
 have hl:=hf.nodes
 have:=nums_L1 hf hn n 0 [(f.Nodes.length:Int)] (by omega) (by omega) (by simp only [List.length_cons,List.length_nil]; omega)
 rw [Int.ofNat_zero,List.drop_zero] at this
 simp only [q4g,this,numN,List.singleton_append]
def lexM:List Int→List Int→Int
 | x::xs,y::ys=>if cmpI x y≠0 then cmpI x y else lexM xs ys
 | _,_=>0
theorem refCmp_L {l m:List Int} (hl:l.length≤1000000000):∀ (n i:Nat),l.length - i<n→i≤l.length→q39 l m n i=some (lexM (l.drop i) (m.drop i))
 | 0,i,hn,_=>by omega
 | n+1,i,hn,hi=>by
  unfold q39
  by_cases h1:i<l.length
  ·obtain ⟨x,hx,_⟩:=q4w h1
   by_cases h2:i<m.length
   ·obtain ⟨y,hy,_⟩:=q4w h2
    simp only [dlt h1,dlt h2,cond_true,q0h,q2t,hx,hy,wr1 h1 (show l.length≤9223372036854775807 by omega),drop_cons' hx,drop_cons' hy,lexM,cmpI]
    by_cases h3:x<y
    ·simp [h3]
    ·by_cases h4:y<x
     ·simp [h3,h4]
     ·simp only [h3,h4,decide_false,cond_false,if_false,ne_eq,not_true,gt_iff_lt]
      exact refCmp_L hl n (i+1) (by omega) (by omega)
   ·simp only [dlt h1,dnlt h2,cond_true,cond_false,q0h,q3u,drop_cons' hx,drop_nil' h2,lexM]
  ·simp only [dnlt h1,cond_false,q0h,q3u,drop_nil' h1,lexM]
theorem numN_len {f:GFS} {k:Nat} (hf:Small f k):(numN f).length≤1+f.Nodes.length*(2+2*k):=by
 have:∀ l:List GNode,(∀ x∈l,x.Arcs.length≤k)→(l.flatMap nodeN).length≤l.length*(2+2*k):=by
  intro l
  induction l with
  | nil=>intro _; simp
  | cons x l ih =>
   intro h
   have h1:=ih fun y hy=>h y (List.mem_cons_of_mem _ hy)
   have h2:=h x (by simp)
   have h3:(l.length+1)*(2+2*k)=l.length*(2+2*k)+(2+2*k):=by rw [Nat.add_mul,Nat.one_mul]
   simp only [List.flatMap_cons,List.length_append,nodeN,List.length_cons,List.length_nil,arcN_len]
   rw [h3]
   omega
 have:=this f.Nodes hf.arcs
 simp only [numN,List.length_cons]
 omega
theorem refCmp_ok {f g:GFS} {n:Nat} (hf:Small f 1000) (hg:Small g 1000) (hn:3000000≤n):q4c n f g=some (lexM (numN f) (numN g)):=by
 have h1:=numN_len hf
 have h2:=hf.nodes
 have h3:f.Nodes.length*(2+2*1000)≤1000*(2+2*1000):=Nat.mul_le_mul_right _ h2
 have:=refCmp_L (l:=numN f) (m:=numN g) (by omega) n 0 (by omega) (by omega)
 rw [Int.ofNat_zero,List.drop_zero,List.drop_zero] at this
 simp only [q4c,nums_ok hf (show 1001≤n by omega),nums_ok hg (show 1001≤n by omega),q0h,this]
theorem lexM_arcs {c d:List Int}:∀ {xs ys:List GArc},xs.length=ys.length→lexM (arcN xs++c) (arcN ys++d)=if lexL ccA xs ys≠0 then lexL ccA xs ys else lexM c d
 | [],[],_=>by simp [arcN,lexL]
 | [],_::_,h=>by simp at h
 | _::_,[],h=>by simp at h
 | x::xs,y::ys,h=>by
  simp only [List.length_cons,Nat.add_right_cancel_iff] at h
  have ih:=lexM_arcs (c:=c) (d:=d) h
  simp only [arcN,List.flatMap_cons,List.cons_append,List.nil_append,lexM,lexL] at ih ⊢
  rw [ih]
  unfold ccA lexC
  by_cases e:cmpI x.Feat y.Feat=0
  ·by_cases e2:cmpI x.To y.To=0<;>simp [e,e2]
  ·simp [e]
theorem lexM_nodes {c d:List Int}:∀ {xs ys:List GNode},xs.length=ys.length→lexM (xs.flatMap nodeN++c) (ys.flatMap nodeN++d)=if lexL ccN xs ys≠0 then lexL ccN xs ys else lexM c d
 | [],[],_=>by simp [lexL]
 | [],_::_,h=>by simp at h
 | _::_,[],h=>by simp at h
 | x::xs,y::ys,h=>by
  simp only [List.length_cons,Nat.add_right_cancel_iff] at h
  have ih:=lexM_nodes (c:=c) (d:=d) h
  simp only [List.flatMap_cons,nodeN,List.append_assoc,List.cons_append,List.nil_append,lexM,lexL]
  have hN:ccN x y=(if (if cmpI x.Typex y.Typex≠0 then cmpI x.Typex y.Typex else cmpI (x.Arcs.length:Int) y.Arcs.length)≠0 then (if cmpI x.Typex y.Typex≠0 then cmpI x.Typex y.Typex else cmpI (x.Arcs.length:Int) y.Arcs.length) else lexL ccA x.Arcs y.Arcs):=rfl
  simp only [hN]
  by_cases e:cmpI x.Typex y.Typex=0
  ·by_cases e2:cmpI (x.Arcs.length:Int) y.Arcs.length=0
   ·have hl:x.Arcs.length=y.Arcs.length:=by have:=q6v.1 e2; omega
    simp only [e,e2,ne_eq,not_true,if_false]
    rw [lexM_arcs hl,ih]
    by_cases e3:lexL ccA x.Arcs y.Arcs=0<;>simp [e3]
   ·simp [e,e2]
  ·simp [e]
theorem both_eq (f g:GFS):lexM (numN f) (numN g)=ccG f g:=by
 simp only [numN,lexM,ccG]
 unfold lexC
 by_cases e:cmpI (f.Nodes.length:Int) g.Nodes.length=0
 ·have hl:f.Nodes.length=g.Nodes.length:=by have:=q6v.1 e; omega
  have:=lexM_nodes (c:=[]) (d:=[]) hl
  simp only [List.append_nil,lexM] at this
  simp only [e,ne_eq,not_true,if_false,this]
  by_cases e2:lexL ccN f.Nodes g.Nodes=0<;>simp [e2]
 ·simp [e]
theorem refEq_ok {f g:GFS} {n:Nat} (hf:Small f 1000) (hg:Small g 1000) (hn:3000000≤n):q32 n f g=some (ccG f g == 0):=by
 simp only [q32,refCmp_ok hf hg hn,q0h,both_eq]
theorem light_L1 {f:GFS} (hl:f.Nodes.length≤12):∀ (m i:Nat),f.Nodes.length - i<m→i≤f.Nodes.length→∃ b,q3x f m i=some b∧(b=true→∀ x∈f.Nodes.drop i,x.Arcs.length≤12)
 | 0,i,hm,_=>by omega
 | m+1,i,hm,hi=>by
  unfold q3x
  by_cases hlt:i<f.Nodes.length
  ·obtain ⟨x,hx,_⟩:=q4w hlt
   simp only [dlt hlt,cond_true,q2t,hx,q0h,wr1 hlt (show f.Nodes.length≤9223372036854775807 by omega)]
   by_cases h:(x.Arcs.length:Int) > 12
   ·simp only [h,decide_true,cond_true]; exact ⟨false,rfl,fun h=>by cases h⟩
   ·simp only [h,decide_false,cond_false]
    obtain ⟨b,h1,h2⟩:=light_L1 hl m (i+1) (by omega) (by omega)
    refine ⟨b,h1,fun hb=>?_⟩
    rw [drop_cons' hx]
    intro y hy
    rcases List.mem_cons.1 hy with rfl | hy
    ·omega
    ·exact h2 hb y hy
  ·simp only [dnlt hlt,cond_false,q5p,drop_nil' hlt]
   exact ⟨true,rfl,fun _ x hx=>by cases hx⟩
theorem light_ok (f:GFS) {n:Nat} (hn:20≤n):∃ b,q5j n f=some b∧(b=true→Small f 12):=by
 unfold q5j
 by_cases h:(f.Nodes.length:Int) > 12
 ·simp only [h,decide_true,cond_true]; exact ⟨false,rfl,fun h=>by cases h⟩
 ·simp only [h,decide_false,cond_false]
  obtain ⟨b,h1,h2⟩:=light_L1 (f:=f) (by omega) n 0 (by omega) (by omega)
  rw [Int.ofNat_zero] at h1
  rw [List.drop_zero] at h2
  exact ⟨b,h1,fun hb=>⟨by omega,h2 hb⟩⟩
theorem Small.up {f:GFS} {k k':Nat} (h:Small f k) (hk:k≤k'):Small f k':=⟨by have:=h.nodes; omega,fun x hx=>by have:=h.arcs x hx; omega⟩
end Go.Proofs
end
section
namespace Go.Vx
open Go Go.Rx
set_option linter.unusedVariables false
section
variable {K V:Type} [DecidableEq K]
def aget (k:K):List (K×V×Nat)→Option V
 | []=>none
 | e::es=>if k=e.1 then some e.2.1 else aget k es
variable {eq:K→K→Bool} (he:∀ a b,eq a b=true↔a=b)
include he
omit [DecidableEq K] in
theorem eq_f {a b:K} (h:¬ a=b):eq a b=false:=by
 cases h':eq a b with
 | false=>rfl
 | true=>exact absurd ((he a b).1 h') h
theorem qap (k:K):∀ (es:List (K×V×Nat)) (i:Nat),(mFindL eq k es i).map (fun x=>x.2.1)=aget k es
 | [],i=>rfl
 | e::es,i=>by
  simp only [mFindL,aget]
  by_cases h:k=e.1
  ·rw [(he k e.1).2 h,if_pos h]; rfl
  ·rw [eq_f he h,if_neg h]; exact qap k es (i+1)
theorem mGet_get (m:MapL K V) (k:K):mGet eq m k=aget k m.es:=qap he k m.es 0
theorem get_set (k:K) (v:V):∀ {es:List (K×V×Nat)} {i j:Nat} {q:V×Nat},mFindL eq k es i=some (j,q)→i≤j∧∀ x,aget x (mSetL v es (j - i))=if x=k then some v else aget x es
 | [],i,j,q,h=>by cases h
 | e::es,i,j,q,h=>by
  simp only [mFindL] at h
  by_cases hk:k=e.1
  ·rw [(he k e.1).2 hk] at h
   simp only [cond_true,Option.some.injEq,Prod.mk.injEq] at h
   obtain ⟨rfl,_⟩:=h
   refine ⟨Nat.le_refl _,fun x=>?_⟩
   simp only [Nat.sub_self,mSetL,aget,hk]
   split<;>rfl
  ·rw [eq_f he hk] at h
   simp only [cond_false] at h
   obtain ⟨h1,h2⟩:=get_set k v h
   refine ⟨by omega,fun x=>?_⟩
   rw [show j - i=(j - (i+1))+1 by omega]
   simp only [mSetL,aget,h2]
   by_cases hx:x=e.1
   ·have:¬ x=k:=fun h=>hk (h ▸ hx)
    simp [hx]
    intro h; exact absurd h.symm hk
   ·simp [hx]
omit he [DecidableEq K] in
theorem set_keys (v:V):∀ (es:List (K×V×Nat)) (i:Nat),(mSetL v es i).map (fun e=>e.1)=es.map (fun e=>e.1)∧(mSetL v es i).map (fun e=>e.2.2)=es.map (fun e=>e.2.2)
 | [],i=>by simp [mSetL]
 | e::es,0=>by simp [mSetL]
 | e::es,i+1=>by simp [mSetL,set_keys v es i]
omit he in
theorem get_none {k:K}:∀ {es:List (K×V×Nat)},k ∉ es.map (fun e=>e.1)→aget k es=none
 | [],_=>rfl
 | e::es,h=>by
  simp only [List.map_cons,List.mem_cons,not_or] at h
  simp only [aget,h.1,if_false]
  exact get_none h.2
theorem get_del (k:K):∀ {es:List (K×V×Nat)} {i j:Nat} {q:V×Nat},(es.map (fun e=>e.1)).Nodup→mFindL eq k es i=some (j,q)→i≤j∧∀ x,aget x (mDelL es (j - i))=if x=k then none else aget x es
 | [],i,j,q,_,h=>by cases h
 | e::es,i,j,q,hn,h=>by
  simp only [mFindL] at h
  simp only [List.map_cons,List.nodup_cons] at hn
  by_cases hk:k=e.1
  ·rw [(he k e.1).2 hk] at h
   simp only [cond_true,Option.some.injEq,Prod.mk.injEq] at h
   obtain ⟨rfl,_⟩:=h
   refine ⟨Nat.le_refl _,fun x=>?_⟩
   simp only [Nat.sub_self,mDelL,aget]
   by_cases hx:x=k
   ·rw [if_pos hx,hx,hk]; exact get_none hn.1
   ·have:¬ x=e.1:=fun h=>hx (h.trans hk.symm)
    simp [hx,this]
  ·rw [eq_f he hk] at h
   simp only [cond_false] at h
   obtain ⟨h1,h2⟩:=get_del k hn.2 h
   refine ⟨by omega,fun x=>?_⟩
   rw [show j - i=(j - (i+1))+1 by omega]
   simp only [mDelL,aget,h2]
   by_cases hx:x=e.1
   ·have:¬ x=k:=fun h=>hk (h ▸ hx)
    simp [hx]
    intro h; exact absurd h.symm hk
   ·simp [hx]
omit he [DecidableEq K] in
theorem del_sub:∀ (es:List (K×V×Nat)) (i:Nat),(mDelL es i).Sublist es
 | [],i=>by simp [mDelL]
 | e::es,0=>by simp [mDelL]
 | e::es,i+1=>by simp [mDelL,del_sub es i]
omit he in
theorem get_app (x k:K) (v:V) (b:Nat):∀ es:List (K×V×Nat),aget x (es++[(k,v,b)])=if aget x es=none then (if x=k then some v else none) else aget x es
 | []=>by simp [aget]
 | e::es=>by
  simp only [List.cons_append,aget]
  by_cases hx:x=e.1
  ·simp [hx]
  ·simp only [hx,if_false]; exact get_app x k v b es
structure MInv (m:MapL K V):Prop where
 keys:(m.es.map (fun e=>e.1)).Nodup
 borns:(m.es.map (fun e=>e.2.2)).Nodup
 lt:∀ e∈m.es,e.2.2<m.cl
omit he in
theorem MInv.app {m:MapL K V} (h:MInv m) {k:K} (hf:aget k m.es=none) (v:V):MInv (⟨m.es++[(k,v,m.cl)],m.cl+1⟩:MapL K V):=by
 refine ⟨?_,?_,?_⟩
 ·simp only [List.map_append,List.map_cons,List.map_nil]
  rw [List.nodup_append]
  refine ⟨h.keys,by simp,?_⟩
  intro a ha b hb hab
  simp only [List.mem_singleton] at hb
  subst hab hb
  clear h
  generalize m.es=es at *
  induction es with
  | nil=>simp at ha
  | cons e es ih =>
   simp only [aget] at hf
   by_cases hx:a=e.1
   ·simp [hx] at hf
   ·simp only [hx,if_false] at hf
    simp only [List.map_cons,List.mem_cons,hx,false_or] at ha
    exact ih ha hf
 ·simp only [List.map_append,List.map_cons,List.map_nil]
  rw [List.nodup_append]
  refine ⟨h.borns,by simp,?_⟩
  intro a ha b hb hab
  simp only [List.mem_singleton] at hb
  obtain ⟨e,he,rfl⟩:=List.mem_map.1 ha
  have:=h.lt e he
  omega
 ·intro e he
  rcases List.mem_append.1 he with he | he
  ·have:=h.lt e he; simp only; omega
  ·simp only [List.mem_singleton] at he; subst he; simp
omit he [DecidableEq K] in
theorem MInv.set {m:MapL K V} (h:MInv m) (v:V) (i:Nat):MInv (⟨mSetL v m.es i,m.cl⟩:MapL K V):=by
 obtain ⟨h1,h2⟩:=set_keys v m.es i
 refine ⟨by simp only [h1]; exact h.keys,by simp only [h2]; exact h.borns,fun e he=>?_⟩
 have:e.2.2∈(mSetL v m.es i).map (fun e=>e.2.2):=List.mem_map.2 ⟨e,he,rfl⟩
 rw [h2] at this
 obtain ⟨e',g1,g2⟩:=List.mem_map.1 this
 have:=h.lt e' g1
 simp only at g2 ⊢
 omega
theorem upd_ok {m:MapL K V} (h:MInv m) (k:K) (v:V):MInv (mUpd eq m k v)∧∀ x,aget x (mUpd eq m k v).es=if x=k then some v else aget x m.es:=by
 unfold mUpd
 cases hf:mFindL eq k m.es 0 with
 | none =>
  have hg:aget k m.es=none:=by rw [← qap he k m.es 0,hf]; rfl
  refine ⟨h.app hg v,fun x=>?_⟩
  simp only [get_app]
  by_cases hx:x=k
  ·simp [hx,hg]
  ·simp only [hx,if_false]; split<;>simp_all
 | some q =>
  obtain ⟨j,q⟩:=q
  have:=(get_set he k v hf).2
  exact ⟨h.set v j,fun x=>by simpa using this x⟩
theorem del_ok {m:MapL K V} (h:MInv m) (k:K):MInv (mDel eq m k)∧∀ x,aget x (mDel eq m k).es=if x=k then none else aget x m.es:=by
 unfold mDel
 cases hf:mFindL eq k m.es 0 with
 | none =>
  have hg:aget k m.es=none:=by rw [← qap he k m.es 0,hf]; rfl
  refine ⟨h,fun x=>?_⟩
  by_cases hx:x=k
  ·simp [hx,hg]
  ·simp [hx]
 | some q =>
  obtain ⟨j,q⟩:=q
  have:=(get_del he k h.keys hf).2
  have hs:=del_sub m.es j
  exact ⟨⟨(hs.map _).nodup h.keys,(hs.map _).nodup h.borns,fun e he=>h.lt e (hs.subset he)⟩,fun x=>by simpa using this x⟩
end
end Go.Vx
end
section
namespace Go.Proofs
open Go Go.Rx Go.Vx Go.Shelf Go.Sort
set_option linter.unusedVariables false
set_option linter.unusedSimpArgs false
set_option maxRecDepth 10000
theorem insB_congr {α:Type} {lt lt':α→α→Bool} (x:α):∀ {l:List α},(∀ y∈l,lt y x=lt' y x)→insB lt x l=insB lt' x l
 | [],_=>rfl
 | y::l,h=>by
  have ih:=insB_congr (lt:=lt) (lt':=lt') x (l:=l) fun z hz=>h z (List.mem_cons_of_mem _ hz)
  simp only [insB,h y (by simp),ih]
theorem srt_congr {α:Type} {lt lt':α→α→Bool}:∀ {l:List α},(∀ x∈l,∀ y∈l,lt x y=lt' x y)→srt lt l=srt lt' l
 | [],_=>rfl
 | x::l,h=>by
  simp only [srt]
  rw [srt_congr fun a ha b hb=>h a (by simp [ha]) b (by simp [hb])]
  exact insB_congr x fun y hy=>h y (by simp [(q8d lt' l).mem_iff.1 hy]) x (by simp)
theorem okSort_of {α:Type} {eq:α→α→Bool} (heq:∀ x,eq x x=true) {f:α→α→Option Int} {c:α→α→Int} (hc:Cmp c) {ds:List α} (hf:∀ x∈ds,∀ y∈ds,f x y=some (c x y)) (hz:∀ x∈ds,∀ y∈ds,c x y=0→x=y):okSort eq f ds=true:=by
 have hlt:∀ x∈ds,∀ y∈ds,fLt f x y=ltOf c x y:=fun x hx y hy=>by simp [fLt,hf x hx y hy,ltOf]
 have hs:=hc.swo
 unfold okSort
 rw [List.all_eq_true]
 intro x hx
 rw [Bool.and_eq_true,Bool.not_eq_true',List.all_eq_true]
 refine ⟨by rw [hlt x hx x hx]; exact hs.irrefl x,fun y hy=>?_⟩
 rw [Bool.and_eq_true,Bool.and_eq_true,List.all_eq_true]
 refine ⟨by rw [hf x hx y hy]; rfl,?_,fun z hzm=>?_⟩
 ·rw [hlt x hx y hy,hlt y hy x hx]
  cases h1:ltOf c x y with
  | true=>rfl
  | false =>
   cases h2:ltOf c y x with
   | true=>rfl
   | false =>
    have a:=hc.anti x y
    simp [ltOf] at h1 h2
    have:=hz x hx y hy (by omega)
    subst this
    simp [heq]
 ·rw [hlt x hx y hy,hlt y hy z hzm,hlt x hx z hzm]
  cases h1:ltOf c x y with
  | true =>
   cases h2:ltOf c y z with
   | true=>simp [hs.trans x y z h1 h2]
   | false=>simp
  | false =>
   cases h2:ltOf c y z with
   | true=>simp
   | false=>simp [hs.ntrans x y z h1 h2]
theorem sortO_of {α:Type} {eq:α→α→Bool} (heq:∀ x,eq x x=true) {f:α→α→Option Int} {c:α→α→Int} (hc:Cmp c) {ds:List α} (hl:ds.length≤1000000) (hf:∀ x∈ds,∀ y∈ds,f x y=some (c x y)) (hz:∀ x∈ds,∀ y∈ds,c x y=0→x=y):sortO eq f ds=some (srt (ltOf c) ds):=by
 unfold sortO
 have hb:Nat.ble ds.length 1000000=true:=by rw [Nat.ble_eq]; exact hl
 rw [okSort_of heq hc hf hz,hb]
 simp only [Bool.and_self,cond_true]
 have e:srt (fLt f) ds=srt (ltOf c) ds:=srt_congr fun x hx y hy=>by simp [fLt,hf x hx y hy,ltOf]
 rw [e]
def cF (a b:GArc):Int:=cmpI a.Feat b.Feat
theorem cF_ok:Cmp cF:=q9v.pull GArc.Feat
def srtA (l:List GArc):List GArc:=srt (ltOf cF) l
theorem q47 (l:List GArc):(srtA l).Perm l:=q8d _ l
def Dis (l:List GArc):Prop:=l.Pairwise (fun a b=>a.Feat≠b.Feat)
theorem Dis.perm {l m:List GArc} (h:l.Perm m) (hd:Dis l):Dis m:=(h.pairwise_iff (fun {a b} h=>Ne.symm h)).1 hd
theorem Dis.eq:∀ {l:List GArc},Dis l→∀ x∈l,∀ y∈l,x.Feat=y.Feat→x=y
 | [],_,x,hx,_,_,_=>by cases hx
 | a::l,h,x,hx,y,hy,e=>by
  obtain ⟨h1,h2⟩:=List.pairwise_cons.1 h
  rcases List.mem_cons.1 hx with e1 | hx'
  ·rcases List.mem_cons.1 hy with e2 | hy'
   ·rw [e1,e2]
   ·subst e1; exact absurd e (h1 y hy')
  ·rcases List.mem_cons.1 hy with e2 | hy'
   ·subst e2; exact absurd e.symm (h1 x hx')
   ·exact Dis.eq h2 x hx' y hy' e
def UpA (l:List GArc):Prop:=l.Pairwise (fun a b=>a.Feat<b.Feat)
theorem cF_le {a b:GArc}:cF a b≤0↔a.Feat≤b.Feat:=by
 unfold cF cmpI
 by_cases h1:a.Feat<b.Feat
 ·simp [h1]; omega
 ·by_cases h2:b.Feat<a.Feat
  ·simp [h1,h2]
  ·simp [h1,h2]; omega
theorem srtA_up {l:List GArc} (h:Dis l):UpA (srtA l):=by
 have h1:=srt_le cF_ok l
 have h2:Dis (srtA l):=h.perm (q47 l).symm
 refine (List.Pairwise.and h1 h2).imp fun {a b} h=>?_
 have:=cF_le.1 h.1
 have:=h.2
 omega
theorem upA_uniq:∀ {a b:List GArc},UpA a→UpA b→a.Perm b→a=b
 | [],b,_,_,h=>(List.nil_perm.1 h).symm
 | x::a,[],_,_,h=>by have:=h.length_eq; simp at this
 | x::a,y::b,ha,hb,h=>by
  obtain ⟨h1,h2⟩:=List.pairwise_cons.1 ha
  obtain ⟨h3,h4⟩:=List.pairwise_cons.1 hb
  have hxy:x=y:=by
   rcases List.mem_cons.1 (h.mem_iff.1 (List.mem_cons_self)) with hx | hx
   ·exact hx
   ·rcases List.mem_cons.1 (h.mem_iff.2 (List.mem_cons_self)) with hy | hy
    ·exact hy.symm
    ·have h5:=h1 y hy; have h6:=h3 x hx; omega
  subst hxy
  rw [upA_uniq h2 h4 (h.cons_inv)]
theorem srtA_of {l m:List GArc} (hd:Dis l) (h:m.Perm l) (hm:UpA m):srtA l=m:=upA_uniq (srtA_up hd) hm ((q47 l).trans h.symm)
theorem UpA.dis {l:List GArc} (h:UpA l):Dis l:=h.imp fun {a b} h=>by omega
theorem append_L {l:List GArc} (hl:l.length≤1000000):∀ (m i:Nat),l.length - i<m→i≤l.length→q0z l m i (l.take i)=some l
 | 0,i,hm,_=>by omega
 | m+1,i,hm,hi=>by
  unfold q0z
  by_cases hlt:i<l.length
  ·obtain ⟨x,hx,_⟩:=q4w hlt
   have hn:((l.take i).length+1)*16≤140737488355328∧(l.take i).length+1≤140737488355328:=by rw [List.length_take]; omega
   simp only [dlt hlt,cond_true,q2t,hx,q0h,needO,hn,and_self,if_true,q2j,wr1 hlt (show l.length≤9223372036854775807 by omega),← q5a hx]
   exact append_L hl m (i+1) (by omega) (by omega)
  ·simp only [dnlt hlt,cond_false,q2i]
   rw [List.take_of_length_le (by omega)]
theorem byF_ok (n:Nat) (a b:GArc):q3l n a b=some (cF a b):=by simp [q3l,cmpInt_eq,q0h,cF]
theorem eqA_refl (x:GArc):eqA x x=true:=by simp [eqA]
theorem sorted_ok {l:List GArc} (hl:l.length≤1000000) (hd:Dis l) {n:Nat} (hn:l.length<n):q1p n l=some (srtA l):=by
 have h1:=append_L hl n 0 (by omega) (by omega)
 rw [Int.ofNat_zero,List.take_zero] at h1
 have h2:=sortO_of eqA_refl (f:=fun a b=>q3l n a b) cF_ok hl (fun x _ y _=>byF_ok n x y) (fun x hx y hy h=>hd.eq x hx y hy (q6v.1 h))
 simp only [q1p,q3e,q2w,h1,q0h,h2,srtA]
structure NOk (x:GNode) (N:Nat):Prop where
 ty:0≤x.Typex
 dis:Dis x.Arcs
 arc:∀ a∈x.Arcs,0≤a.Feat∧0≤a.To∧a.To<N
def GOK (f:GFS):Prop:=∀ x∈f.Nodes,NOk x f.Nodes.length
def nd (f:GFS) (v:Int):GNode:=(f.Nodes[v.toNat]?).getD (GNode.mk 0 [])
def InG (f:GFS) (v:Int):Prop:=0≤v∧v<f.Nodes.length
theorem qa4 {f:GFS} {v:Int} (h:InG f v):idxO f.Nodes v=some (nd f v)∧nd f v∈f.Nodes:=by
 have hv:v.toNat<f.Nodes.length:=by have:=h.1; have:=h.2; omega
 have h1:0≤v∧v<(f.Nodes.length:Int):=h
 simp [idxO,h1,nd,hv]
def sar (f:GFS) (v:Int):List GArc:=srtA (nd f v).Arcs
theorem q82 {f:GFS} {v:Int} {a:GArc}:a∈sar f v↔a∈(nd f v).Arcs:=(q47 _).mem_iff
def dfsF (g:List Int→Int→List Int) (o:List Int) (a:GArc):List Int:=if a.To∈o then o else g o a.To
def dfs (f:GFS):Nat→List Int→Int→List Int
 | 0,o,_=>o
 | k+1,o,v=>(sar f v).foldl (dfsF (dfs f k)) (o++[v])
structure Seen (f:GFS) (o:List Int):Prop where
 nd:o.Nodup
 ing:∀ v∈o,InG f v
theorem q4q:∀ (N:Nat) {o:List Int},o.Nodup→(∀ v∈o,0≤v∧v<N)→o.length≤N
 | 0,o,_,h=>by
  cases o with
  | nil=>simp
  | cons v o=>have:=h v (by simp); omega
 | N+1,o,hn,h=>by
  have h1:=q4q N (o:=o.filter (fun v=>v != (N:Int))) (hn.filter _) fun v hv=>by
   rw [List.mem_filter] at hv
   have:=h v hv.1
   have h2:=hv.2
   simp at h2
   omega
  have h2:o.length≤(o.filter (fun v=>v != (N:Int))).length+1:=by
   clear h1 h
   induction o with
   | nil=>simp
   | cons x o ih =>
    obtain ⟨h3,h4⟩:=List.nodup_cons.1 hn
    have:=ih h4
    by_cases e:x=N
    ·subst e
     have:o.filter (fun v=>v != (N:Int))=o:=List.filter_eq_self.2 fun v hv=>by
      simp only [bne_iff_ne,ne_eq]
      intro e; subst e; exact h3 hv
     simp [this]
    ·have e2:(x != (N:Int))=true:=by simpa using e
     rw [List.filter_cons_of_pos (by simpa using e)]
     simp only [List.length_cons]
     omega
  omega
theorem Seen.len {f:GFS} {o:List Int} (h:Seen f o):o.length≤f.Nodes.length:=q4q _ h.nd h.ing
theorem Seen.snoc {f:GFS} {o:List Int} (h:Seen f o) {v:Int} (hv:InG f v) (hn:v ∉ o):Seen f (o++[v]):=⟨by
 rw [List.nodup_append]
 refine ⟨h.nd,by simp,?_⟩
 intro a ha b hb
 simp at hb
 subst hb
 intro e; subst e; exact hn ha,fun u hu=>by
 rcases List.mem_append.1 hu with hu | hu
 ·exact h.ing u hu
 ·simp at hu; subst hu; exact hv⟩
theorem dfs_ok {f:GFS} (hg:GOK f):∀ (k:Nat) (o:List Int) (v:Int),Seen f o→InG f v→v ∉ o→f.Nodes.length - o.length≤k →
  Seen f (dfs f k o v)∧(∃ t,dfs f k o v=o++v::t)∧(∀ u∈dfs f k o v,u ∉ o→∀ a∈(nd f u).Arcs,a.To∈dfs f k o v)∧(∀ k',f.Nodes.length - o.length≤k'→dfs f k' o v=dfs f k o v)
 | 0,o,v,hs,hv,hn,hk=>by
  have h1:=(hs.snoc hv hn).len
  simp only [List.length_append,List.length_cons,List.length_nil] at h1
  omega
 | k+1,o,v,hs,hv,hn,hk=>by
  have hs1:=hs.snoc hv hn
  have hl1:=hs1.len
  simp only [List.length_append,List.length_cons,List.length_nil] at hl1
  have key:∀ (l:List GArc),(∀ a∈l,InG f a.To)→∀ (p:List Int),Seen f p→(∃ t,p=o++v::t)→(∀ u∈p,u ∉ o→u≠v→∀ a∈(nd f u).Arcs,a.To∈p) →
    Seen f (l.foldl (dfsF (dfs f k)) p)∧(∃ t,l.foldl (dfsF (dfs f k)) p=p++t)∧(∀ u∈l.foldl (dfsF (dfs f k)) p,u ∉ o→u≠v→∀ a∈(nd f u).Arcs,a.To∈l.foldl (dfsF (dfs f k)) p)∧(∀ a∈l,a.To∈l.foldl (dfsF (dfs f k)) p) ∧
     (∀ k',f.Nodes.length - (o.length+1)≤k'→l.foldl (dfsF (dfs f k')) p=l.foldl (dfsF (dfs f k)) p):=by
   intro l
   induction l with
   | nil=>intro _ p hp hpre hcl; exact ⟨hp,⟨[],by simp⟩,hcl,⟨fun a ha=>(List.not_mem_nil ha).elim,fun _ _=>rfl⟩⟩
   | cons a l ih =>
    intro hl p hp hpre hcl
    have hla:=hl a (by simp)
    have hll:=fun b hb=>hl b (List.mem_cons_of_mem a hb)
    simp only [List.foldl_cons]
    by_cases hm:a.To∈p
    ·have e:∀ k',dfsF (dfs f k') p a=p:=fun k'=>by simp [dfsF,hm]
     simp only [e]
     obtain ⟨g1,⟨t,g2⟩,g3,g4,g5⟩:=ih hll p hp hpre hcl
     refine ⟨g1,⟨t,g2⟩,g3,fun b hb=>?_,g5⟩
     rcases List.mem_cons.1 hb with rfl | hb
     ·rw [g2]; exact List.mem_append_left _ hm
     ·exact g4 b hb
    ·have e:∀ k',dfsF (dfs f k') p a=dfs f k' p a.To:=fun k'=>by simp [dfsF,hm]
     obtain ⟨t0,hpre⟩:=hpre
     have hpl:o.length+1≤p.length:=by rw [hpre]; simp
     obtain ⟨d1,⟨t1,d2⟩,d3,d4⟩:=dfs_ok hg k p a.To hp hla hm (by omega)
     have hsub:∀ u∈p,u∈dfs f k p a.To:=fun u hu=>by rw [d2]; exact List.mem_append_left _ hu
     obtain ⟨g1,⟨t,g2⟩,g3,g4,g5⟩:=ih hll (dfs f k p a.To) d1 ⟨t0++a.To::t1,by rw [d2,hpre]; simp⟩ (fun u hu h1 h2 b hb=>by
      by_cases hup:u∈p
      ·exact hsub _ (hcl u hup h1 h2 b hb)
      ·exact d3 u hu hup b hb)
     rw [e k]
     refine ⟨g1,⟨a.To::t1++t,by rw [g2,d2]; simp⟩,g3,fun b hb=>?_,fun k' hk'=>?_⟩
     ·rcases List.mem_cons.1 hb with rfl | hb
      ·rw [g2,d2]; simp
      ·exact g4 b hb
     ·rw [e k',d4 k' (by omega)]; exact g5 k' hk'
  have hla:∀ a∈sar f v,InG f a.To:=fun a ha=>by
   have h1:=(hg _ (qa4 hv).2).arc a (q82.1 ha)
   exact ⟨h1.2.1,h1.2.2⟩
  obtain ⟨g1,⟨t,g2⟩,g3,g4,g5⟩:=key (sar f v) hla (o++[v]) hs1 ⟨[],rfl⟩ (fun u hu h1 h2=>by
   rcases List.mem_append.1 hu with hu | hu
   ·exact absurd hu h1
   ·simp at hu; exact absurd hu h2)
  refine ⟨g1,⟨t,by show (sar f v).foldl _ _=_; rw [g2]; simp⟩,fun u hu h1 a ha=>?_,fun k' hk'=>?_⟩
  ·by_cases e:u=v
   ·subst e; exact g4 a (q82.2 ha)
   ·exact g3 u hu h1 e a ha
  ·cases k' with
   | zero=>omega
   | succ k'=>exact g5 k' (by omega)
def ordG (f:GFS) (r:Int):List Int:=dfs f f.Nodes.length [] r
theorem Seen.nil (f:GFS):Seen f []:=⟨List.nodup_nil,fun v hv=>by cases hv⟩
structure OrdOk (f:GFS) (r:Int) (o:List Int):Prop where
 seen:Seen f o
 head:∃ t,o=r::t
 clo:∀ u∈o,∀ a∈(nd f u).Arcs,a.To∈o
theorem ordG_ok {f:GFS} (hg:GOK f) {r:Int} (hr:InG f r):OrdOk f r (ordG f r)∧∀ k,f.Nodes.length≤k→dfs f k [] r=ordG f r:=by
 obtain ⟨h1,⟨t,h2⟩,h3,h4⟩:=dfs_ok hg f.Nodes.length [] r (Seen.nil f) hr (by simp) (by simp)
 exact ⟨⟨h1,⟨t,by have h5:=h2; rw [List.nil_append] at h5; exact h5⟩,fun u hu=>h3 u hu (by simp)⟩,fun k hk=>h4 k (by simpa using hk)⟩
def arcC (o:List Int) (a:GArc):GArc:=⟨a.Feat,(o.idxOf a.To:Int)⟩
def nodeC (f:GFS) (o:List Int) (v:Int):GNode:=⟨(nd f v).Typex,(sar f v).map (arcC o)⟩
def canonG (f:GFS) (r:Int):GFS:=⟨(ordG f r).map (nodeC f (ordG f r))⟩
structure Rep (w:MapL Int Int) (o:List Int):Prop where
 inv:MInv w
 get:∀ x,aget x w.es=if x∈o then some (o.idxOf x:Int) else none
theorem beqI (a b:Int):(a == b)=true↔a=b:=by simp
theorem Rep.nil:Rep (mNew:MapL Int Int) []:=⟨⟨by simp [mNew],by simp [mNew],by simp [mNew]⟩,fun x=>by simp [mNew,aget]⟩
theorem Rep.snoc {w:MapL Int Int} {o:List Int} (h:Rep w o) {v:Int} (hv:v ∉ o):Rep (mUpd (fun a b=>a == b) w v (o.length:Int)) (o++[v]):=by
 obtain ⟨h1,h2⟩:=upd_ok (eq:=fun a b:Int=>a == b) beqI h.inv v (o.length:Int)
 refine ⟨h1,fun x=>?_⟩
 rw [h2,h.get]
 by_cases e:x=v
 ·subst e
  simp [List.idxOf_append,hv]
 ·by_cases hx:x∈o
  ·simp [e,hx,List.idxOf_append]
  ·simp [e,hx]
theorem Rep.mget {w:MapL Int Int} {o:List Int} (h:Rep w o) (x:Int):mGet (fun a b=>a == b) w x=if x∈o then some (o.idxOf x:Int) else none:=by
 rw [mGet_get (eq:=fun a b:Int=>a == b) beqI,h.get]
theorem visit_ok {f:GFS} {k:Nat} (hg:GOK f) (hf:Small f k) (hk:k≤1000000):∀ (n:Nat) (o:List Int) (v:Int) (w:MapL Int Int),Seen f o→InG f v→v ∉ o→Rep w o→f.Nodes.length - o.length+k+2≤n →
  ∃ w',q14 n v f.Nodes o w=some (dfs f n o v,w')∧Rep w' (dfs f n o v)
 | 0,o,v,w,hs,hv,hn,hw,hfu=>by omega
 | n+1,o,v,w,hs,hv,hn,hw,hfu=>by
  have hs1:=hs.snoc hv hn
  have hl1:=hs1.len
  simp only [List.length_append,List.length_cons,List.length_nil] at hl1
  obtain ⟨hx,hxm⟩:=qa4 hv
  have hno:=hg _ hxm
  have hal:=hf.arcs _ hxm
  have hnl:=hf.nodes
  have hsl:(sar f v).length=(nd f v).Arcs.length:=(q47 _).length_eq
  have key:∀ (m i:Nat) (p:List Int) (w:MapL Int Int),(sar f v).length - i<m→i≤(sar f v).length→Seen f p→o.length+1≤p.length→Rep w p →
    ∃ w',q11 f.Nodes (sar f v) (q14 n) m i p w=some (((sar f v).drop i).foldl (dfsF (dfs f n)) p,w')∧Rep w' (((sar f v).drop i).foldl (dfsF (dfs f n)) p):=by
   intro m
   induction m with
   | zero=>intro i p w hm; omega
   | succ m ih =>
    intro i p w hm hi hp hpl hw
    unfold q11
    by_cases hlt:i<(sar f v).length
    ·obtain ⟨a,ha,ham⟩:=q4w hlt
     have h1:=hno.arc a (q82.1 ham)
     have hw1:IntKind.i64.wrap ((i:Int)+1)=((i+1:Nat):Int):=wr1 hlt (by omega)
     simp only [dlt hlt,cond_true,q2t,ha,q0h,hw.mget,drop_cons' ha,List.foldl_cons]
     by_cases hm2:a.To∈p
     ·simp only [hm2,if_true,Option.isSome_some,Bool.not_true,cond_false,q1u,hw1,dfsF]
      exact ih (i+1) p w (by omega) (by omega) hp hpl hw
     ·simp only [hm2,if_false,Option.isSome_none,Bool.not_false,cond_true,q1u,hw1,dfsF]
      obtain ⟨w1,g1,g2⟩:=visit_ok hg hf hk n p a.To w hp ⟨h1.2.1,h1.2.2⟩ hm2 hw (by omega)
      obtain ⟨d1,⟨t,d2⟩,_,_⟩:=dfs_ok hg n p a.To hp ⟨h1.2.1,h1.2.2⟩ hm2 (by omega)
      simp only [g1,q0h]
      exact ih (i+1) _ w1 (by omega) (by omega) d1 (by rw [d2]; simp; omega) g2
    ·rw [drop_nil' hlt]
     simp only [dnlt hlt,cond_false,q2s,List.foldl_nil]
     exact ⟨w,rfl,hw⟩
  have hneed:(o.length+1)*8≤140737488355328∧o.length+1≤140737488355328:=by omega
  obtain ⟨w',g1,g2⟩:=key n 0 (o++[v]) _ (by omega) (by omega) hs1 (by simp) (hw.snoc hn)
  rw [Int.ofNat_zero,List.drop_zero] at g1
  rw [List.drop_zero] at g2
  refine ⟨w',?_,g2⟩
  show q34 n (q14 n) v f.Nodes o w=_
  simp only [q34,needO,hneed,and_self,if_true,hx,q0h,q2e,sorted_ok (show (nd f v).Arcs.length≤1000000 by omega) hno.dis (show (nd f v).Arcs.length<n by omega)]
  exact g1
theorem set_at {α:Type} (a b:List α) (x y:α):(a++x::b).set a.length y=a++y::b:=by simp
theorem build_L2 {f:GFS} {o:List Int} {w:MapL Int Int} {z:Int} {l15:List GNode} {rc:Int→List GNode→Option GFS} {x:Int} {l:List GArc} (hl:l.length≤1000000) (hw:Rep w o) (hin:∀ a∈l,a.To∈o):∀ (m i:Nat),l.length - i<m→i≤l.length →
  q28 f (o,w) z l15 rc x l m i ((l.take i).map (arcC o)++l.drop i)=q3c f (o,w) z l15 rc x (l.map (arcC o))
 | 0,i,hm,_=>by omega
 | m+1,i,hm,hi=>by
  unfold q28
  by_cases hlt:i<l.length
  ·obtain ⟨a,ha,ham⟩:=q4w hlt
   have e1:(((l.take i).map (arcC o)++l.drop i))[i]? = some a:=by
    rw [List.getElem?_append_right (by simp; omega)]
    simp [show min i l.length=i by omega,ha]
   have e2:(((l.take i).map (arcC o)++l.drop i)).set (0+(i:Int).toNat) (arcC o a)=(l.take (i+1)).map (arcC o)++l.drop (i+1):=by
    rw [drop_cons' ha,q5a ha]
    have h3:((l.take i).map (arcC o)).length=i:=by simp; omega
    have:=set_at ((l.take i).map (arcC o)) (l.drop (i+1)) a (arcC o a)
    rw [h3] at this
    rw [Nat.zero_add,Int.toNat_natCast,this,List.map_append,List.map_cons,List.map_nil,List.append_assoc]
    rfl
   have e3:(⟨a.Feat,((if a.To∈o then some (o.idxOf a.To:Int) else none).getD 0)⟩:GArc)=arcC o a:=by simp [hin a ham,arcC]
   simp only [dlt hlt,cond_true,q2t,e1,q0h,hw.mget,e3,e2,wr1 hlt (show l.length≤9223372036854775807 by omega)]
   exact build_L2 hl hw hin m (i+1) (by omega) (by omega)
  ·simp only [dnlt hlt,cond_false]
   rw [List.take_of_length_le (by omega),List.drop_eq_nil_of_le (by omega),List.append_nil]
theorem build_L1 {f:GFS} {k:Nat} (hg:GOK f) (hf:Small f k) (hk:k≤1000000) {n:Nat} (hn:k+2≤n) {r:Int} {o:List Int} {w:MapL Int Int} (ho:OrdOk f r o) (hw:Rep w o):∀ (m i:Nat),o.length - i<m→i≤o.length →
  q1k f n (o,w) m i ((o.take i).map (nodeC f o)++List.replicate (o.length - i) (GNode.mk 0 []))=some ⟨o.map (nodeC f o)⟩
 | 0,i,hm,_=>by omega
 | m+1,i,hm,hi=>by
  have hol:=ho.seen.len
  have hnl:=hf.nodes
  unfold q1k
  by_cases hlt:i<o.length
  ·obtain ⟨v,hv,hvm⟩:=q4w hlt
   obtain ⟨hx,hxm⟩:=qa4 (ho.seen.ing v hvm)
   have hno:=hg _ hxm
   have hal:=hf.arcs _ hxm
   have hsl:(sar f v).length=(nd f v).Arcs.length:=(q47 _).length_eq
   have h2:=build_L2 (f:=f) (z:=(i:Int)) (l15:=(o.take i).map (nodeC f o)++List.replicate (o.length - i) (GNode.mk 0 [])) (rc:=q1k f n (o,w) m) (x:=v) (l:=sar f v) (by omega) hw (fun a ha=>ho.clo v hvm a (q82.1 ha)) n 0 (by omega) (by omega)
   rw [Int.ofNat_zero,List.take_zero,List.map_nil,List.nil_append,List.drop_zero] at h2
   have h3:((o.take i).map (nodeC f o)).length=i:=by simp; omega
   have e0:o.length - i=(o.length - (i+1))+1:=by omega
   have e1:idxV ((o.take i).map (nodeC f o)++List.replicate (o.length - i) (GNode.mk 0 [])) 0 ((o.length:Int).toNat) (i:Int)=some (GNode.mk 0 []):=by
    have hi:0≤(i:Int)∧(i:Int)<(((o.length:Int).toNat:Nat):Int):=by rw [Int.toNat_natCast]; omega
    rw [idxV,if_pos hi,Nat.zero_add,Int.toNat_natCast,List.getElem?_append_right (by omega),h3,e0]
    simp
   have e2:((o.take i).map (nodeC f o)++List.replicate (o.length - i) (GNode.mk 0 [])).set (i:Int).toNat (nodeC f o v)=(o.take (i+1)).map (nodeC f o)++List.replicate (o.length - (i+1)) (GNode.mk 0 []):=by
    rw [e0,List.replicate_succ,q5a hv]
    have:=set_at ((o.take i).map (nodeC f o)) (List.replicate (o.length - (i+1)) (GNode.mk 0 [])) (GNode.mk 0 []) (nodeC f o v)
    rw [h3] at this
    simp only [Int.toNat_natCast]
    rw [this]
    simp
   have e3:(⟨(nd f v).Typex,(sar f v).map (arcC o)⟩:GNode)=nodeC f o v:=rfl
   have hso:=sorted_ok (show (nd f v).Arcs.length≤1000000 by omega) hno.dis (show (nd f v).Arcs.length<n by omega)
   simp only [dlt hlt,cond_true,q2t,hv,hx,q0h,q2e,hso]
   show q28 f (o,w) i _ _ v (sar f v) n 0 (sar f v)=_
   rw [h2]
   simp only [q3c,hx,q0h,e1,e3,wr1 hlt (show o.length≤9223372036854775807 by omega)]
   rw [e2]
   exact build_L1 hg hf hk hn ho hw m (i+1) (by omega) (by omega)
  ·have e:((o.length:Int)).toNat=((o.take i).map (nodeC f o)++List.replicate (o.length - i) (GNode.mk 0 [])).length:=by simp; omega
   simp only [dnlt hlt,cond_false,q3y,needO,← e,if_true]
   rw [List.take_of_length_le (by omega),show o.length - i=0 by omega]
   simp
theorem canonical_ok {f:GFS} {k:Nat} (hg:GOK f) (hf:Small f k) (hk:k≤1000000) {r:Int} (hr:InG f r) {n:Nat} (hn:2*k+4≤n):q2x n f r=some (canonG f r):=by
 obtain ⟨ho,hst⟩:=ordG_ok hg hr
 have hnl:=hf.nodes
 obtain ⟨w,g1,g2⟩:=visit_ok hg hf hk n [] r mNew (Seen.nil f) hr (by simp) Rep.nil (by simp; omega)
 rw [hst n (by omega)] at g1 g2
 have hol:=ho.seen.len
 have h1:=build_L1 hg hf hk (show k+2≤n by omega) ho g2 n 0 (by omega) (by omega)
 rw [Int.ofNat_zero,List.take_zero,List.map_nil,List.nil_append,Nat.sub_zero] at h1
 have hneed:0≤((ordG f r).length:Int)∧32*((ordG f r).length:Int).toNat≤281474976710656∧((ordG f r).length:Int)≤281474976710656:=by simp; omega
 simp only [q2x,g1,q0h,needO,hneed,and_self,if_true]
 rw [Int.toNat_natCast]
 exact h1
end Go.Proofs
end
section
namespace Go.Proofs
open Go Go.Rx Go.Vx Go.Shelf Go.Sort
set_option linter.unusedVariables false
set_option linter.unusedSimpArgs false
set_option maxRecDepth 10000
def errA (N:Nat) (seen:List Int):List GArc→Int
 | []=>0
 | a::l=>if a.Feat<0∨a.To<0∨a.To ≥ (N:Int) then 2 else if a.Feat∈seen then 4 else errA N (a.Feat::seen) l
def errN (N:Nat) (x:GNode):Int:=if x.Typex<0 then 2 else errA N [] x.Arcs
theorem errA_zero {N:Nat}:∀ {l:List GArc} {seen:List Int},errA N seen l=0↔(∀ a∈l,0≤a.Feat∧0≤a.To∧a.To<N)∧Dis l∧∀ a∈l,a.Feat ∉ seen
 | [],seen=>by simp [errA,Dis]
 | a::l,seen=>by
  simp only [errA]
  by_cases h1:a.Feat<0∨a.To<0∨a.To ≥ (N:Int)
  ·simp only [h1,if_true]
   refine ⟨fun h=>absurd h (by decide),fun h=>?_⟩
   have:=h.1 a (by simp)
   omega
  ·by_cases h2:a.Feat∈seen
   ·simp only [h1,h2,if_true,if_false]
    exact ⟨fun h=>absurd h (by decide),fun h=>absurd h2 (h.2.2 a (by simp))⟩
   ·simp only [h1,h2,if_false]
    rw [errA_zero (l:=l)]
    unfold Dis
    rw [List.pairwise_cons]
    constructor
    ·rintro ⟨g1,g2,g3⟩
     refine ⟨fun b hb=>?_,⟨fun b hb=>?_,g2⟩,fun b hb=>?_⟩
     ·rcases List.mem_cons.1 hb with rfl | hb
      ·omega
      ·exact g1 b hb
     ·have:=g3 b hb
      simp only [List.mem_cons,not_or] at this
      exact fun e=>this.1 e.symm
     ·rcases List.mem_cons.1 hb with rfl | hb
      ·exact h2
      ·have:=g3 b hb
       simp only [List.mem_cons,not_or] at this
       exact this.2
    ·rintro ⟨g1,⟨g2,g3⟩,g4⟩
     refine ⟨fun b hb=>g1 b (by simp [hb]),g3,fun b hb=>?_⟩
     simp only [List.mem_cons,not_or]
     exact ⟨fun e=>g2 b hb e.symm,g4 b (by simp [hb])⟩
theorem errN_zero {N:Nat} {x:GNode}:errN N x=0↔NOk x N:=by
 unfold errN
 by_cases h:x.Typex<0
 ·simp only [h,if_true]
  exact ⟨fun h=>absurd h (by decide),fun h'=>by have:=h'.ty; omega⟩
 ·simp only [h,if_false]
  rw [errA_zero]
  exact ⟨fun ⟨h1,h2,_⟩=>⟨by omega,h2,h1⟩,fun h=>⟨h.arc,h.dis,fun _ _=>by simp⟩⟩
def errL (N:Nat):List GNode→Int
 | []=>0
 | x::l=>if errN N x≠0 then errN N x else errL N l
theorem errL_zero {N:Nat}:∀ {l:List GNode},errL N l=0↔∀ x∈l,NOk x N
 | []=>by simp [errL]
 | x::l=>by
  simp only [errL]
  by_cases h:errN N x=0
  ·simp only [h,ne_eq,not_true,if_false,errL_zero (l:=l),List.mem_cons,forall_eq_or_imp,errN_zero.1 h,true_and]
  ·simp only [h,ne_eq,not_false_eq_true,if_true,List.mem_cons,forall_eq_or_imp,false_iff,not_and]
   exact fun h2=>absurd (errN_zero.2 h2) h
def errG (f:GFS):Int:=if f.Nodes.length=0 then 1 else if f.Nodes.length > 4096 then 7 else errL f.Nodes.length f.Nodes
theorem errG_zero {f:GFS}:errG f=0↔f.Nodes.length≠0∧f.Nodes.length≤4096∧GOK f:=by
 unfold errG
 by_cases h0:f.Nodes.length=0
 ·simp [h0]
 ·by_cases h1:f.Nodes.length > 4096
  ·simp [h0,h1]; intro _; omega
  ·simp only [h0,h1,if_false,errL_zero]
   exact ⟨fun h=>⟨by simpa using h0,by omega,h⟩,fun h=>h.2.2⟩
structure Sim (f g:GFS) (π:Int→Int) (S:Int→Prop):Prop where
 clo:∀ v,S v→∀ a∈sar f v,S a.To
 inj:∀ u v,S u→S v→π u=π v→u=v
 ty:∀ v,S v→(nd g (π v)).Typex=(nd f v).Typex
 arc:∀ v,S v→sar g (π v)=(sar f v).map fun a=>⟨a.Feat,π a.To⟩
theorem srtA_id {l:List GArc} (h:UpA l):srtA l=l:=srtA_of h.dis (List.Perm.refl _) h
theorem qbi {o:List Int} {v:Int} (h:v∈o):o[o.idxOf v]? = some v:=by
 have h1:=List.idxOf_lt_length_of_mem h
 rw [List.getElem?_eq_getElem h1,List.getElem_idxOf]
structure CanOk (f:GFS) (r:Int) (c:GFS):Prop where
 len:c.Nodes.length=(ordG f r).length
 le:c.Nodes.length≤f.Nodes.length
 pos:0<c.Nodes.length
 ok:GOK c
 at_:∀ v∈ordG f r,nd c ((ordG f r).idxOf v:Int)=nodeC f (ordG f r) v
 up:∀ x∈c.Nodes,UpA x.Arcs
 sim:Sim f c (fun v=>((ordG f r).idxOf v:Int)) (fun v=>v∈ordG f r)
theorem up_map {o:List Int} {l:List GArc} (h:UpA l):UpA (l.map (arcC o)):=by
 unfold UpA at *
 rw [List.pairwise_map]
 exact h
theorem canG_ok {f:GFS} (hf:GOK f) {r:Int} (hr:InG f r):CanOk f r (canonG f r):=by
 obtain ⟨o1,_⟩:=ordG_ok hf hr
 have hat:∀ v∈ordG f r,nd (canonG f r) ((ordG f r).idxOf v:Int)=nodeC f (ordG f r) v:=fun v hv=>by
  simp only [nd,canonG,Int.toNat_natCast,List.getElem?_map,qbi hv,Option.map_some,Option.getD_some]
 have hin:∀ v∈ordG f r,InG f v:=o1.seen.ing
 have hup:∀ v∈ordG f r,UpA (nodeC f (ordG f r) v).Arcs:=fun v hv=>up_map (srtA_up (hf _ (qa4 (hin v hv)).2).dis)
 refine ⟨by simp [canonG],by simp only [canonG,List.length_map]; exact o1.seen.len,?_,?_,hat,?_,?_⟩
 ·obtain ⟨t,ht⟩:=o1.head
  simp [canonG,ht]
 ·intro x hx
  simp only [canonG,List.mem_map] at hx
  obtain ⟨v,hv,rfl⟩:=hx
  have hn:=hf _ (qa4 (hin v hv)).2
  refine ⟨hn.ty,(hup v hv).dis,fun a ha=>?_⟩
  simp only [nodeC,List.mem_map] at ha
  obtain ⟨b,hb,rfl⟩:=ha
  have hb':=q82.1 hb
  refine ⟨(hn.arc b hb').1,by simp only [arcC]; omega,?_⟩
  have:=List.idxOf_lt_length_of_mem (o1.clo v hv b hb')
  simp only [arcC,canonG,List.length_map]
  omega
 ·intro x hx
  simp only [canonG,List.mem_map] at hx
  obtain ⟨v,hv,rfl⟩:=hx
  exact hup v hv
 ·refine ⟨fun v hv a ha=>o1.clo v hv a (q82.1 ha),fun u v hu hv e=>?_,fun v hv=>?_,fun v hv=>?_⟩
  ·have h1:=qbi hu
   have h2:=qbi hv
   have e':(ordG f r).idxOf u=(ordG f r).idxOf v:=Int.ofNat.inj e
   rw [e',h2] at h1
   exact (Option.some.inj h1).symm
  ·simp only [hat v hv,nodeC]
  ·simp only [sar,hat v hv]
   rw [srtA_id (hup v hv)]
   rfl
theorem Small.canon {f:GFS} {k:Nat} (hs:Small f k) (hf:GOK f) {r:Int} (hr:InG f r):Small (canonG f r) k:=by
 have hc:=canG_ok hf hr
 obtain ⟨o1,_⟩:=ordG_ok hf hr
 refine ⟨Nat.le_trans hc.le hs.nodes,fun x hx=>?_⟩
 simp only [canonG,List.mem_map] at hx
 obtain ⟨v,hv,rfl⟩:=hx
 simp only [nodeC,List.length_map,sar]
 rw [(q47 _).length_eq]
 exact hs.arcs _ (qa4 (o1.seen.ing v hv)).2
end Go.Proofs
end
section
namespace Go.Proofs
open Go Go.Rx Go.Vx Go.Shelf Go.Sort
set_option linter.unusedVariables false
set_option linter.unusedSimpArgs false
set_option maxRecDepth 10000
structure Pl (N:Nat) (p:List Int):Prop where
 len:p.length=N
 nd:p.Nodup
 ing:∀ v∈p,0≤v∧v<N
 root:0<N→p[0]? = some 0
def idN (N:Nat):List Int:=(List.range N).map fun (i:Nat)=>(i:Int)
theorem idN_get {N i:Nat} (h:i<N):(idN N)[i]? = some (i:Int):=by simp [idN,h]
theorem Pl.id (N:Nat):Pl N (idN N):=⟨by simp [idN],by
 unfold idN
 rw [List.Nodup,List.pairwise_map]
 exact List.nodup_range.imp fun {a b} h e=>h (Int.ofNat.inj e),fun v hv=>by
 simp only [idN,List.mem_map,List.mem_range] at hv
 obtain ⟨i,hi,rfl⟩:=hv
 omega,fun h=>idN_get h⟩
end Go.Proofs
end
section
namespace Go.Proofs
open Go Go.Rx Go.Vx Go.Shelf Go.Sort
set_option linter.unusedVariables false
set_option linter.unusedSimpArgs false
set_option maxRecDepth 10000
inductive Rch (f:GFS):Int→Int→Prop
 | one {u:Int} {a:GArc}:a∈(nd f u).Arcs→Rch f u a.To
 | snoc {u v:Int} {a:GArc}:Rch f u v→a∈(nd f v).Arcs→Rch f u a.To
theorem Rch.trans {f:GFS} {u v w:Int} (h:Rch f u v) (h':Rch f v w):Rch f u w:=by
 induction h' with
 | one ha=>exact .snoc h ha
 | snoc _ ha ih=>exact .snoc ih ha
def Cyc (f:GFS):Prop:=∃ u,InG f u∧Rch f u u
inductive Topo (f:GFS):List Int→Prop
 | nil:Topo f []
 | snoc {l:List Int} {v:Int}:Topo f l→v ∉ l→(∀ a∈(nd f v).Arcs,a.To∈l)→Topo f (l++[v])
theorem Topo.clo {f:GFS} {l:List Int} (h:Topo f l):∀ u∈l,∀ a∈(nd f u).Arcs,a.To∈l:=by
 induction h with
 | nil=>intro u hu; cases hu
 | snoc h1 h2 h3 ih =>
  intro u hu a ha
  rcases List.mem_append.1 hu with hu | hu
  ·exact List.mem_append_left _ (ih u hu a ha)
  ·simp at hu; subst hu; exact List.mem_append_left _ (h3 a ha)
theorem rch_in {f:GFS} {l:List Int} {v w:Int} (h1:∀ a∈(nd f v).Arcs,a.To∈l) (h2:∀ u∈l,∀ a∈(nd f u).Arcs,a.To∈l) (h:Rch f v w):w∈l:=by
 induction h with
 | one ha=>exact h1 _ ha
 | snoc _ ha ih=>exact h2 _ ih _ ha
theorem Topo.acyc {f:GFS} {l:List Int} (h:Topo f l):∀ u∈l,¬ Rch f u u:=by
 induction h with
 | nil=>intro u hu; cases hu
 | snoc h1 h2 h3 ih =>
  intro u hu hr
  rcases List.mem_append.1 hu with hu | hu
  ·exact ih u hu hr
  ·simp at hu; subst hu; exact h2 (rch_in h3 h1.clo hr)
def bat (l:List Bool) (v:Int):Bool:=(l[v.toNat]?).getD false
theorem q8k {N:Nat} {l:List Bool} (h:l.length=N) {v:Int} (hv:0≤v∧v<N):idxV l 0 N v=some (bat l v):=by
 have h1:v.toNat<l.length:=by omega
 rw [idxV,if_pos hv,Nat.zero_add]
 simp [bat,h1]
theorem bat_set {N:Nat} {l:List Bool} (h:l.length=N) {u v:Int} (hu:0≤u∧u<N) (hv:0≤v∧v<N) (b:Bool):bat (l.set v.toNat b) u=if u=v then b else bat l u:=by
 have h1:u.toNat<l.length:=by omega
 by_cases e:u=v
 ·subst e; simp [bat,h1]
 ·rw [if_neg e]
  simp only [bat]
  rw [List.getElem?_set_ne (by omega)]
structure CSt (f:GFS) (op dn:List Bool) (pth fin:List Int):Prop where
 lo:op.length=f.Nodes.length
 ld:dn.length=f.Nodes.length
 op:∀ u,InG f u→(bat op u=true↔u∈pth)
 dn:∀ u,InG f u→(bat dn u=true↔u∈fin)
 topo:Topo f fin
 nd:(pth++fin).Nodup
 ing:∀ u∈pth++fin,InG f u
theorem CSt.bound {f:GFS} {op dn:List Bool} {pth fin:List Int} (h:CSt f op dn pth fin) {v:Int} (hv:InG f v) (h1:v ∉ pth) (h2:v ∉ fin):pth.length+fin.length+1≤f.Nodes.length:=by
 have:=q4q f.Nodes.length (o:=v::(pth++fin)) (List.nodup_cons.2 ⟨by simp [h1,h2],h.nd⟩) (fun u hu=>by
  rcases List.mem_cons.1 hu with rfl | hu
  ·exact hv
  ·exact h.ing u hu)
 simp only [List.length_cons,List.length_append] at this
 omega
theorem cyc_visit {f:GFS} {k:Nat} (hg:GOK f) (hf:Small f k) (hk:k≤1000000):∀ (n:Nat) (v:Int) (op dn:List Bool) (pth fin:List Int),CSt f op dn pth fin→InG f v→v ∉ pth→v ∉ fin→(∀ u∈pth,Rch f u v)→f.Nodes.length - (pth.length+fin.length)+k+2≤n →
  ∃ b op' dn',q25 n v f.Nodes.length f.Nodes f.Nodes.length op dn=some (b,op',dn')∧(b=true→Cyc f)∧(b=false→∃ fin',CSt f op' dn' pth fin'∧v∈fin'∧(∀ u∈fin,u∈fin')∧fin.length≤fin'.length)
 | 0,v,op,dn,pth,fin,hs,hv,h1,h2,hr,hfu=>by omega
 | n+1,v,op,dn,pth,fin,hs,hv,h1,h2,hr,hfu=>by
  have hbd:=hs.bound hv h1 h2
  obtain ⟨hx,hxm⟩:=qa4 hv
  have hno:=hg _ hxm
  have hal:=hf.arcs _ hxm
  have hnl:=hf.nodes
  have hin:∀ a∈(Go.Proofs.nd f v).Arcs,InG f a.To:=fun a ha=>⟨(hno.arc a ha).2.1,(hno.arc a ha).2.2⟩
  have key:∀ (m i:Nat) (op dn:List Bool) (fin':List Int),(Go.Proofs.nd f v).Arcs.length - i<m→i≤(Go.Proofs.nd f v).Arcs.length→CSt f op dn (v::pth) fin'→(∀ u∈fin,u∈fin')→fin.length≤fin'.length→(∀ a∈(Go.Proofs.nd f v).Arcs.take i,a.To∈fin') →
    ∃ b op' dn',q2d v f.Nodes.length f.Nodes f.Nodes.length (Go.Proofs.nd f v) (q25 n) m i op dn=some (b,op',dn')∧(b=true→Cyc f)∧(b=false→∃ fin',CSt f op' dn' pth fin'∧v∈fin'∧(∀ u∈fin,u∈fin')∧fin.length≤fin'.length):=by
   intro m
   induction m with
   | zero=>intro i op dn fin' hm; omega
   | succ m ih =>
    intro i op dn fin' hm hi hc hsub hle hdone
    unfold q2d
    by_cases hlt:i<(Go.Proofs.nd f v).Arcs.length
    ·obtain ⟨a,ha,ham⟩:=q4w hlt
     have hia:=hin a ham
     have hw1:IntKind.i64.wrap ((i:Int)+1)=((i+1:Nat):Int):=wr1 hlt (by omega)
     have hd':∀ fin'':List Int,(∀ u∈fin',u∈fin'')→a.To∈fin''→∀ b∈(Go.Proofs.nd f v).Arcs.take (i+1),b.To∈fin'':=fun fin'' hs' hat b hb=>by
      rw [q5a ha] at hb
      rcases List.mem_append.1 hb with hb | hb
      ·exact hs' _ (hdone b hb)
      ·simp at hb; subst hb; exact hat
     simp only [dlt hlt,cond_true,q2t,ha,q0h,q8k hc.lo hia]
     by_cases hop:bat op a.To=true
     ·simp only [hop,cond_true,q0h]
      refine ⟨true,op,dn,rfl,fun _=>?_,fun h=>by cases h⟩
      rcases List.mem_cons.1 ((hc.op _ hia).1 hop) with e | hm2
      ·exact ⟨v,hv,by have:=Rch.one (f:=f) ham; rwa [e] at this⟩
      ·exact ⟨a.To,hia,.snoc (hr _ hm2) ham⟩
     ·have hop':bat op a.To=false:=by simpa using hop
      simp only [hop',cond_false,q8k hc.ld hia,q0h]
      by_cases hdn:bat dn a.To=true
      ·simp only [hdn,Bool.not_true,cond_false,q0h,hw1]
       exact ih (i+1) op dn fin' (by omega) (by omega) hc hsub hle (hd' fin' (fun u hu=>hu) ((hc.dn _ hia).1 hdn))
      ·have hdn':bat dn a.To=false:=by simpa using hdn
       have n1:a.To ∉ v::pth:=fun h=>hop ((hc.op _ hia).2 h)
       have n2:a.To ∉ fin':=fun h=>hdn ((hc.dn _ hia).2 h)
       have hb2:=hc.bound hia n1 n2
       simp only [List.length_cons] at hb2
       obtain ⟨b,op',dn',g1,g2,g3⟩:=cyc_visit hg hf hk n a.To op dn (v::pth) fin' hc hia n1 n2 (fun u hu=>by
        rcases List.mem_cons.1 hu with rfl | hu
        ·exact .one ham
        ·exact .snoc (hr u hu) ham) (by simp only [List.length_cons]; omega)
       simp only [hdn',Bool.not_false,cond_true,g1,q0h]
       cases b with
       | true=>exact ⟨true,op',dn',rfl,fun _=>g2 rfl,fun h=>by cases h⟩
       | false =>
        obtain ⟨fin'',q1,q2,q3,q4⟩:=g3 rfl
        simp only [cond_false,hw1]
        exact ih (i+1) op' dn' fin'' (by omega) (by omega) q1 (fun u hu=>q3 u (hsub u hu)) (by omega) (hd' fin'' q3 q2)
    ·have hall:∀ a∈(Go.Proofs.nd f v).Arcs,a.To∈fin':=fun a ha=>hdone a (by rw [List.take_of_length_le (by omega)]; exact ha)
     simp only [dnlt hlt,cond_false,q3i,q8k hc.lo hv,q8k hc.ld hv,q0h]
     have hnd:=hc.nd
     rw [List.cons_append,List.nodup_cons,List.mem_append] at hnd
     have nv:v ∉ fin':=fun h=>hnd.1 (.inr h)
     refine ⟨false,_,_,rfl,(fun h=>by cases h),fun _=>⟨fin'++[v],⟨by simp [hc.lo],by simp [hc.ld],fun u hu=>?_,fun u hu=>?_,.snoc hc.topo nv hall,?_,fun u hu=>?_⟩,by simp,fun u hu=>List.mem_append_left _ (hsub u hu),by simp; omega⟩⟩
     ·rw [bat_set hc.lo hu hv]
      by_cases e:u=v
      ·subst e; simp [h1]
      ·rw [if_neg e,hc.op u hu,List.mem_cons]; simp [e]
     ·rw [bat_set hc.ld hu hv]
      by_cases e:u=v
      ·subst e; simp
      ·rw [if_neg e,hc.dn u hu,List.mem_append]; simp [e]
     ·rw [← List.append_assoc,List.nodup_append]
      refine ⟨hnd.2,by simp,fun x1 hx1 y hy e=>?_⟩
      simp at hy
      rw [e,hy] at hx1
      exact hnd.1 (List.mem_append.1 hx1)
     ·refine hc.ing u ?_
      rw [← List.append_assoc] at hu
      rcases List.mem_append.1 hu with hu | hu
      ·exact List.mem_cons_of_mem _ hu
      ·simp at hu; subst hu; simp
  have hst:CSt f (op.set v.toNat true) dn (v::pth) fin:=⟨by simp [hs.lo],hs.ld,fun u hu=>by
   rw [bat_set hs.lo hu hv]
   by_cases e:u=v
   ·simp [e]
   ·rw [if_neg e,hs.op u hu,List.mem_cons]; simp [e],hs.dn,hs.topo,by
   rw [List.cons_append,List.nodup_cons,List.mem_append]
   exact ⟨fun h=>h.elim h1 h2,hs.nd⟩,fun u hu=>by
   rcases List.mem_cons.1 hu with rfl | hu
   ·exact hv
   ·exact hs.ing u hu⟩
  obtain ⟨b,op',dn',g1,g2,g3⟩:=key n 0 _ dn fin (by omega) (by omega) hst (fun u hu=>hu) (Nat.le_refl _) (by simp)
  rw [Int.ofNat_zero] at g1
  refine ⟨b,op',dn',?_,g2,g3⟩
  show q3r n (q25 n) v f.Nodes.length f.Nodes f.Nodes.length op dn=_
  simp only [q3r,q8k hs.lo hv,q0h,hx]
  exact g1
theorem cyc_L1 {f:GFS} {k:Nat} (hg:GOK f) (hf:Small f k) (hk:k≤1000000) {n:Nat} (hn:2*k+4≤n):∀ (m i:Nat) (op dn:List Bool) (fin:List Int),f.Nodes.length - i<m→i≤f.Nodes.length→CSt f op dn [] fin→(∀ j:Nat,j<i→(j:Int)∈fin) →
  ∃ b,q3k f n m i dn op=some b∧(b=true→Cyc f)∧(b=false→∃ fin,Topo f fin∧∀ v,InG f v→v∈fin)
 | 0,i,op,dn,fin,hm,_,_,_=>by omega
 | m+1,i,op,dn,fin,hm,hi,hs,hd=>by
  have hnl:=hf.nodes
  unfold q3k
  by_cases hlt:i<f.Nodes.length
  ·have hv:InG f (i:Int):=⟨by omega,by omega⟩
   have hw1:IntKind.i64.wrap ((i:Int)+1)=((i+1:Nat):Int):=wr1 hlt (by omega)
   have hd':∀ fin':List Int,(∀ u∈fin,u∈fin')→(i:Int)∈fin'→∀ j:Nat,j<i+1→(j:Int)∈fin':=fun fin' h1 h2 j hj=>by
    by_cases e:j=i
    ·subst e; exact h2
    ·exact h1 _ (hd j (by omega))
   simp only [dlt hlt,cond_true,Int.toNat_natCast,q8k hs.ld hv,q0h]
   by_cases hdn:bat dn (i:Int)=true
   ·simp only [hdn,Bool.not_true,cond_false,q0h,hw1]
    exact cyc_L1 hg hf hk hn m (i+1) op dn fin (by omega) (by omega) hs (hd' fin (fun u hu=>hu) ((hs.dn _ hv).1 hdn))
   ·have hdn':bat dn (i:Int)=false:=by simpa using hdn
    have n2:(i:Int) ∉ fin:=fun h=>hdn ((hs.dn _ hv).2 h)
    obtain ⟨b,op',dn',g1,g2,g3⟩:=cyc_visit hg hf hk n (i:Int) op dn [] fin hs hv (by simp) n2 (by simp) (by simp; omega)
    simp only [hdn',Bool.not_false,cond_true,g1,q0h]
    cases b with
    | true=>exact ⟨true,rfl,fun _=>g2 rfl,fun h=>by cases h⟩
    | false =>
     obtain ⟨fin',q1,q2,q3,q4⟩:=g3 rfl
     simp only [cond_false,hw1]
     exact cyc_L1 hg hf hk hn m (i+1) op' dn' fin' (by omega) (by omega) q1 (hd' fin' q3 q2)
  ·simp only [dnlt hlt,cond_false,q4y]
   exact ⟨false,rfl,(fun h=>by cases h),fun _=>⟨fin,hs.topo,fun v hv=>by
    have:=hd v.toNat (by have:=hv.1; have:=hv.2; omega)
    have e:(v.toNat:Int)=v:=by have:=hv.1; omega
    rwa [e] at this⟩⟩
theorem bat_rep (N:Nat) (v:Int):bat (List.replicate N false) v=false:=by
 simp only [bat,List.getElem?_replicate]
 split<;>rfl
theorem Cyclic_ok {f:GFS} {k:Nat} (hg:GOK f) (hf:Small f k) (hk:k≤1000000) {n:Nat} (hn:2*k+4≤n):∃ b,q3b n f=some b∧(b=true→Cyc f)∧(b=false→∃ fin,Topo f fin∧∀ v,InG f v→v∈fin):=by
 have hnl:=hf.nodes
 have hneed:0≤(f.Nodes.length:Int)∧1*(f.Nodes.length:Int).toNat≤281474976710656∧(f.Nodes.length:Int)≤281474976710656:=by rw [Int.toNat_natCast]; omega
 obtain ⟨b,h1,h2,h3⟩:=cyc_L1 hg hf hk hn n 0 (List.replicate f.Nodes.length false) (List.replicate f.Nodes.length false) [] (by omega) (by omega) ⟨by simp,by simp,fun u _=>by simp [bat_rep],fun u _=>by simp [bat_rep],.nil,by simp,by simp⟩ (by simp)
 refine ⟨b,?_,h2,h3⟩
 simp only [q3b,needO]
 rw [if_pos hneed,if_pos hneed,Int.toNat_natCast]
 exact h1
theorem acyc_of {f:GFS} (h:∃ fin,Topo f fin∧∀ v,InG f v→v∈fin):¬ Cyc f:=fun ⟨u,hu,hr⟩=>by
 obtain ⟨fin,h1,h2⟩:=h
 exact h1.acyc u (h2 u hu) hr
end Go.Proofs
end
section
namespace Go.Proofs
open Go Go.Rx Go.Vx Go.Shelf Go.Sort
set_option linter.unusedVariables false
set_option linter.unusedSimpArgs false
set_option maxRecDepth 10000
theorem errA_congr {N:Nat}:∀ {l:List GArc} {s s':List Int},(∀ x,x∈s↔x∈s')→errA N s l=errA N s' l
 | [],s,s',_=>rfl
 | a::l,s,s',h=>by
  simp only [errA]
  rw [errA_congr (l:=l) (s:=a.Feat::s) (s':=a.Feat::s') fun x=>by simp only [List.mem_cons,h x]]
  by_cases h1:a.Feat∈s
  ·simp only [h1,(h _).1 h1,if_true]
  ·simp only [h1,mt (h _).2 h1,if_false]
theorem arcs_L2 {l:List GArc} (hl:l.length≤1000000) {i:Nat} {x:GArc} (hx:l[i]? = some x) (hi:i<l.length) {rc:Int→Option Int}:∀ (m k:Nat),i - k<m→k≤i →
  q4e l i rc m k=if x.Feat∈((l.take i).drop k).map GArc.Feat then some 4 else rc (IntKind.i64.wrap ((i:Int)+1))
 | 0,k,hm,_=>by omega
 | m+1,k,hm,hk=>by
  unfold q4e
  by_cases hlt:k<i
  ·obtain ⟨y,hy,_⟩:=q4w (l:=l) (i:=k) (by omega)
   have hy':(l.take i)[k]? = some y:=by rw [List.getElem?_take_of_lt hlt]; exact hy
   have hd:decide ((k:Int)<(i:Int))=true:=dlt hlt
   have hw:IntKind.i64.wrap ((k:Int)+1)=((k+1:Nat):Int):=wrn (by omega) (by omega)
   simp only [hd,cond_true,q2t,hy,hx,q0h,drop_cons' hy',List.map_cons,List.mem_cons,hw]
   by_cases e:y.Feat=x.Feat
   ·simp [e]
   ·have e2:(y.Feat == x.Feat)=false:=by simpa using e
    have e3:¬ x.Feat=y.Feat:=fun h=>e h.symm
    simp only [e2,cond_false,e3,false_or]
    exact arcs_L2 hl hx hi m (k+1) (by omega) (by omega)
  ·have hd:decide ((k:Int)<(i:Int))=false:=dnlt hlt
   have:(l.take i).drop k=[]:=List.drop_eq_nil_of_le (by simp; omega)
   simp only [hd,cond_false,q6b,this,List.map_nil,List.not_mem_nil,if_false]
theorem arcs_L1 {l:List GArc} {N n:Nat} (hl:l.length≤1000000) (hn:l.length<n):∀ (m i:Nat),l.length - i<m→i≤l.length→q2v l N n m i=some (errA N ((l.take i).map GArc.Feat) (l.drop i))
 | 0,i,hm,_=>by omega
 | m+1,i,hm,hi=>by
  unfold q2v
  by_cases hlt:i<l.length
  ·obtain ⟨a,ha,_⟩:=q4w hlt
   have h2:=arcs_L2 hl ha hlt (rc:=q2v l N n m) n 0 (by omega) (by omega)
   rw [Int.ofNat_zero,List.drop_zero] at h2
   simp only [dlt hlt,cond_true,q2t,ha,q0h,drop_cons' ha,errA]
   by_cases h1:a.Feat<0
   ·simp [h1,q0h]
   ·by_cases h3:a.To<0
    ·simp [h1,h3,q0h]
    ·by_cases h4:a.To ≥ (N:Int)
     ·simp [h1,h3,h4,q0h]
     ·simp only [h1,h3,h4,decide_false,cond_false,q0h,or_self,if_false,h2,wr1 hlt (show l.length≤9223372036854775807 by omega)]
      rw [arcs_L1 hl hn m (i+1) (by omega) (by omega),q5a ha]
      by_cases h5:a.Feat∈(l.take i).map GArc.Feat
      ·simp only [h5,if_true]
      ·simp only [h5,if_false]
       congr 1
       exact errA_congr fun x=>by simp [or_comm]
  ·simp only [dnlt hlt,cond_false,q6a,drop_nil' hlt,errA]
theorem form_L1 {f:GFS} {k:Nat} (hf:Small f k) (hk:k≤1000000) {n:Nat} (hn:k<n):∀ (m i:Nat),f.Nodes.length - i<m→i≤f.Nodes.length→q4f f n m i=some (errL f.Nodes.length (f.Nodes.drop i))
 | 0,i,hm,_=>by omega
 | m+1,i,hm,hi=>by
  have hnl:=hf.nodes
  unfold q4f
  by_cases hlt:i<f.Nodes.length
  ·obtain ⟨x,hx,hxm⟩:=q4w hlt
   have hal:=hf.arcs x hxm
   have h2:=arcs_L1 (l:=x.Arcs) (N:=f.Nodes.length) (n:=n) (by omega) (by omega) n 0 (by omega) (by omega)
   rw [Int.ofNat_zero,List.drop_zero,List.take_zero,List.map_nil] at h2
   simp only [dlt hlt,cond_true,q2t,hx,q0h,drop_cons' hx,errL,errN,q71,h2,wr1 hlt (show f.Nodes.length≤9223372036854775807 by omega)]
   by_cases h1:x.Typex<0
   ·simp [h1]
   ·simp only [h1,decide_false,cond_false,if_false]
    by_cases h3:errA f.Nodes.length [] x.Arcs=0
    ·simp only [h3,bne_self_eq_false,cond_false,ne_eq,not_true,if_false]
     exact form_L1 hf hk hn m (i+1) (by omega) (by omega)
    ·have hb:(errA f.Nodes.length [] x.Arcs != 0)=true:=by simpa using h3
     simp only [hb,cond_true,h3,ne_eq,not_false_eq_true,if_true]
  ·simp only [dnlt hlt,cond_false,q6c,drop_nil' hlt,errL]
theorem form_ok {f:GFS} {k:Nat} (hf:Small f k) (hk:k≤1000000) {n:Nat} (hn:k<n):q6f n f=some (errG f):=by
 have hnl:=hf.nodes
 unfold q6f errG
 by_cases h0:f.Nodes.length=0
 ·simp [h0]
 ·have e0:((f.Nodes.length:Int) == 0)=false:=by simp; intro h; simp [h] at h0
  simp only [e0,cond_false,h0,if_false]
  by_cases h1:f.Nodes.length > 4096
  ·have:(f.Nodes.length:Int) > 4096:=by omega
   simp [h1,this]
  ·have:¬ (f.Nodes.length:Int) > 4096:=by omega
   simp only [h1,this,decide_false,cond_false,if_false]
   have h:=form_L1 hf hk hn n 0 (by omega) (by omega)
   rw [Int.ofNat_zero,List.drop_zero] at h
   exact h
theorem ins_L2 {l:List GArc} {i:Nat} {x:GArc} (hx:l[i]? = some x) {out:List GArc} (hol:out.length≤1000000) (hup:UpA out) {rc:Int→List GArc→Option (List GArc)}:∀ (m p:Nat),p<m→p≤out.length→(∀ a∈out.drop p,x.Feat<a.Feat) →
  ∃ q,q≤out.length∧q3p l i out rc m p=q3o l i out rc (q:Int)∧(∀ a∈out.drop q,x.Feat<a.Feat)∧(∀ a∈out.take q,a.Feat≤x.Feat)
 | 0,p,hm,_,_=>by omega
 | m+1,p,hm,hp,hd=>by
  unfold q3p
  cases p with
  | zero =>
   have:¬ ((0:Nat):Int) > 0:=by omega
   simp only [this,decide_false,cond_false,q0h]
   exact ⟨0,by omega,rfl,hd,by simp⟩
  | succ p =>
   have h0:((p+1:Nat):Int) > 0:=by omega
   have hw:IntKind.i64.wrap (((p+1:Nat):Int) - 1)=(p:Int):=wrn (by omega) (by omega)
   obtain ⟨y,hy,_⟩:=q4w (l:=out) (i:=p) (by omega)
   simp only [h0,decide_true,cond_true,hw,q2t,hy,hx,q0h]
   by_cases e:y.Feat > x.Feat
   ·simp only [e,decide_true,cond_true]
    refine ins_L2 hx hol hup m p (by omega) (by omega) fun a ha=>?_
    rw [drop_cons' hy] at ha
    rcases List.mem_cons.1 ha with rfl | ha
    ·omega
    ·exact hd a ha
   ·simp only [e,decide_false,cond_false]
    refine ⟨p+1,hp,rfl,hd,fun a ha=>?_⟩
    obtain ⟨j,hj,rfl⟩:=List.mem_iff_getElem.1 ha
    simp only [List.length_take] at hj
    rw [List.getElem_take]
    obtain ⟨hp',ey⟩:=List.getElem?_eq_some_iff.1 hy
    by_cases ej:j=p
    ·subst ej; rw [ey]; omega
    ·have:=List.pairwise_iff_getElem.1 hup j p (by omega) hp' (by omega)
     rw [ey] at this
     omega
theorem ins_K2 {l:List GArc} {i:Nat} {x:GArc} (hx:l[i]? = some x) {out:List GArc} (hol:out.length≤1000000) {rc:Int→List GArc→Option (List GArc)} {q:Nat} (hq:q≤out.length) :
  q3o l i out rc (q:Int)=rc (IntKind.i64.wrap ((i:Int)+1)) (out.take q++x::out.drop q):=by
 have e1:(out.drop 0).take ((q:Int)).toNat=out.take q:=by rw [List.drop_zero,Int.toNat_natCast]
 have e2:(out.drop (0+((q:Int)).toNat)).take (out.length - ((q:Int)).toNat)=out.drop q:=by
  rw [Int.toNat_natCast,Nat.zero_add,List.take_of_length_le (by simp)]
 have l1:(out.take q).length=q:=by simp; omega
 have n1:(0:Int)≤(q:Int)∧(q:Int)≤((out.length:Nat):Int):=by omega
 have n2:0+((q:Int)).toNat≤out.length:=by rw [Int.toNat_natCast]; omega
 have n3:(out.take q).length*16≤140737488355328∧(out.take q).length≤140737488355328:=by omega
 have n4:((out.take q).length+1)*16≤140737488355328∧(out.take q).length+1≤140737488355328:=by omega
 have n5:(0+((q:Int)).toNat)+(out.length - ((q:Int)).toNat)≤out.length:=by rw [Int.toNat_natCast]; omega
 have n6:((out.take q++[x]).length+(out.drop q).length)*16≤140737488355328∧(out.take q++[x]).length+(out.drop q).length≤140737488355328:=by simp; omega
 unfold q3o
 simp only [needO,e1,e2,q2t,hx,q0h]
 rw [if_pos n1,if_pos n2,if_pos n3,if_pos n4,if_pos n1,if_pos n5,if_pos n6]
 simp
theorem ins_L1 {l:List GArc} (hl:l.length≤1000000) (hd:Dis l) {n:Nat} (hn:l.length<n):∀ (m i:Nat),l.length - i<m→i≤l.length→q2c l n m i (srtA (l.take i))=some (srtA l)
 | 0,i,hm,_=>by omega
 | m+1,i,hm,hi=>by
  have hdi:Dis (l.take i):=hd.sublist (List.take_sublist i l)
  have hol:(srtA (l.take i)).length=i:=by rw [(q47 _).length_eq]; simp; omega
  unfold q2c
  by_cases hlt:i<l.length
  ·obtain ⟨x,hx,_⟩:=q4w hlt
   obtain ⟨q,q1,q2,q3,q4⟩:=ins_L2 hx (out:=srtA (l.take i)) (by omega) (srtA_up hdi) (rc:=q2c l n m) n (srtA (l.take i)).length (by omega) (Nat.le_refl _) (by simp)
   simp only [dlt hlt,cond_true,q2,ins_K2 hx (show (srtA (l.take i)).length≤1000000 by omega) q1,wr1 hlt (show l.length≤9223372036854775807 by omega)]
   have hdi1:Dis (l.take (i+1)):=hd.sublist (List.take_sublist _ l)
   have hperm:((srtA (l.take i)).take q++x::(srtA (l.take i)).drop q).Perm (l.take (i+1)):=by
    rw [q5a hx]
    refine List.perm_middle.trans ?_
    rw [List.take_append_drop]
    exact ((q47 (l.take i)).cons x).trans (List.perm_append_comm (l₁:=[x]) (l₂:=l.take i))
   have hne:∀ a∈srtA (l.take i),a.Feat≠x.Feat:=fun a ha e=>by
    rw [q5a hx] at hdi1
    have:=(List.pairwise_append.1 hdi1).2.2 a ((q47 _).mem_iff.1 ha) x (by simp)
    exact this e
   have hup:UpA ((srtA (l.take i)).take q++x::(srtA (l.take i)).drop q):=by
    have h0:=srtA_up hdi
    unfold UpA at *
    rw [List.pairwise_append]
    refine ⟨h0.sublist (List.take_sublist _ _),List.pairwise_cons.2 ⟨q3,h0.sublist (List.drop_sublist _ _)⟩,fun a ha b hb=>?_⟩
    have h1:=q4 a ha
    have h2:=hne a (List.mem_of_mem_take ha)
    rcases List.mem_cons.1 hb with rfl | hb
    ·omega
    ·have:=q3 b hb; omega
   rw [← srtA_of hdi1 hperm hup]
   exact ins_L1 hl hd hn m (i+1) (by omega) (by omega)
  ·simp only [dnlt hlt,cond_false,q57]
   rw [List.take_of_length_le (by omega)]
theorem qaj {l:List GArc} (hl:l.length≤1000000) (hd:Dis l) {n:Nat} (hn:l.length<n):q5x n l=some (srtA l):=by
 have h:=ins_L1 hl hd hn n 0 (by omega) (by omega)
 rw [Int.ofNat_zero,List.take_zero] at h
 exact h
structure RepN (f:GFS) (w:List Int) (o:List Int):Prop where
 len:w.length=f.Nodes.length
 get:∀ x,InG f x→idxO w x=some (if x∈o then (o.idxOf x:Int) else -1)
theorem RepN.snoc {f:GFS} {w o:List Int} (h:RepN f w o) {v:Int} (hv:InG f v) (hn:v ∉ o):RepN f (w.set (0+v.toNat) (o.length:Int)) (o++[v]):=by
 refine ⟨by simp [h.len],fun x hx=>?_⟩
 have hvl:v.toNat<w.length:=by rw [h.len]; have:=hv.1; have:=hv.2; omega
 have hc:0≤x∧x<((w.set (0+v.toNat) (o.length:Int)).length:Int):=by rw [List.length_set,h.len]; exact hx
 have h2:=h.get x hx
 have hc2:0≤x∧x<(w.length:Int):=by rw [h.len]; exact hx
 rw [idxO,if_pos hc2] at h2
 rw [idxO,if_pos hc,Nat.zero_add]
 by_cases e:x=v
 ·subst e
  simp [List.idxOf_append,hn,hvl]
 ·rw [List.getElem?_set_ne (by have:=hx.1; have:=hv.1; omega),h2]
  by_cases hxo:x∈o
  ·simp [hxo,List.idxOf_append]
  ·simp [hxo,e]
theorem rvisit_ok {f:GFS} {k:Nat} (hg:GOK f) (hf:Small f k) (hk:k≤1000000):∀ (n:Nat) (o:List Int) (v:Int) (w:List Int),Seen f o→InG f v→v ∉ o→RepN f w o→f.Nodes.length - o.length+k+2≤n →
  ∃ w',q1d n v f.Nodes w o=some (w',dfs f n o v)∧RepN f w' (dfs f n o v)
 | 0,o,v,w,hs,hv,hn,hw,hfu=>by omega
 | n+1,o,v,w,hs,hv,hn,hw,hfu=>by
  have hs1:=hs.snoc hv hn
  have hl1:=hs1.len
  simp only [List.length_append,List.length_cons,List.length_nil] at hl1
  obtain ⟨hx,hxm⟩:=qa4 hv
  have hno:=hg _ hxm
  have hal:=hf.arcs _ hxm
  have hnl:=hf.nodes
  have hsl:(sar f v).length=(nd f v).Arcs.length:=(q47 _).length_eq
  have key:∀ (m i:Nat) (p:List Int) (w:List Int),(sar f v).length - i<m→i≤(sar f v).length→Seen f p→o.length+1≤p.length→RepN f w p →
    ∃ w',q13 f.Nodes (sar f v) (q1d n) m i w p=some (w',((sar f v).drop i).foldl (dfsF (dfs f n)) p)∧RepN f w' (((sar f v).drop i).foldl (dfsF (dfs f n)) p):=by
   intro m
   induction m with
   | zero=>intro i p w hm; omega
   | succ m ih =>
    intro i p w hm hi hp hpl hw
    unfold q13
    by_cases hlt:i<(sar f v).length
    ·obtain ⟨a,ha,ham⟩:=q4w hlt
     have h1:=hno.arc a (q82.1 ham)
     have hia:InG f a.To:=⟨h1.2.1,h1.2.2⟩
     have hw1:IntKind.i64.wrap ((i:Int)+1)=((i+1:Nat):Int):=wr1 hlt (by omega)
     simp only [dlt hlt,cond_true,q2t,ha,q0h,hw.get _ hia,drop_cons' ha,List.foldl_cons]
     by_cases hm2:a.To∈p
     ·have hneg:¬ ((p.idxOf a.To:Nat):Int)<0:=by omega
      simp only [hm2,if_true,hneg,decide_false,cond_false,q1z,hw1,dfsF]
      exact ih (i+1) p w (by omega) (by omega) hp hpl hw
     ·have hneg:(-1:Int)<0:=by decide
      simp only [hm2,if_false,hneg,decide_true,cond_true,q1z,hw1,dfsF]
      obtain ⟨w1,g1,g2⟩:=rvisit_ok hg hf hk n p a.To w hp hia hm2 hw (by omega)
      obtain ⟨d1,⟨t,d2⟩,_,_⟩:=dfs_ok hg n p a.To hp hia hm2 (by omega)
      simp only [g1,q0h]
      exact ih (i+1) _ w1 (by omega) (by omega) d1 (by rw [d2]; simp; omega) g2
    ·rw [drop_nil' hlt]
     simp only [dnlt hlt,cond_false,q35,List.foldl_nil]
     exact ⟨w,rfl,hw⟩
  have hneed:(o.length+1)*8≤140737488355328∧o.length+1≤140737488355328:=by omega
  obtain ⟨w',g1,g2⟩:=key n 0 (o++[v]) _ (by omega) (by omega) hs1 (by simp) (hw.snoc hv hn)
  rw [Int.ofNat_zero,List.drop_zero] at g1
  rw [List.drop_zero] at g2
  refine ⟨w',?_,g2⟩
  show q3d n (q1d n) v f.Nodes w o=_
  simp only [q3d,hw.get _ hv,needO,hneed,and_self,if_true,hx,q0h,qaj (show (nd f v).Arcs.length≤1000000 by omega) hno.dis (show (nd f v).Arcs.length<n by omega)]
  exact g1
theorem from_L3 {f:GFS} {o w:List Int} {z:Int} {l27:List GNode} {rc:Int→List GNode→Option GFS} {x:GNode} {l:List GArc} (hl:l.length≤1000000) (hw:RepN f w o) (hin:∀ a∈l,a.To∈o) (hing:∀ v∈o,InG f v):∀ (m i:Nat),l.length - i<m→i≤l.length →
  q3s (w,o) z l27 rc x m i ((l.take i).map (arcC o)++l.drop i)=q56 z l27 rc x (l.map (arcC o))
 | 0,i,hm,_=>by omega
 | m+1,i,hm,hi=>by
  unfold q3s
  have hlen:((l.take i).map (arcC o)++l.drop i).length=l.length:=by simp; omega
  rw [hlen]
  by_cases hlt:i<l.length
  ·obtain ⟨a,ha,ham⟩:=q4w hlt
   have e1:(((l.take i).map (arcC o)++l.drop i))[i]? = some a:=by
    rw [List.getElem?_append_right (by simp; omega)]
    simp [show min i l.length=i by omega,ha]
   have e2:(((l.take i).map (arcC o)++l.drop i)).set (0+(i:Int).toNat) (arcC o a)=(l.take (i+1)).map (arcC o)++l.drop (i+1):=by
    rw [drop_cons' ha,q5a ha]
    have h3:((l.take i).map (arcC o)).length=i:=by simp; omega
    have:=set_at ((l.take i).map (arcC o)) (l.drop (i+1)) a (arcC o a)
    rw [h3] at this
    rw [Nat.zero_add,Int.toNat_natCast,this,List.map_append,List.map_cons,List.map_nil,List.append_assoc]
    rfl
   have hto:=hin a ham
   have e3:(⟨a.Feat,(o.idxOf a.To:Int)⟩:GArc)=arcC o a:=rfl
   simp only [dlt hlt,cond_true,q2t,e1,q0h,hw.get _ (hing _ hto),hto,if_true,e3,e2,wr1 hlt (show l.length≤9223372036854775807 by omega)]
   exact from_L3 hl hw hin hing m (i+1) (by omega) (by omega)
  ·simp only [dnlt hlt,cond_false]
   rw [List.take_of_length_le (by omega),List.drop_eq_nil_of_le (by omega),List.append_nil]
theorem from_L2 {f:GFS} {k:Nat} (hg:GOK f) (hf:Small f k) (hk:k≤1000000) {n:Nat} (hn:k+2≤n) {r:Int} {o w:List Int} (ho:OrdOk f r o) (hw:RepN f w o):∀ (m i:Nat),o.length - i<m→i≤o.length →
  q2u f n (w,o) m i ((o.take i).map (nodeC f o))=some ⟨o.map (nodeC f o)⟩
 | 0,i,hm,_=>by omega
 | m+1,i,hm,hi=>by
  have hol:=ho.seen.len
  have hnl:=hf.nodes
  unfold q2u
  by_cases hlt:i<o.length
  ·obtain ⟨v,hv,hvm⟩:=q4w hlt
   obtain ⟨hx,hxm⟩:=qa4 (ho.seen.ing v hvm)
   have hno:=hg _ hxm
   have hal:=hf.arcs _ hxm
   have hsl:(sar f v).length=(nd f v).Arcs.length:=(q47 _).length_eq
   have h2:=from_L3 (z:=(i:Int)) (l27:=(o.take i).map (nodeC f o)) (rc:=q2u f n (w,o) m) (x:=nd f v) (l:=sar f v) (by omega) hw (fun a ha=>ho.clo v hvm a (q82.1 ha)) ho.seen.ing n 0 (by omega) (by omega)
   rw [Int.ofNat_zero,List.take_zero,List.map_nil,List.nil_append,List.drop_zero] at h2
   have hneed:(((o.take i).map (nodeC f o)).length+1)*32≤140737488355328∧((o.take i).map (nodeC f o)).length+1≤140737488355328:=by simp; omega
   have hso:=qaj (show (nd f v).Arcs.length≤1000000 by omega) hno.dis (show (nd f v).Arcs.length<n by omega)
   simp only [dlt hlt,cond_true,q2t,hv,hx,q0h,hso]
   show q3s (w,o) i _ _ (nd f v) n 0 (sar f v)=_
   rw [h2]
   simp only [q56,needO]
   rw [if_pos hneed,wr1 hlt (show o.length≤9223372036854775807 by omega)]
   have:=from_L2 hg hf hk hn ho hw m (i+1) (by omega) (by omega)
   rw [q5a hv] at this
   simpa [nodeC,sar] using this
  ·simp only [dnlt hlt,cond_false,q69]
   rw [List.take_of_length_le (by omega)]
theorem from_L1 {f:GFS} (hN:f.Nodes.length≤1000000) {r:Int} {n:Nat}:∀ (m i:Nat),f.Nodes.length - i<m→i≤f.Nodes.length→q4d f r n m i (List.replicate i (-1))=q55 f r n (List.replicate f.Nodes.length (-1))
 | 0,i,hm,_=>by omega
 | m+1,i,hm,hi=>by
  unfold q4d
  by_cases hlt:i<f.Nodes.length
  ·have hneed:((List.replicate i (-1:Int)).length+1)*8≤140737488355328∧(List.replicate i (-1:Int)).length+1≤140737488355328:=by simp; omega
   have e:List.replicate i (-1:Int)++[-1]=List.replicate (i+1) (-1):=by rw [List.replicate_succ']
   simp only [dlt hlt,cond_true,needO]
   rw [if_pos hneed,wr1 hlt (show f.Nodes.length≤9223372036854775807 by omega),e]
   exact from_L1 hN m (i+1) (by omega) (by omega)
  ·simp only [dnlt hlt,cond_false]
   rw [show i=f.Nodes.length by omega]
theorem from_ok {f:GFS} {k:Nat} (hg:GOK f) (hf:Small f k) (hk:k≤1000000) {r:Int} (hr:InG f r) {n:Nat} (hn:2*k+4≤n):q5i n f r=some (canonG f r):=by
 obtain ⟨ho,hst⟩:=ordG_ok hg hr
 have hnl:=hf.nodes
 have h0:RepN f (List.replicate f.Nodes.length (-1)) []:=⟨by simp,fun x hx=>by
  have hc:0≤x∧x<((List.replicate f.Nodes.length (-1:Int)).length:Int):=by rw [List.length_replicate]; exact hx
  rw [idxO,if_pos hc]
  have:x.toNat<f.Nodes.length:=by have:=hx.1; have:=hx.2; omega
  simp [this]⟩
 obtain ⟨w,g1,g2⟩:=rvisit_ok hg hf hk n [] r _ (Seen.nil f) hr (by simp) h0 (by simp; omega)
 rw [hst n (by omega)] at g1 g2
 have hol:=ho.seen.len
 have h1:=from_L2 hg hf hk (show k+2≤n by omega) ho g2 n 0 (by omega) (by omega)
 rw [Int.ofNat_zero,List.take_zero,List.map_nil] at h1
 have h2:=from_L1 (f:=f) (by omega) (r:=r) (n:=n) n 0 (by omega) (by omega)
 rw [Int.ofNat_zero,List.replicate_zero] at h2
 simp only [q5i,h2,q55,g1,q0h,h1,canonG]
theorem refCanon_ok {f:GFS} {k:Nat} (hf:Small f k) (hk:k≤1000000) {n:Nat} (hn:2*k+4≤n):q5h n f=some (if errG f=0 then (canonG f 0,0) else (⟨[]⟩,errG f)):=by
 simp only [q5h,form_ok hf hk (show k<n by omega),q0h]
 by_cases he:errG f=0
 ·obtain ⟨e1,e2,e3⟩:=errG_zero.1 he
  simp [he,from_ok e3 hf hk (r:=0) ⟨by omega,by omega⟩ hn,q0h]
 ·have hb:(errG f != 0)=true:=by simpa using he
  simp [he,hb]
end Go.Proofs
end
section
namespace Go.Proofs
open Go Go.Rx Go.Vx Go.Shelf Go.Sort
set_option linter.unusedVariables false
set_option linter.unusedSimpArgs false
set_option maxRecDepth 10000
theorem nodup_sub:∀ {a b:List Int},a.Nodup→(∀ x∈a,x∈b)→a.length≤b.length
 | [],b,_,_=>by simp
 | x::a,b,hn,hs=>by
  obtain ⟨h1,h2⟩:=List.nodup_cons.1 hn
  have hx:=hs x (by simp)
  have:=nodup_sub (a:=a) (b:=b.erase x) h2 fun y hy=>by
   have hne:y≠x:=fun e=>h1 (e ▸ hy)
   exact (List.mem_erase_of_ne hne).2 (hs y (by simp [hy]))
  have hl:=List.length_erase_of_mem hx
  have hp:=List.length_pos_of_mem hx
  simp only [List.length_cons]
  omega
def Stuck (f:GFS):Prop:=∃ P:Int→Prop,(∃ v,InG f v∧P v)∧∀ v,InG f v→P v→∃ a∈(nd f v).Arcs,InG f a.To∧P a.To
theorem topo_free {f:GFS} {P:Int→Prop} (hP:∀ v,InG f v→P v→∃ a∈(nd f v).Arcs,InG f a.To∧P a.To) {l:List Int} (h:Topo f l):∀ v∈l,InG f v→¬ P v:=by
 induction h with
 | nil=>intro v hv; cases hv
 | snoc h1 h2 h3 ih =>
  intro v hv hin hPv
  rcases List.mem_append.1 hv with hv | hv
  ·exact ih v hv hin hPv
  ·simp at hv; subst hv
   obtain ⟨a,ha,ia,pa⟩:=hP _ hin hPv
   exact ih _ (h3 a ha) ia pa
theorem not_stuck {f:GFS} (h:∃ fin,Topo f fin∧∀ v,InG f v→v∈fin):¬ Stuck f:=fun ⟨P,⟨v,hv,pv⟩,hP⟩=>by
 obtain ⟨fin,h1,h2⟩:=h
 exact topo_free hP h1 v (h2 v hv) hv pv
structure RSt (f:GFS) (dn:List Bool) (fin:List Int):Prop where
 ld:dn.length=f.Nodes.length
 dn:∀ u,InG f u→(bat dn u=true↔u∈fin)
 topo:Topo f fin
 nd:fin.Nodup
 ing:∀ u∈fin,InG f u
theorem rc_L3 {f:GFS} (hg:GOK f) {i:Nat} (hi:i<f.Nodes.length) (ha:(nd f i).Arcs.length≤1000000) {dn:List Bool} (hd:dn.length=f.Nodes.length) {z:Int} {b0:Bool} {rc:Int→Bool→Int→List Bool→Option Bool}:∀ (m k:Nat) (b:Bool),(nd f i).Arcs.length - k<m→k≤(nd f i).Arcs.length →
  q3n f z b0 i dn rc m b k=q31 f z b0 i dn rc (b&&((nd f i).Arcs.drop k).all fun a=>bat dn a.To)
 | 0,k,b,hm,_=>by omega
 | m+1,k,b,hm,hk=>by
  have hx:=qa4 (f:=f) (v:=(i:Int)) ⟨by omega,by omega⟩
  unfold q3n
  by_cases hlt:k<(nd f i).Arcs.length
  ·obtain ⟨a,hga,ham⟩:=q4w hlt
   have hto:=(hg _ hx.2).arc a ham
   have hw:=wr1 hlt (show (nd f i).Arcs.length≤9223372036854775807 by omega)
   simp only [hx.1,q0h,dlt hlt,cond_true,q2t,hga,Int.toNat_natCast,q8k hd ⟨hto.2.1,hto.2.2⟩,hw,drop_cons' hga,List.all_cons]
   have hx1:f.Nodes[i]? = some (nd f (i:Int)):=by rw [← q2t]; exact hx.1
   cases b with
   | true =>
    simp only [hx1,cond_true,q0h,hga,q8k hd ⟨hto.2.1,hto.2.2⟩,Bool.true_and]
    exact rc_L3 hg hi ha hd m (k+1) _ (by omega) (by omega)
   | false =>
    simp only [hx1,cond_false,q0h,Bool.false_and]
    rw [rc_L3 hg hi ha hd m (k+1) false (by omega) (by omega),Bool.false_and]
  ·simp only [hx.1,q0h,dnlt hlt,cond_false,drop_nil' hlt,List.all_nil,Bool.and_true]
theorem rc_L2 {f:GFS} {kk:Nat} (hg:GOK f) (hf:Small f kk) (hk:kk≤1000000) {n:Nat} (hn:kk<n) {rc:Int→Bool→List Bool→Option Bool}:∀ (m i:Nat) (b:Bool) (dn:List Bool) (fin:List Int),f.Nodes.length - i<m→i≤f.Nodes.length→RSt f dn fin →
  ∃ fin' dn' b',RSt f dn' fin'∧q21 f n rc m (fin.length:Int) b i dn=rc (fin'.length:Int) b' dn'∧fin.length≤fin'.length∧(b'=true→b=true∨fin.length<fin'.length) ∧
   (b'=false→b=false∧fin'=fin∧∀ v:Nat,i≤v→v<f.Nodes.length→(v:Int) ∉ fin→∃ a∈(Go.Proofs.nd f v).Arcs,a.To ∉ fin)
 | 0,i,b,dn,fin,hm,_,_=>by omega
 | m+1,i,b,dn,fin,hm,hi,hs=>by
  have hnl:=hf.nodes
  unfold q21
  by_cases hlt:i<f.Nodes.length
  ·have hin:InG f (i:Int):=⟨by omega,by omega⟩
   have hx:=qa4 hin
   have hal:=hf.arcs _ hx.2
   have h3:=rc_L3 hg hlt (by omega) hs.ld (z:=(fin.length:Int)) (b0:=b) (rc:=q21 f n rc m) n 0 (!bat dn (i:Int)) (by omega) (by omega)
   rw [Int.ofNat_zero,List.drop_zero] at h3
   have hw:=wr1 hlt (show f.Nodes.length≤9223372036854775807 by omega)
   have hfl:fin.length≤f.Nodes.length:=q4q _ hs.nd hs.ing
   have hw2:IntKind.i64.wrap ((fin.length:Int)+1)=((fin.length+1:Nat):Int):=wrn (by omega) (by omega)
   have hto:∀ a∈(Go.Proofs.nd f (i:Int)).Arcs,InG f a.To:=fun a ha=>⟨((hg _ hx.2).arc a ha).2.1,((hg _ hx.2).arc a ha).2.2⟩
   simp only [dlt hlt,cond_true,Int.toNat_natCast,q8k hs.ld hin,q0h,h3]
   by_cases hb:bat dn (i:Int)=true
   ·simp only [hb,Bool.not_true,Bool.false_and,q31,cond_false,q30,hw]
    obtain ⟨fin',dn',b',q1,q2,q3,q4,q5⟩:=rc_L2 hg hf hk hn (rc:=rc) m (i+1) b dn fin (by omega) (by omega) hs
    refine ⟨fin',dn',b',q1,q2,q3,q4,fun h=>?_⟩
    obtain ⟨g1,g2,g3⟩:=q5 h
    refine ⟨g1,g2,fun v hv1 hv2 hv3=>?_⟩
    by_cases e:v=i
    ·subst e; exact absurd ((hs.dn _ hin).1 hb) hv3
    ·exact g3 v (by omega) hv2 hv3
   ·have hb':bat dn (i:Int)=false:=by simpa using hb
    have hni:(i:Int) ∉ fin:=fun h=>hb ((hs.dn _ hin).2 h)
    by_cases hall:((Go.Proofs.nd f (i:Int)).Arcs.all fun a=>bat dn a.To)=true
    ·have hai:∀ a∈(Go.Proofs.nd f (i:Int)).Arcs,a.To∈fin:=fun a ha=>(hs.dn _ (hto a ha)).1 (List.all_eq_true.1 hall a ha)
     have hs':RSt f (dn.set (i:Int).toNat true) (fin++[(i:Int)]):=⟨by simp [hs.ld],fun u hu=>by
      rw [bat_set hs.ld hu hin]
      by_cases e:u=(i:Int)
      ·simp [e]
      ·rw [if_neg e,hs.dn u hu,List.mem_append]; simp [e],.snoc hs.topo hni hai,by
      rw [List.nodup_append]
      exact ⟨hs.nd,by simp,fun x hx y hy e=>by simp at hy; rw [e,hy] at hx; exact hni hx⟩,fun u hu=>by
      rcases List.mem_append.1 hu with hu | hu
      ·exact hs.ing u hu
      ·simp at hu; subst hu; exact hin⟩
     obtain ⟨fin',dn',b',q1,q2,q3,q4,q5⟩:=rc_L2 hg hf hk hn (rc:=rc) m (i+1) true (dn.set (i:Int).toNat true) (fin++[(i:Int)]) (by omega) (by omega) hs'
     simp only [hb',hall,Bool.not_false,Bool.and_self,q31,cond_true,Int.toNat_natCast,q8k hs.ld hin,q0h,q30,hw,hw2]
     have e:((fin++[(i:Int)]).length:Int)=((fin.length+1:Nat):Int):=by simp
     rw [e,Int.toNat_natCast] at q2
     refine ⟨fin',dn',b',q1,q2,by simp at q3; omega,fun _=>.inr (by simp at q3; omega),fun h=>?_⟩
     have:=(q5 h).1
     cases this
    ·have hall':((Go.Proofs.nd f (i:Int)).Arcs.all fun a=>bat dn a.To)=false:=by simpa using hall
     simp only [hb',hall',Bool.not_false,Bool.true_and,q31,cond_false,q30,hw]
     obtain ⟨fin',dn',b',q1,q2,q3,q4,q5⟩:=rc_L2 hg hf hk hn (rc:=rc) m (i+1) b dn fin (by omega) (by omega) hs
     refine ⟨fin',dn',b',q1,q2,q3,q4,fun h=>?_⟩
     obtain ⟨g1,g2,g3⟩:=q5 h
     refine ⟨g1,g2,fun v hv1 hv2 hv3=>?_⟩
     by_cases e:v=i
     ·subst e
      rw [List.all_eq_false] at hall'
      obtain ⟨a,ha,hna⟩:=hall'
      exact ⟨a,ha,fun h=>hna ((hs.dn _ (hto a ha)).2 h)⟩
     ·exact g3 v (by omega) hv2 hv3
  ·simp only [dnlt hlt,cond_false,q54]
   exact ⟨fin,dn,b,hs,rfl,Nat.le_refl _,fun h=>.inl h,fun h=>⟨h,rfl,fun v h1 h2=>by omega⟩⟩
theorem rc_L1 {f:GFS} {kk:Nat} (hg:GOK f) (hf:Small f kk) (hk:kk≤1000000) {n:Nat} (hn:kk<n):∀ (m:Nat) (b:Bool) (dn:List Bool) (fin:List Int),f.Nodes.length - fin.length+2≤m+(cond b 0 1)→RSt f dn fin→(b=false→∀ v:Nat,v<f.Nodes.length→(v:Int) ∉ fin→∃ a∈(Go.Proofs.nd f v).Arcs,a.To ∉ fin) →
  ∃ r,q1h f n m (fin.length:Int) b dn=some r∧(r=false→∃ fin,Topo f fin∧∀ v,InG f v→v∈fin)∧(r=true→Stuck f)
 | 0,b,dn,fin,hm,hs,_=>by cases b<;>simp at hm
 | m+1,b,dn,fin,hm,hs,hst=>by
  have hnl:=hf.nodes
  have hfl:fin.length≤f.Nodes.length:=q4q _ hs.nd hs.ing
  unfold q1h
  cases b with
  | true =>
   simp only [cond_true]
   obtain ⟨fin',dn',b',q1,q2,q3,q4,q5⟩:=rc_L2 hg hf hk hn (rc:=q1h f n m) n 0 false dn fin (by omega) (by omega) hs
   rw [Int.ofNat_zero] at q2
   rw [q2]
   have hfl':fin'.length≤f.Nodes.length:=q4q _ q1.nd q1.ing
   refine rc_L1 hg hf hk hn m b' dn' fin' ?_ q1 fun h v hv hnv=>?_
   ·simp only [cond_true] at hm
    cases b' with
    | true =>
     rcases q4 rfl with h | h
     ·cases h
     ·simp only [cond_true]; omega
    | false=>simp only [cond_false]; omega
   ·obtain ⟨_,e,g⟩:=q5 h
    subst e
    exact g v (by omega) hv hnv
  | false =>
   simp only [cond_false,q53]
   refine ⟨_,rfl,fun h=>⟨fin,hs.topo,fun v hv=>?_⟩,fun h=>?_⟩
   ·apply Classical.byContradiction
    intro hn
    have:=q4q f.Nodes.length (o:=v::fin) (List.nodup_cons.2 ⟨hn,hs.nd⟩) (fun u hu=>by
     rcases List.mem_cons.1 hu with rfl | hu
     ·exact hv
     ·exact hs.ing u hu)
    simp only [List.length_cons] at this
    simp at h
    omega
   ·have hlt:fin.length<f.Nodes.length:=by simp at h; omega
    have hst':=hst rfl
    have hto:∀ v,InG f v→∀ a∈(Go.Proofs.nd f v).Arcs,InG f a.To:=fun v hv a ha=>⟨((hg _ (qa4 hv).2).arc a ha).2.1,((hg _ (qa4 hv).2).arc a ha).2.2⟩
    refine ⟨fun v=>v ∉ fin,?_,fun v hv hnv=>?_⟩
    ·apply Classical.byContradiction
     intro hne
     have:=nodup_sub (a:=idN f.Nodes.length) (b:=fin) (Pl.id _).nd fun x hx=>by
      apply Classical.byContradiction
      intro hn
      exact hne ⟨x,(Pl.id _).ing x hx,hn⟩
     rw [(Pl.id _).len] at this
     omega
    ·have e:((v.toNat:Nat):Int)=v:=by have:=hv.1; omega
     have:=hst' v.toNat (by have:=hv.1; have:=hv.2; omega) (by rw [e]; exact hnv)
     rw [e] at this
     obtain ⟨a,ha,hna⟩:=this
     exact ⟨a,ha,hto v hv a ha,hna⟩
theorem refCyc_ok {f:GFS} {k:Nat} (hg:GOK f) (hf:Small f k) (hk:k≤1000000) {n:Nat} (hn:2*k+4≤n):∃ b,q3b n f=some b∧q44 n f=some b:=by
 have hnl:=hf.nodes
 obtain ⟨b,h1,h2,h3⟩:=Cyclic_ok hg hf hk hn
 have hneed:0≤(f.Nodes.length:Int)∧1*(f.Nodes.length:Int).toNat≤281474976710656∧(f.Nodes.length:Int)≤281474976710656:=by rw [Int.toNat_natCast]; omega
 obtain ⟨r,g1,g2,g3⟩:=rc_L1 hg hf hk (show k<n by omega) n true (List.replicate f.Nodes.length false) [] (by simp; omega) ⟨by simp,fun u _=>by simp [bat_rep],.nil,by simp,by simp⟩ (fun h=>by cases h)
 have e:q44 n f=some r:=by
  simp only [q44,needO]
  rw [if_pos hneed,Int.toNat_natCast]
  exact g1
 have hbr:b=r:=by
  cases hb:b with
  | true =>
   cases hr:r with
   | true=>rfl
   | false=>exact absurd (h2 hb) (acyc_of (g2 hr))
  | false =>
   cases hr:r with
   | false=>rfl
   | true=>exact absurd (g3 hr) (not_stuck (h3 hb))
 exact ⟨b,h1,by rw [e,hbr]⟩
theorem subs_L1 {f:GFS} {k:Nat} (hg:GOK f) (hf:Small f k) (hk:k≤1000) {n:Nat} (hn:3000000≤n):∀ (m i:Nat),f.Nodes.length - i<m→i≤f.Nodes.length→q2o f n m i=some true
 | 0,i,hm,_=>by omega
 | m+1,i,hm,hi=>by
  have hnl:=hf.nodes
  unfold q2o
  by_cases hlt:i<f.Nodes.length
  ·have hin:InG f (i:Int):=⟨by omega,by omega⟩
   have hs:=(hf.canon hg hin).up (show k≤1000 by omega)
   simp only [dlt hlt,cond_true,q6x,q80,canonical_ok hg hf (show k≤1000000 by omega) hin (show 2*k+4≤n by omega),from_ok hg hf (show k≤1000000 by omega) hin (show 2*k+4≤n by omega),q0h,refEq_ok hs hs hn,ccG_ok.self,beq_self_eq_true,Bool.not_true,cond_false,wr1 hlt (show f.Nodes.length≤9223372036854775807 by omega)]
   exact subs_L1 hg hf hk hn m (i+1) (by omega) (by omega)
  ·obtain ⟨b,h1,h2⟩:=refCyc_ok hg hf (show k≤1000000 by omega) (show 2*k+4≤n by omega)
   simp only [dnlt hlt,cond_false,q41,h1,h2,q0h,beq_self_eq_true,cond_true,ex_n (show 60≤n by omega)]
theorem canonical_law {f:GFS} {n:Nat} (hn:3000000≤n):∃ b,q3m n f=some b∧(b=true→GOK f∧Small f 12∧errG f=0∧canonG f 0=f):=by
 obtain ⟨b,h1,h2⟩:=light_ok f (show 20≤n by omega)
 simp only [q3m,h1,q0h]
 cases b with
 | false=>exact ⟨false,rfl,fun h=>by cases h⟩
 | true =>
  have hf:=h2 rfl
  have hR:=refCanon_ok hf (by omega) (show 2*12+4≤n by omega)
  simp only [Bool.not_true,cond_false,hR,q0h]
  by_cases he:errG f=0
  ·obtain ⟨e1,e2,e3⟩:=errG_zero.1 he
   have hs:=(hf.canon e3 (r:=0) ⟨by omega,by omega⟩).up (show 12≤1000 by omega)
   refine ⟨ccG f (canonG f 0) == 0,?_,fun h=>⟨e3,hf,he,?_⟩⟩
   ·simp [he,refEq_ok (hf.up (show 12≤1000 by omega)) hs hn,q0h]
   ·have:=ccG_zero.1 (by simpa using h)
    exact this.symm
  ·refine ⟨false,?_,fun h=>by cases h⟩
   have hb:(errG f == 0)=false:=by simpa using he
   simp [he,hb,q0h]
theorem subs_law (f:GFS) {n:Nat} (hn:3000000≤n):q51 n f=some true:=by
 obtain ⟨b,h1,h2⟩:=canonical_law (f:=f) hn
 simp only [q51,h1,q0h,ex_n (show 60≤n by omega)]
 cases b with
 | false=>simp
 | true =>
  obtain ⟨e1,e2,_,_⟩:=h2 rfl
  have:=subs_L1 e1 e2 (by omega) hn n 0 (by have:=e2.nodes; omega) (by omega)
  rw [Int.ofNat_zero] at this
  simp only [Bool.not_true,cond_false,this]
end Go.Proofs
end
