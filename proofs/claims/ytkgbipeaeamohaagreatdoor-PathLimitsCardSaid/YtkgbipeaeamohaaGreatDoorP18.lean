/-
  Texts of the walk: H4 PlA MpA Q1 Q6.
-/
import Derived.Test.YtkgbipeaeamohaaGreatDoorP17
set_option linter.unusedSimpArgs false
set_option linter.unusedVariables false
section
namespace Go.Proofs
open Go Go.Rx Go.Vx Tryz
set_option maxRecDepth 20000
set_option maxHeartbeats 4000000
set_option synthInstance.maxSize 4000
set_option synthInstance.maxHeartbeats 200000
theorem qfk (n:Nat) (p1:Int) (r:Bool) (hF:q3b n p1=some r):EvU Tryz.prog 8 [.int .u8 p1] ⟨[],0⟩ (fun u _=>u = .bool r∧Bel 0 u):=by
 unfold q3b at hF
 refine bg1 70 fn8 ?_
 obtain ⟨r2,h3,hF⟩:=q00 hF
 refine go ?_
 refine RS.cl rfl (pC (qci n r2 h3) _) fn31 (RS.q (u:=.ptr 0 0 0) (σ':=⟨[(0,.row [.nils,.nils] 43)],1⟩) rfl (q1h inf43 rfl rfl) ?_)
 refine qxi (u:=.junk) (σ':=⟨[(0,.row (q06 r2) 43)],1⟩) rfl (q11 (q04 inf43) rfl rfl rfl rfl rfl rfl rfl rfl) rfl ?_
 refine go ?_
 refine RS.q (u:=.i6 (IntKind.i64.wrap p1)) rfl (qp0 rfl rfl (by simp only [qn3,und5,und3]<;>rfl) rfl) ?_
 refine RS.q rfl (q35 rfl rfl (qsr _ (by decide)) rfl) ?_
 obtain ⟨r5,h6,hF⟩:=q00 hF
 obtain ⟨h7,hF⟩:=q0a hF
 refine go ?_
 refine RS.cl rfl (pC (q9o n ([82,69,83,84,46]) (IntKind.i64.wrap ((IntKind.i64.wrap (1+((IntKind.i64.wrap p1).tmod 100))) - 1)) r5 h6) _) fn32 (RS.q (u:=.str (r5++[70,73,82,83,84])) rfl (q50 rfl rfl (qli h7) rfl) ?_)
 obtain ⟨r8,h9,hF⟩:=q00 hF
 refine go ?_
 refine RS.q (u:=.agg (q06 r2)) rfl (q1f und43 rfl (q04 inf43) rfl rfl rfl) ?_
 refine go ?_
 refine RS.cl rfl (pC (q51 n r2 (r5++[70,73,82,83,84]) r8 h9) _) fn26 ?_
 obtain ⟨r10,h11,hF⟩:=q00 hF
 obtain ⟨h12,hF⟩:=q0a hF
 obtain ⟨r13,h14,hF⟩:=q00 hF
 refine go ?_
 refine qxh Tryz.tb_ok [] (by kernel_rfl) ?_
 refine RD.q (u:=.agg (q06 r2)) rfl (q1f und43 rfl (q04 inf43) rfl rfl rfl) (RD.fl rfl (pC (q9o n ([46]) 64 r10 h11)) fn32 (RD.q (u:=.str ([120]++r10)) rfl (q50 rfl rfl (qli h12) rfl) (RD.fl rfl (pC (q51 n r2 ([120]++r10) r13 h14)) fn26 (RD.mv rfl rfl rfl rfl (RD.q rfl (qnq rfl rfl) (RD.q rfl (qnq rfl rfl) ?_))))))
 repeat refine RD.as rfl rfl rfl rfl ?_
 refine RD.done ⟨by kernel_rfl,trivial,?_⟩
 obtain ⟨r15,h16,hF⟩:=q00 hF
 obtain ⟨h17,hF⟩:=q0a hF
 obtain ⟨r18,h19,hF⟩:=q00 hF
 refine go ?_
 refine qxh Tryz.tb_ok [] (by kernel_rfl) ?_
 refine RD.q (u:=.agg (q06 r2)) rfl (q1f und43 rfl (q04 inf43) rfl rfl rfl) (RD.fl rfl (pC (q9o n ([46]) 63 r15 h16)) fn32 (RD.q (u:=.str ([120]++r15)) rfl (q50 rfl rfl (qli h17) rfl) (RD.fl rfl (pC (q51 n r2 ([120]++r15) r18 h19)) fn26 (RD.mv rfl rfl rfl rfl (RD.q rfl (qnq rfl rfl) (RD.q rfl (qnq rfl rfl) ?_))))))
 repeat refine RD.as rfl rfl rfl rfl ?_
 refine RD.done ⟨by kernel_rfl,trivial,?_⟩
 obtain ⟨b21,h22,hF⟩:=q00 hF
 refine gn ?_
 refine qxf (fun tm σ=>tm=fr 70 [(4,.i6 (IntKind.i64.wrap (1+((IntKind.i64.wrap p1).tmod 100)))),(6,.iM (cI .i64) r8.1),(7,.i6 r8.2),(46,.bool b21)]∧σ=⟨[(0,.row (q06 r2) 43)],1⟩) ?_ ?_
 rintro _ _ ⟨rfl,rfl⟩
 refine go ?_
 refine cF hF (fun h23 hF=>?_) (fun h23 hF=>?_)
 exact gx hF
 refine go ?_
 refine cF hF (fun h24 hF=>?_) (fun h24 hF=>?_)
 obtain ⟨b29,h30,hF⟩:=q00 hF
 refine gn ?_
 refine qxf (fun tm σ=>tm=fr 70 [(2,.bool b29)]∧σ=⟨[(0,.row (q06 r2) 43)],1⟩) ?_ ?_
 rintro _ _ ⟨rfl,rfl⟩
 exact gx hF
 rcases gB h30 with ⟨h25,h30⟩ | ⟨h25,h30⟩
 rcases gB h30 with ⟨h26,h30⟩ | ⟨h26,h30⟩
 obtain ⟨r27,h28,h30⟩:=q00 h30
 obtain rfl:=sI h30
 refine go ?_
 refine RS.w rfl (q0c rfl rfl rfl (q08 (cI .i64) und33)) ?_
 refine go ?_
 refine RS.cl rfl (pC (q7n n r27 h28) _) fn13 ?_
 refine go ?_
 exact xC ⟨rfl,rfl⟩
 obtain rfl:=sI h30
 refine go ?_
 refine RS.w rfl (q0c rfl rfl rfl (q08 (cI .i64) und33)) ?_
 refine go ?_
 exact xC ⟨rfl,rfl⟩
 exact gy h30
 obtain ⟨b35,h36,hF⟩:=q00 hF
 refine gn ?_
 refine qxf (fun tm σ=>tm=fr 70 [(2,.bool b35)]∧σ=⟨[(0,.row (q06 r2) 43)],1⟩) ?_ ?_
 rintro _ _ ⟨rfl,rfl⟩
 exact gx hF
 rcases gB h36 with ⟨h31,h36⟩ | ⟨h31,h36⟩
 rcases gB h36 with ⟨h32,h36⟩ | ⟨h32,h36⟩
 obtain ⟨r33,h34,h36⟩:=q00 h36
 obtain rfl:=sI h36
 refine go ?_
 refine RS.w rfl (q0c rfl rfl rfl (q08 (cI .i64) und33)) ?_
 refine go ?_
 refine RS.cl rfl (pC (q7n n r33 h34) _) fn13 ?_
 refine go ?_
 exact xC ⟨rfl,rfl⟩
 obtain rfl:=sI h36
 refine go ?_
 refine RS.w rfl (q0c rfl rfl rfl (q08 (cI .i64) und33)) ?_
 refine go ?_
 exact xC ⟨rfl,rfl⟩
 exact gy h36
 rcases gB h22 with ⟨h20,h22⟩ | ⟨h20,h22⟩
 exact gy h22
 exact gy h22
end Go.Proofs
end
section
namespace Go.Proofs
open Go Go.Rx Go.Vx Go.Shelf Go.Sort
theorem qrw {α β:Type} (a:α) (k:α→Option β):q03 (some a) k=k a:=rfl
theorem wr {z:Int} (h1 : -9223372036854775808≤z) (h2:z≤9223372036854775807):IntKind.i64.wrap z=z:=qik (by omega) (by omega)
section
variable {α:Type} {c:α→α→Int}
end
end Go.Proofs
end
section
namespace Go.Vx
open Go Go.Rx
section
variable {K V:Type} [DecidableEq K]
variable {eq:K→K→Bool} (he:∀ a b,eq a b=true↔a=b)
include he
omit he [DecidableEq K] in
theorem qqi (v:V):∀ (es:List (K×V×Nat)) (i:Nat),(qlx v es i).map (fun e=>e.1)=es.map (fun e=>e.1)∧(qlx v es i).map (fun e=>e.2.2)=es.map (fun e=>e.2.2)
 | [],i=>by simp [qlx]
 | e::es,0=>by simp [qlx]
 | e::es,i+1=>by simp [qlx,qqi v es i]
structure MInv (m:qdy K V):Prop where
 keys:(m.es.map (fun e=>e.1)).Nodup
 borns:(m.es.map (fun e=>e.2.2)).Nodup
 lt:∀ e∈m.es,e.2.2<m.cl
omit he [DecidableEq K] in
theorem MInv.set {m:qdy K V} (h:MInv m) (v:V) (i:Nat):MInv (⟨qlx v m.es i,m.cl⟩:qdy K V):=by
 obtain ⟨h1,h2⟩:=qqi v m.es i
 refine ⟨by simp only [h1]; exact h.keys,by simp only [h2]; exact h.borns,fun e he=>?_⟩
 have:e.2.2∈(qlx v m.es i).map (fun e=>e.2.2):=List.mem_map.2 ⟨e,he,rfl⟩
 rw [h2] at this
 obtain ⟨e',g1,g2⟩:=List.mem_map.1 this
 have:=h.lt e' g1
 simp only at g2 ⊢
 omega
end
end Go.Vx
end
section
namespace Go.Proofs
open Go Go.Rx Go.Vx Go.Shelf Go.Sort
set_option maxRecDepth 10000
theorem ex_ok (m:Nat):q24 (m+200)=some true:=by kernel_rfl
theorem ex_n {n:Nat} (h:200≤n):q24 n=some true:=by
 have:=ex_ok (n - 200)
 rwa [Nat.sub_add_cancel h] at this
def pr (o:Option Int):Int×Bool:=match o with | some v=>(v,true) | none=>(0,false)
end Go.Proofs
end
section
namespace Go.Proofs
open Go Go.Rx Go.Vx Go.Shelf Go.Sort
set_option maxRecDepth 100000
def preF:List q1a:=[⟨[65,82,71,83],12⟩,⟨[67,79,78,83],11⟩,⟨[70,73,82,83,84],3⟩,⟨[72,73,71,72],9⟩,⟨[73,78,68,69,88],11⟩,⟨[76,65,66,69,76],10⟩,⟨[76,65,83,84],4⟩,⟨[76,73,83,84],4⟩,⟨[76,79,87],9⟩,⟨[82,69,76,83],11⟩,⟨[82,69,83,84],3⟩,⟨[83,69,77],12⟩,⟨[84,79,80],11⟩]
theorem pre_ok (m:Nat):(q37 (m+200)).map q0w.Feats=some preF:=by kernel_rfl
theorem pre_n {n:Nat} (h:200≤n):∃ ty,q37 n=some ⟨ty,preF⟩:=by
 have:=pre_ok (n - 200)
 rw [Nat.sub_add_cancel h] at this
 cases e:q37 n with
 | none=>rw [e] at this; cases this
 | some x =>
  rw [e] at this
  cases x with
  | mk ty fs=>cases this; exact ⟨ty,rfl⟩
def limT (n:Nat) (ty:List q8g) (k:Int):Option Bool :=
 q03 (q34 n ([82,69,83,84,46]) (IntKind.i64.wrap (k - 1))) fun r5 =>
 q16 (r5.length+([70,73,82,83,84]:List UInt8).length≤9223372036854775807) (
 q03 (q2y n ⟨ty,preF⟩ (r5++[70,73,82,83,84])) fun r8 =>
 q03 (q34 n ([46]) 64) fun r10 =>
 q16 (([120]:List UInt8).length+r10.length≤9223372036854775807) (
 q03 (q2y n ⟨ty,preF⟩ ([120]++r10)) fun r13 =>
 q03 (q34 n ([46]) 63) fun r15 =>
 q16 (([120]:List UInt8).length+r15.length≤9223372036854775807) (
 q03 (q2y n ⟨ty,preF⟩ ([120]++r15)) fun r18 =>
 q03 (cond (r13.2 != 7)
  (some true)
  (some (r18.2 != 8))) fun b21 =>
 cond b21
  (some false)
  (cond (decide (k > 64))
   (q03 (cond (r8.2 == 7)
    (cond ((r8.1.length:Int) == 0)
     (some true)
     (some false))
    (some false)) fun b29 =>
   some b29)
   (q03 (cond (r8.2 == 0)
    (cond ((r8.1.length:Int) == k)
     (some true)
     (some false))
    (some false)) fun b35 =>
   some b35)))))
def limB (n:Nat) (ty:List q8g) (j:Nat):Bool:=match limT n ty ((j:Int)+1) with
 | some true=>true
 | _=>false
theorem qwr (m:Nat) (ty:List q8g):(List.range 100).all (limB (m+1000) ty)=true:=by kernel_rfl
theorem qr4 {p:Int} (hp:0≤p∧p≤255) {n:Nat} (hn:1000≤n):q3b n p=some true:=by
 obtain ⟨ty,h1⟩:=pre_n (show 200≤n by omega)
 have hex:=ex_n (show 200≤n by omega)
 have hk:∃ j:Nat,j<100∧IntKind.i64.wrap (1+((IntKind.i64.wrap p).tmod 100))=(j:Int)+1:=by
  rw [wr (z:=p) (by omega) (by omega)]
  refine ⟨(p.tmod 100).toNat,?_,?_⟩
  ·rw [Int.tmod_eq_emod_of_nonneg hp.1]; omega
  ·rw [Int.tmod_eq_emod_of_nonneg hp.1,wr (by omega) (by omega)]; omega
 obtain ⟨j,hj,e⟩:=hk
 have h2:=qwr (n - 1000) ty
 rw [Nat.sub_add_cancel hn,List.all_eq_true] at h2
 have h3:=h2 j (List.mem_range.2 hj)
 have h4:q3b n p=limT n ty ((j:Int)+1):=by
  simp only [q3b,h1,hex,qrw,e]
  rfl
 rw [h4]
 unfold limB at h3
 split at h3
 ·assumption
 ·cases h3
end Go.Proofs
end
