/-
  Texts of the walk: M4.
-/
import Derived.Test.YtldlchbgolpkaaaP13
set_option linter.unusedSimpArgs false
set_option linter.unusedVariables false
section
namespace Go.Proofs
open Go Go.Rx Go.Vx Try
instance:TbP Try.prog Try.tb:=⟨Try.tb_ok⟩
set_option maxRecDepth 20000
set_option maxHeartbeats 4000000
set_option synthInstance.maxSize 4000
set_option synthInstance.maxHeartbeats 200000
structure Gcell where
 forward:Int
 kind:Int
 arcs:List GArc
def cGcell (x:Gcell):List U:=[.int .i64 x.forward,.int .i64 x.kind,.isl false (List.map cGArc x.arcs)]
instance {a0:Int} {a1:Int} {a2:List GArc}:DeC cGcell [.int .i64 a0,.int .i64 a1,.isl false (List.map cGArc a2)] (Gcell.mk a0 a1 a2):=⟨rfl⟩
theorem bel_cGcell (n:Nat) (x:Gcell):BelL n (cGcell x):=by
 simp only [cGcell,BelL,Bel,true_and,and_true]
 exact belR_map _ (fun q=>bel_cGArc _ q) _
theorem len_cGcell (x:Gcell):(cGcell x).length=3:=rfl
instance:LenC cGcell 3:=⟨len_cGcell⟩
instance:BF cGcell:=⟨bel_cGcell⟩
instance (n:Nat) (x:Gcell):BUL n (cGcell x):=⟨bel_cGcell n x⟩
structure Gchange where
 atx:Int
 old:Gcell
def cGchange (x:Gchange):List U:=[.int .i64 x.atx,.int .i64 x.old.forward,.int .i64 x.old.kind,.isl false (List.map cGArc x.old.arcs)]
theorem bel_cGchange (n:Nat) (x:Gchange):BelL n (cGchange x):=by
 simp only [cGchange,BelL,Bel,true_and,and_true]
 exact belR_map _ (fun q=>bel_cGArc _ q) _
theorem len_cGchange (x:Gchange):(cGchange x).length=4:=rfl
instance:LenC cGchange 4:=⟨len_cGchange⟩
instance:BF cGchange:=⟨bel_cGchange⟩
structure Gmark where
 cells:Int
 changes:Int
def cGmark (x:Gmark):List U:=[.int .i64 x.cells,.int .i64 x.changes]
instance {a0:Int} {a1:Int}:DeC cGmark [.int .i64 a0,.int .i64 a1] (Gmark.mk a0 a1):=⟨rfl⟩
theorem bel_cGmark (n:Nat) (x:Gmark):BelL n (cGmark x):=by
 simp only [cGmark,BelL,Bel,true_and,and_true]
theorem len_cGmark (x:Gmark):(cGmark x).length=2:=rfl
instance:LenC cGmark 2:=⟨len_cGmark⟩
instance:BF cGmark:=⟨bel_cGmark⟩
structure GA2Int where
 E0:Int
 E1:Int
def cGA2Int (x:GA2Int):List U:=[.int .i64 x.E0,.int .i64 x.E1]
instance {a0:Int} {a1:Int}:DeC cGA2Int [.int .i64 a0,.int .i64 a1] (GA2Int.mk a0 a1):=⟨rfl⟩
theorem bel_cGA2Int (n:Nat) (x:GA2Int):BelL n (cGA2Int x):=by
 simp only [cGA2Int,BelL,Bel,true_and,and_true]
theorem len_cGA2Int (x:GA2Int):(cGA2Int x).length=2:=rfl
instance:LenC cGA2Int 2:=⟨len_cGA2Int⟩
instance:BF cGA2Int:=⟨bel_cGA2Int⟩
instance Try.bd52:BdC Try.tb 52 [.nils,.nils,.nils,.nils,.nils] [(0,2),(2,1),(3,1),(4,1)]:=⟨bdT un52.h if52.h rfl (by kernel_rfl)⟩
instance Try.bd64:BdC Try.tb 64 [.int .i64 0,.int .i64 0] [(0,1),(1,1)]:=⟨bdT un64.h if64.h rfl (by kernel_rfl)⟩
instance Try.bd66:BdC Try.tb 66 [.int .i64 0,.int .i64 0,.nils] [(0,1),(1,1),(2,1)]:=⟨bdT un66.h if66.h rfl (by kernel_rfl)⟩
instance Try.bd97:BdC Try.tb 97 [.int .i64 0,.int .i64 0,.int .i64 0,.nils] [(0,1),(1,3)]:=⟨bdT un97.h if97.h rfl (by kernel_rfl)⟩
def trail_Heap_back_s1_K1  (l21:List Gcell) (l22:List Gchange):Option ((List Gcell)×(List Gchange)) :=
 some (l21,l22)
def trail_Heap_back_s1_L1 (p1:Int):Nat→(List Gcell)→(List Gchange)→Option ((List Gcell)×(List Gchange))
 | 0,_,_=>none
 | m1+1,l19,l20 =>
  cond (decide ((l20.length:Int) > p1))
   (bindO (idxO l20 (IntKind.i64.wrap ((l20.length:Int) - 1))) fun x24 =>
   bindO (idxO l19 x24.atx) fun x26 =>
   needO ((0:Int)≤(IntKind.i64.wrap ((l20.length:Int) - 1))∧(IntKind.i64.wrap ((l20.length:Int) - 1))≤((l20.length:Nat):Int)) (
   needO (((IntKind.i64.wrap ((l20.length:Int) - 1)).toNat)≤l20.length) (
   (trail_Heap_back_s1_L1 p1 m1) (l19.set (0+x24.atx.toNat) x24.old) (l20.take ((IntKind.i64.wrap ((l20.length:Int) - 1)).toNat)))))
   (trail_Heap_back_s1_K1 l19 l20)
def trail_Heap_back_s1 (n:Nat) (p1:Int) (p2:List GType) (p3:List GFeature) (p4:List Gcell) (p6:List Gchange) (p8:List Gmark):Option ((List Gcell)×(List Gchange)) :=
 trail_Heap_back_s1_L1 p1 n p4 p6
theorem trail_Heap_back_s1_0 (n:Nat) (p1:Int) (p2:List GType) (p3:List GFeature) (p4:List Gcell) (p6:List Gchange) (p8:List Gmark) (r:(List Gcell)×(List Gchange)) (hF:trail_Heap_back_s1 n p1 p2 p3 p4 p6 p8=some r):∀ t5 t7 t9:Nat,EvU Try.prog 18 [.ptr 0 0 0,.int .i64 p1] ⟨[(0,.row [.isl false (List.map cGType p2),.isl false (List.map cGFeature p3),.vl 1 t5 0 p4.length,.vl 2 t7 0 p6.length,.vl 3 t9 0 p8.length] 52),(1,.vec (List.map cGcell p4).flatten 66 3 t5),(2,.vec (List.map cGchange p6).flatten 97 4 t7),(3,.vec (List.map cGmark p8).flatten 64 2 t9)],4⟩ (fun u σ'=>∃ t:Nat→Nat,u = .tup []∧σ'=⟨[(0,.row [.isl false (List.map cGType p2),.isl false (List.map cGFeature p3),.vl 1 t5 0 r.1.length,.vl 2 t7 0 r.2.length,.vl 3 t9 0 p8.length] 52),(1,.vec (List.map cGcell r.1).flatten 66 3 t5),(2,.vec (List.map cGchange r.2).flatten 97 4 t7),(3,.vec (List.map cGmark p8).flatten 64 2 t9)],4⟩):=by
 unfold trail_Heap_back_s1 at hF
 intro t5 t7 t9
 refine bg2 47 fn18 ?_
 refine go ?_
 refine gS (l':=[(0,_),(1,_)]) ?_
 refine WPU.loopK (fun m tm σ=>∃ l19:List Gcell,∃ l20:List Gchange,trail_Heap_back_s1_L1 p1 m l19 l20=some r∧tm=fr 47 [(0,.ptr 0 0 0),(1,.i6 p1)]∧σ=⟨[(0,.row [.iM cGType p2,.iM cGFeature p3,.vl 1 t5 0 l19.length,.vl 2 t7 0 l20.length,.vl 3 t9 0 p8.length] 52),(1,.vec (List.map cGcell l19).flatten 66 3 t5),(2,.vec (List.map cGchange l20).flatten 97 4 t7),(3,.vec (List.map cGmark p8).flatten 64 2 t9)],4⟩) (fun tm σ=>∃ l21:List Gcell,∃ l22:List Gchange,trail_Heap_back_s1_K1 l21 l22=some r∧tm=fr 47 []∧σ=⟨[(0,.row [.iM cGType p2,.iM cGFeature p3,.vl 1 t5 0 l21.length,.vl 2 t7 0 l22.length,.vl 3 t9 0 p8.length] 52),(1,.vec (List.map cGcell l21).flatten 66 3 t5),(2,.vec (List.map cGchange l22).flatten 97 4 t7),(3,.vec (List.map cGmark p8).flatten 64 2 t9)],4⟩) n ⟨p4,p6,hF,rfl,rfl⟩ ?_ ?_
 rintro _ _ ⟨l21,l22,hF,rfl,rfl⟩
 unfold trail_Heap_back_s1_K1 at hF
 refine go ?_
 obtain rfl:=sI hF
 exact ⟨.inl rfl,[],res_n,.tup [],⟨[(0,.row [.iM cGType p2,.iM cGFeature p3,.vl 1 t5 0 l21.length,.vl 2 t7 0 l22.length,.vl 3 t9 0 p8.length] 52),(1,.vec (List.map cGcell l21).flatten 66 3 t5),(2,.vec (List.map cGchange l22).flatten 97 4 t7),(3,.vec (List.map cGmark p8).flatten 64 2 t9)],4⟩,NL,Gh.to (n1:=4) [] rfl rfl NL NL BUL.h BH.h,stF [],rfl,rfl⟩
 rintro (_|m1) _ _ ⟨l19,l20,hF,rfl,rfl⟩
 cases hF
 unfold trail_Heap_back_s1_L1 at hF
 refine go ?_
 refine RS.q (u:=.ptr 0 0 0) rfl (op_nc1 rfl rfl) ?_
 refine go ?_
 refine cF hF (fun h23 hF=>?_) (fun h23 hF=>?_)
 refine go ?_
 refine WPU.block ?_
 obtain ⟨x24,h25,hF⟩:=bindO_some hF
 refine go ?_
 refine WPU.drawE Try.tb_ok [(0,12),(1,12),(2,12),(3,12),(4,12),(5,12),(6,12),(7,12),(8,12),(9,12),(10,12),(11,12)] (by kernel_rfl) ?_
 refine gd ?_
 refine RD.q (u:=.ptr 0 0 0) rfl (op_nc1 rfl rfl) ?_
 refine gd ?_
 refine RD.q (u:=.ptr 0 0 0) rfl (op_nc1 rfl rfl) ?_
 refine gd ?_
 refine RD.q rfl (op_ia rfl rfl (ia_vl cGchange un49.h (sz_of if97.h) (by decide) len_cGchange (vo rfl) h25)) ?_
 refine RD.q (u:=.agg (cGchange x24)) rfl (ld_vec cGchange un97.h rfl (sz_of if97.h) len_cGchange rfl rfl h25 rfl) ?_
 refine RD.g ?_
 refine RD.gz ?_
 refine RD.done ⟨by kernel_rfl,⟨op_move rfl,⟨op_nc1 rfl rfl,⟨op_fa un52.h rfl (sz_of if49.h) rfl rfl rfl,⟨ld_one un49.h rfl rfl rfl rfl,⟨op_move rfl,⟨op_nc1 rfl rfl,⟨op_fa un52.h rfl (sz_of if49.h) rfl rfl rfl,⟨ld_one un49.h rfl rfl rfl rfl,⟨op_len rfl rfl rfl (len_vl un49.h rfl),⟨op_int rfl rfl (ix_sub _ _ _) rfl,⟨op_ia rfl rfl (ia_vl cGchange un49.h (sz_of if97.h) (by decide) len_cGchange (vo rfl) h25),⟨ld_vec cGchange un97.h rfl (sz_of if97.h) len_cGchange rfl rfl h25 rfl,trivial⟩⟩⟩⟩⟩⟩⟩⟩⟩⟩⟩⟩,?_⟩
 obtain ⟨x26,h27,hF⟩:=bindO_some hF
 refine gn ?_
 refine WPU.joinK (fun tm σ=>tm=fr 47 [(0,.ptr 0 0 0),(1,.i6 p1)]∧σ=⟨[(4,.row (cGchange x24) 97),(0,.row [.iM cGType p2,.iM cGFeature p3,.vl 1 t5 0 ((l19.set (0+x24.atx.toNat) x24.old).length),.vl 2 t7 0 l20.length,.vl 3 t9 0 p8.length] 52),(1,.vec (List.map cGcell (l19.set (0+x24.atx.toNat) x24.old)).flatten 66 3 t5),(2,.vec (List.map cGchange l20).flatten 97 4 t7),(3,.vec (List.map cGmark p8).flatten 64 2 t9)],5⟩) ?_ ?_
 rintro _ _ ⟨rfl,rfl⟩
 obtain ⟨h28,hF⟩:=needO_some hF
 obtain ⟨h29,hF⟩:=needO_some hF
 refine gn ?_
 refine WPU.joinK (fun tm σ=>tm=fr 47 [(0,.ptr 0 0 0),(1,.i6 p1)]∧σ=⟨[(4,.row (cGchange x24) 97),(0,.row [.iM cGType p2,.iM cGFeature p3,.vl 1 t5 0 ((l19.set (0+x24.atx.toNat) x24.old).length),.vl 2 t7 0 ((l20.take ((IntKind.i64.wrap ((l20.length:Int) - 1)).toNat)).length),.vl 3 t9 0 p8.length] 52),(1,.vec (List.map cGcell (l19.set (0+x24.atx.toNat) x24.old)).flatten 66 3 t5),(2,.vec (List.map cGchange (l20.take ((IntKind.i64.wrap ((l20.length:Int) - 1)).toNat))).flatten 97 4 t7),(3,.vec (List.map cGmark p8).flatten 64 2 t9)],5⟩) ?_ ?_
 rintro _ _ ⟨rfl,rfl⟩
 refine go ?_
 exact lC ⟨(l19.set (0+x24.atx.toNat) x24.old),(l20.take ((IntKind.i64.wrap ((l20.length:Int) - 1)).toNat)),hF,rfl,rfl⟩
 refine WPU.drawE Try.tb_ok [] (by kernel_rfl) ?_
 refine gd ?_
 refine RD.q (u:=.ptr 0 0 0) rfl (op_nc1 rfl rfl) ?_
 refine gd ?_
 refine RD.q (u:=.ptr 0 0 0) rfl (op_nc1 rfl rfl) ?_
 refine gd ?_
 refine RD.q (u:=.vl 2 t7 0 ((IntKind.i64.wrap ((l20.length:Int) - 1)).toNat)) rfl (op_slice rfl em_n (em_s rfl) em_n (sl_vp cGchange un49.h (sz_of if97.h) len_cGchange (vo rfl) (Nat.le_of_eq (Nat.zero_add _)) (bnd_hi h28.1 h28.2))) (RD.q (u:=.ptr 0 0 0) rfl (op_nc1 rfl rfl) ?_)
 refine gd ?_
 refine RD.gz ?_
 refine RD.done ⟨by kernel_rfl,trivial,?_⟩
 refine go ?_
 exact ⟨_,_,⟨rfl,rfl⟩,NL,Gh.truncE (K:=2) cGchange len_cGchange rfl ((IntKind.i64.wrap ((l20.length:Int) - 1)).toNat) ⟨rfl,rfl,trivial⟩ (by first | (rw [List.length_take_of_le h29]<;>rfl) | rfl)⟩
 refine WPU.drawE Try.tb_ok [] (by kernel_rfl) ?_
 refine gd ?_
 refine RD.q (u:=.ptr 0 0 0) rfl (op_nc1 rfl rfl) ?_
 refine gd ?_
 refine RD.q (u:=.agg (cGcell x24.old)) rfl (ld_agg un66.h rfl (sz_of if66.h) rfl rfl (rfl)) ?_
 refine RD.q rfl (op_ia rfl rfl (ia_vl cGcell un48.h (sz_of if66.h) (by decide) len_cGcell (vo rfl) h27)) ?_
 refine RD.actn (u:=.junk) (σ':=⟨[(4,.row (cGchange x24) 97),(0,.row [.iM cGType p2,.iM cGFeature p3,.vl 1 t5 0 l19.length,.vl 2 t7 0 l20.length,.vl 3 t9 0 p8.length] 52),(1,.vec (List.map cGcell (l19.set (0+x24.atx.toNat) x24.old)).flatten 66 3 t5),(2,.vec (List.map cGchange l20).flatten 97 4 t7),(3,.vec (List.map cGmark p8).flatten 64 2 t9)],5⟩) rfl (st_vp cGcell (sz_of if66.h) len_cGcell rfl rfl rfl rfl rfl rfl rfl (idxO_V h27) rfl) rfl ?_
 refine RD.done ⟨by kernel_rfl,trivial,?_⟩
 refine go ?_
 exact ⟨_,_,⟨rfl,rfl⟩,NL,Gh.eqS ⟨rfl,rfl,trivial⟩ (by simp only [List.length_set])⟩
 refine go ?_
 exact xC ⟨l19,l20,hF,rfl,rfl⟩
def trail_Heap_Undo_s1 (n:Nat) (p1:Int) (p2:List GType) (p3:List GFeature) (p4:List Gcell) (p6:List Gchange) (p8:List Gmark):Option (Bool×(List Gcell)×(List Gchange)×(List Gmark)) :=
 bindO (cond (decide (p1<0))
  (some true)
  (some (decide (p1 ≥ (p8.length:Int))))) fun b11 =>
 cond b11
  (some (false,p4,p6,p8))
  (bindO (idxO p8 p1) fun x14 =>
  bindO (trail_Heap_back_s1 n x14.changes p2 p3 p4 p6 p8) fun r16 =>
  needO ((0:Int)≤x14.cells∧x14.cells≤((r16.1.length:Nat):Int)) (
  needO (x14.cells.toNat≤r16.1.length) (
  needO ((0:Int)≤(IntKind.i64.wrap (p1+1))∧(IntKind.i64.wrap (p1+1))≤((p8.length:Nat):Int)) (
  needO (((IntKind.i64.wrap (p1+1)).toNat)≤p8.length) (
  some (true,(r16.1.take x14.cells.toNat),r16.2,(p8.take ((IntKind.i64.wrap (p1+1)).toNat))))))))
theorem trail_Heap_Undo_s1_0 (n:Nat) (p1:Int) (p2:List GType) (p3:List GFeature) (p4:List Gcell) (p6:List Gchange) (p8:List Gmark) (r:Bool×(List Gcell)×(List Gchange)×(List Gmark)) (hF:trail_Heap_Undo_s1 n p1 p2 p3 p4 p6 p8=some r):∀ t5 t7 t9:Nat,EvU Try.prog 11 [.ptr 0 0 0,.int .i64 p1] ⟨[(0,.row [.isl false (List.map cGType p2),.isl false (List.map cGFeature p3),.vl 1 t5 0 p4.length,.vl 2 t7 0 p6.length,.vl 3 t9 0 p8.length] 52),(1,.vec (List.map cGcell p4).flatten 66 3 t5),(2,.vec (List.map cGchange p6).flatten 97 4 t7),(3,.vec (List.map cGmark p8).flatten 64 2 t9)],4⟩ (fun u σ'=>∃ t:Nat→Nat,u = .bool r.1∧σ'=⟨[(0,.row [.isl false (List.map cGType p2),.isl false (List.map cGFeature p3),.vl 1 t5 0 r.2.1.length,.vl 2 t7 0 r.2.2.1.length,.vl 3 t9 0 r.2.2.2.length] 52),(1,.vec (List.map cGcell r.2.1).flatten 66 3 t5),(2,.vec (List.map cGchange r.2.2.1).flatten 97 4 t7),(3,.vec (List.map cGmark r.2.2.2).flatten 64 2 t9)],4⟩):=by
 unfold trail_Heap_Undo_s1 at hF
 intro t5 t7 t9
 refine bg2 48 fn11 ?_
 obtain ⟨b11,h12,hF⟩:=bindO_some hF
 refine gr ?_
 refine WPU.joinK (fun tm σ=>tm=fr 48 [(0,.ptr 0 0 0),(1,.i6 p1),(16,.bool b11)]∧σ=⟨[(0,.row [.iM cGType p2,.iM cGFeature p3,.vl 1 t5 0 p4.length,.vl 2 t7 0 p6.length,.vl 3 t9 0 p8.length] 52),(1,.vec (List.map cGcell p4).flatten 66 3 t5),(2,.vec (List.map cGchange p6).flatten 97 4 t7),(3,.vec (List.map cGmark p8).flatten 64 2 t9)],4⟩) ?_ ?_
 rintro _ _ ⟨rfl,rfl⟩
 refine go ?_
 refine cF hF (fun h13 hF=>?_) (fun h13 hF=>?_)
 refine go ?_
 obtain rfl:=sI hF
 exact ⟨.inr rfl,[.bool false],res_t rfl (res_n),.bool false,⟨[(0,.row [.iM cGType p2,.iM cGFeature p3,.vl 1 t5 0 p4.length,.vl 2 t7 0 p6.length,.vl 3 t9 0 p8.length] 52),(1,.vec (List.map cGcell p4).flatten 66 3 t5),(2,.vec (List.map cGchange p6).flatten 97 4 t7),(3,.vec (List.map cGmark p8).flatten 64 2 t9)],4⟩,NL,Gh.to (n1:=4) [] rfl rfl NL NL BUL.h BH.h,stF [],rfl,rfl⟩
 obtain ⟨x14,h15,hF⟩:=bindO_some hF
 refine go ?_
 refine RS.q (u:=.ptr 0 0 0) rfl (op_nc1 rfl rfl) ?_
 refine go ?_
 refine RS.q rfl (op_ia rfl rfl (ia_vl cGmark un50.h (sz_of if64.h) (by decide) len_cGmark (vo rfl) h15)) ?_
 refine RS.q (u:=.agg (cGmark x14)) rfl (ld_vec cGmark un64.h rfl (sz_of if64.h) len_cGmark rfl rfl h15 rfl) ?_
 obtain ⟨r16,h17,hF⟩:=bindO_some hF
 refine go ?_
 refine RS.callx (R:=fun u σ'=>∃ t18:Nat→Nat,u = .tup []∧σ'=⟨[(4,.row (cGmark x14) 64),(0,.row [.iM cGType p2,.iM cGFeature p3,.vl 1 t5 0 r16.1.length,.vl 2 t7 0 r16.2.length,.vl 3 t9 0 p8.length] 52),(1,.vec (List.map cGcell r16.1).flatten 66 3 t5),(2,.vec (List.map cGchange r16.2).flatten 97 4 t7),(3,.vec (List.map cGmark p8).flatten 64 2 t9)],5⟩) (args:=[.ptr 0 0 0,.i6 x14.changes]) rfl (op_call rfl rfl fn18 hb18 rfl rfl) (EvU.st [0,1,2,3] (trail_Heap_back_s1_0 n x14.changes p2 p3 p4 p6 p8 r16 h17 t5 t7 t9)) rfl rfl ?_
 rintro _ _ ⟨t18,rfl,rfl⟩
 obtain ⟨h19,hF⟩:=needO_some hF
 obtain ⟨h20,hF⟩:=needO_some hF
 refine gn ?_
 refine WPU.joinK (fun tm σ=>tm=fr 48 [(0,.ptr 0 0 0),(1,.i6 p1)]∧σ=⟨[(4,.row (cGmark x14) 64),(0,.row [.iM cGType p2,.iM cGFeature p3,.vl 1 t5 0 ((r16.1.take x14.cells.toNat).length),.vl 2 t7 0 r16.2.length,.vl 3 t9 0 p8.length] 52),(1,.vec (List.map cGcell (r16.1.take x14.cells.toNat)).flatten 66 3 t5),(2,.vec (List.map cGchange r16.2).flatten 97 4 t7),(3,.vec (List.map cGmark p8).flatten 64 2 t9)],5⟩) ?_ ?_
 rintro _ _ ⟨rfl,rfl⟩
 obtain ⟨h21,hF⟩:=needO_some hF
 obtain ⟨h22,hF⟩:=needO_some hF
 refine gn ?_
 refine WPU.joinK (fun tm σ=>tm=fr 48 []∧σ=⟨[(4,.row (cGmark x14) 64),(0,.row [.iM cGType p2,.iM cGFeature p3,.vl 1 t5 0 ((r16.1.take x14.cells.toNat).length),.vl 2 t7 0 r16.2.length,.vl 3 t9 0 ((p8.take ((IntKind.i64.wrap (p1+1)).toNat)).length)] 52),(1,.vec (List.map cGcell (r16.1.take x14.cells.toNat)).flatten 66 3 t5),(2,.vec (List.map cGchange r16.2).flatten 97 4 t7),(3,.vec (List.map cGmark (p8.take ((IntKind.i64.wrap (p1+1)).toNat))).flatten 64 2 t9)],5⟩) ?_ ?_
 rintro _ _ ⟨rfl,rfl⟩
 refine go ?_
 obtain rfl:=sI hF
 exact ⟨.inr rfl,[.bool true],res_t rfl (res_n),.bool true,⟨[(0,.row [.iM cGType p2,.iM cGFeature p3,.vl 1 t5 0 ((r16.1.take x14.cells.toNat).length),.vl 2 t7 0 r16.2.length,.vl 3 t9 0 ((p8.take ((IntKind.i64.wrap (p1+1)).toNat)).length)] 52),(1,.vec (List.map cGcell (r16.1.take x14.cells.toNat)).flatten 66 3 t5),(2,.vec (List.map cGchange r16.2).flatten 97 4 t7),(3,.vec (List.map cGmark (p8.take ((IntKind.i64.wrap (p1+1)).toNat))).flatten 64 2 t9)],4⟩,NL,Gh.to (n1:=4) [] rfl rfl NL NL BUL.h BH.h,stF [],rfl,rfl⟩
 refine go ?_
 refine RS.q (u:=.ptr 0 0 0) rfl (op_nc1 rfl rfl) ?_
 refine go ?_
 refine RS.q (u:=.vl 3 t9 0 ((IntKind.i64.wrap (p1+1)).toNat)) rfl (op_slice rfl em_n (em_s rfl) em_n (sl_vp cGmark un50.h (sz_of if64.h) len_cGmark (vo rfl) (Nat.le_of_eq (Nat.zero_add _)) (bnd_hi h21.1 h21.2))) (RS.q (u:=.ptr 0 0 0) rfl (op_nc1 rfl rfl) ?_)
 refine go ?_
 exact ⟨_,_,⟨rfl,rfl⟩,NL,Gh.truncE (K:=3) cGmark len_cGmark rfl ((IntKind.i64.wrap (p1+1)).toNat) trivial (by first | (rw [List.length_take_of_le h22]<;>rfl) | rfl)⟩
 refine WPU.drawE Try.tb_ok [] (by kernel_rfl) ?_
 refine gd ?_
 refine RD.q (u:=.ptr 0 0 0) rfl (op_nc1 rfl rfl) ?_
 refine gd ?_
 refine RD.q (u:=.vl 1 t5 0 x14.cells.toNat) rfl (op_slice rfl em_n (em_s rfl) em_n (sl_vp cGcell un48.h (sz_of if66.h) len_cGcell (vo rfl) (Nat.le_of_eq (Nat.zero_add _)) (bnd_hi h19.1 h19.2))) (RD.q (u:=.ptr 0 0 0) rfl (op_nc1 rfl rfl) ?_)
 refine gd ?_
 refine RD.gz ?_
 refine RD.done ⟨by kernel_rfl,trivial,?_⟩
 refine go ?_
 exact ⟨_,_,⟨rfl,rfl⟩,NL,Gh.truncE (K:=1) cGcell len_cGcell rfl x14.cells.toNat ⟨rfl,rfl,trivial⟩ (by first | (rw [List.length_take_of_le h20]<;>rfl) | rfl)⟩
 rcases gB h12 with ⟨h10,h12⟩ | ⟨h10,h12⟩
 exact gy h12
 obtain rfl:=sI h12
 refine go ?_
 refine RS.w (u:=.ptr 0 0 0) rfl (op_nc1 rfl rfl) ?_
 refine go ?_
 exact xC ⟨rfl,rfl⟩
def trail_Heap_find_s1_K1  (z20:Int):Option (Int) :=
 some z20
def trail_Heap_find_s1_L1 (p4:List Gcell):Nat→Int→Option (Int)
 | 0,_=>none
 | m1+1,z19 =>
  bindO (idxO p4 z19) fun x21 =>
  cond (decide (x21.forward ≥ 0))
   (bindO (idxO p4 z19) fun x24 =>
   (trail_Heap_find_s1_L1 p4 m1) x24.forward)
   (trail_Heap_find_s1_K1 z19)
def trail_Heap_find_s1 (n:Nat) (p1:Int) (p2:List GType) (p3:List GFeature) (p4:List Gcell) (p6:List Gchange) (p8:List Gmark):Option (Int) :=
 trail_Heap_find_s1_L1 p4 n p1
theorem trail_Heap_find_s1_0 (n:Nat) (p1:Int) (p2:List GType) (p3:List GFeature) (p4:List Gcell) (p6:List Gchange) (p8:List Gmark) (r:Int) (hF:trail_Heap_find_s1 n p1 p2 p3 p4 p6 p8=some r):∀ t5 t7 t9:Nat,EvU Try.prog 20 [.ptr 0 0 0,.int .i64 p1] ⟨[(0,.row [.isl false (List.map cGType p2),.isl false (List.map cGFeature p3),.vl 1 t5 0 p4.length,.vl 2 t7 0 p6.length,.vl 3 t9 0 p8.length] 52),(1,.vec (List.map cGcell p4).flatten 66 3 t5),(2,.vec (List.map cGchange p6).flatten 97 4 t7),(3,.vec (List.map cGmark p8).flatten 64 2 t9)],4⟩ (fun u σ'=>∃ t:Nat→Nat,u = .int .i64 r∧σ'=⟨[(0,.row [.isl false (List.map cGType p2),.isl false (List.map cGFeature p3),.vl 1 t5 0 p4.length,.vl 2 t7 0 p6.length,.vl 3 t9 0 p8.length] 52),(1,.vec (List.map cGcell p4).flatten 66 3 t5),(2,.vec (List.map cGchange p6).flatten 97 4 t7),(3,.vec (List.map cGmark p8).flatten 64 2 t9)],4⟩):=by
 unfold trail_Heap_find_s1 at hF
 intro t5 t7 t9
 refine bg2 23 fn20 ?_
 refine go ?_
 refine gS (l':=[(0,_),(1,_)]) ?_
 refine WPU.loopK (fun m tm σ=>∃ z19:Int,trail_Heap_find_s1_L1 p4 m z19=some r∧tm=fr 23 [(0,.ptr 0 0 0),(1,.i6 z19)]∧σ=⟨[(0,.row [.iM cGType p2,.iM cGFeature p3,.vl 1 t5 0 p4.length,.vl 2 t7 0 p6.length,.vl 3 t9 0 p8.length] 52),(1,.vec (List.map cGcell p4).flatten 66 3 t5),(2,.vec (List.map cGchange p6).flatten 97 4 t7),(3,.vec (List.map cGmark p8).flatten 64 2 t9)],4⟩) (fun tm σ=>∃ z20:Int,trail_Heap_find_s1_K1 z20=some r∧tm=fr 23 [(1,.i6 z20)]∧σ=⟨[(0,.row [.iM cGType p2,.iM cGFeature p3,.vl 1 t5 0 p4.length,.vl 2 t7 0 p6.length,.vl 3 t9 0 p8.length] 52),(1,.vec (List.map cGcell p4).flatten 66 3 t5),(2,.vec (List.map cGchange p6).flatten 97 4 t7),(3,.vec (List.map cGmark p8).flatten 64 2 t9)],4⟩) n ⟨p1,hF,rfl,rfl⟩ ?_ ?_
 rintro _ _ ⟨z20,hF,rfl,rfl⟩
 unfold trail_Heap_find_s1_K1 at hF
 refine go ?_
 obtain rfl:=sI hF
 exact ⟨.inr rfl,[.i6 z20],res_t rfl (res_n),.i6 z20,⟨[(0,.row [.iM cGType p2,.iM cGFeature p3,.vl 1 t5 0 p4.length,.vl 2 t7 0 p6.length,.vl 3 t9 0 p8.length] 52),(1,.vec (List.map cGcell p4).flatten 66 3 t5),(2,.vec (List.map cGchange p6).flatten 97 4 t7),(3,.vec (List.map cGmark p8).flatten 64 2 t9)],4⟩,NL,Gh.to (n1:=4) [] rfl rfl NL NL BUL.h BH.h,stF [],rfl,rfl⟩
 rintro (_|m1) _ _ ⟨z19,hF,rfl,rfl⟩
 cases hF
 unfold trail_Heap_find_s1_L1 at hF
 obtain ⟨x21,h22,hF⟩:=bindO_some hF
 refine go ?_
 refine RS.q (u:=.ptr 0 0 0) rfl (op_nc1 rfl rfl) ?_
 refine go ?_
 refine RS.q rfl (op_ia rfl rfl (ia_vl cGcell un48.h (sz_of if66.h) (by decide) len_cGcell (vo rfl) h22)) ?_
 refine RS.q rfl (op_fa un66.h rfl (sz_of if3.h) rfl (live_v rfl) rfl) (RS.q (u:=.i6 x21.forward) rfl (ld_vf cGcell un3.h rfl len_cGcell rfl rfl (idxO_V h22) rfl) ?_)
 refine go ?_
 refine cF hF (fun h23 hF=>?_) (fun h23 hF=>?_)
 refine go ?_
 refine WPU.block ?_
 obtain ⟨x24,h25,hF⟩:=bindO_some hF
 refine go ?_
 refine RS.q (u:=.ptr 0 0 0) rfl (op_nc1 rfl rfl) ?_
 refine go ?_
 refine RS.q rfl (op_ia rfl rfl (ia_vl cGcell un48.h (sz_of if66.h) (by decide) len_cGcell (vo rfl) h25)) ?_
 refine RS.q rfl (op_fa un66.h rfl (sz_of if3.h) rfl (live_v rfl) rfl) (RS.q (u:=.i6 x24.forward) rfl (ld_vf cGcell un3.h rfl len_cGcell rfl rfl (idxO_V h25) rfl) ?_)
 refine go ?_
 exact lC ⟨x24.forward,hF,rfl,rfl⟩
 refine go ?_
 exact xC ⟨z19,hF,rfl,rfl⟩
def bits_normal_K1 (p1:List Int) (z5:Int):Option ((List Int)) :=
 bindO (cutO p1 0 z5) fun l6 =>
 some l6
def bits_normal_L1 (p1:List Int):Nat→Int→Option ((List Int))
 | 0,_=>none
 | m1+1,z4 =>
  bindO (cond (decide (z4 > 0))
   (bindO (idxO p1 (IntKind.i64.wrap (z4 - 1))) fun x11 =>
   some (x11 == 0))
   (some false)) fun b13 =>
  cond b13
   ((bits_normal_L1 p1 m1) (IntKind.i64.wrap (z4 - 1)))
   (bits_normal_K1 p1 z4)
def bits_normal (n:Nat) (p1:List Int):Option ((List Int)) :=
 bits_normal_L1 p1 n (p1.length:Int)
theorem bits_normal_0 (n:Nat) (p1:List Int) (r:(List Int)) (hF:bits_normal n p1=some r):EvU Try.prog 52 [.isl false (List.map (cI .u64) p1)] ⟨[],0⟩ (fun u _=>u = .isl false (List.map (cI .u64) r)∧Bel 0 u):=by
 unfold bits_normal at hF
 refine bg1 21 fn52 ?_
 refine go ?_
 refine gS (l':=[(0,_),(3,_)]) ?_
 refine WPU.loopK (fun m tm σ=>∃ z4:Int,bits_normal_L1 p1 m z4=some r∧tm=fr 21 [(0,.iM (cI .u64) p1),(3,.i6 z4)]∧σ=⟨[],0⟩) (fun tm σ=>∃ z5:Int,bits_normal_K1 p1 z5=some r∧tm=fr 21 [(0,.iM (cI .u64) p1),(3,.i6 z5)]∧σ=⟨[],0⟩) n ⟨(p1.length:Int),hF,rfl,rfl⟩ ?_ ?_
 rintro _ _ ⟨z5,hF,rfl,rfl⟩
 unfold bits_normal_K1 at hF
 obtain ⟨l6,h7,hF⟩:=bindO_some hF
 obtain ⟨h8,h9⟩:=cut_hi (cI .u64) .i64 h7
 refine go ?_
 refine RS.q (u:=.iM (cI .u64) l6) rfl (op_slice rfl em_n (em_s rfl) em_n (sl_isl (cI .u64) un87.h (sz_of if125.h) (len_cI .u64) h8 h9)) ?_
 exact gx hF
 rintro (_|m1) _ _ ⟨z4,hF,rfl,rfl⟩
 cases hF
 unfold bits_normal_L1 at hF
 obtain ⟨b13,h14,hF⟩:=bindO_some hF
 refine gn ?_
 refine WPU.joinK (fun tm σ=>tm=fr 21 [(0,.iM (cI .u64) p1),(3,.i6 z4),(15,.bool b13)]∧σ=⟨[],0⟩) ?_ ?_
 rintro _ _ ⟨rfl,rfl⟩
 refine go ?_
 refine cF hF (fun h15 hF=>?_) (fun h15 hF=>?_)
 refine go ?_
 refine WPU.block ?_
 refine go ?_
 exact lC ⟨_,hF,rfl,rfl⟩
 refine go ?_
 exact xC ⟨z4,hF,rfl,rfl⟩
 rcases gB h14 with ⟨h10,h14⟩ | ⟨h10,h14⟩
 obtain ⟨x11,h12,h14⟩:=bindO_some h14
 obtain rfl:=sI h14
 refine go ?_
 refine RS.ix h12 ?_
 refine go ?_
 exact xC ⟨rfl,rfl⟩
 exact gy h14
def bits_And_K1 (p1:List Int) (p2:List Int) (n:Nat) (l11:List Int):Option ((List Int)) :=
 needO ((if (p2.length:Int)<(p1.length:Int) then (p2.length:Int) else (p1.length:Int)).toNat=l11.length) (
 bindO (bits_normal n l11) fun r13 =>
 some r13)
def bits_And_L1 (p1:List Int) (p2:List Int) (n:Nat):Nat→Int→(List Int)→Option ((List Int))
 | 0,_,_=>none
 | m1+1,z9,l10 =>
  cond (decide (z9<(((if (p2.length:Int)<(p1.length:Int) then (p2.length:Int) else (p1.length:Int)).toNat:Nat):Int)))
   (bindO (idxO p1 z9) fun x16 =>
   bindO (idxO p2 z9) fun x18 =>
   bindO (idxV l10 0 ((if (p2.length:Int)<(p1.length:Int) then (p2.length:Int) else (p1.length:Int)).toNat) z9) fun x20 =>
   (bits_And_L1 p1 p2 n m1) (IntKind.i64.wrap (z9+1)) (l10.set z9.toNat (andI .u64 x16 x18)))
   (bits_And_K1 p1 p2 n l10)
def bits_And (n:Nat) (p1:List Int) (p2:List Int):Option ((List Int)) :=
 needO (0≤(if (p2.length:Int)<(p1.length:Int) then (p2.length:Int) else (p1.length:Int))∧8*(if (p2.length:Int)<(p1.length:Int) then (p2.length:Int) else (p1.length:Int)).toNat≤281474976710656∧(if (p2.length:Int)<(p1.length:Int) then (p2.length:Int) else (p1.length:Int))≤281474976710656) (
 bits_And_L1 p1 p2 n n 0 (List.replicate (if (p2.length:Int)<(p1.length:Int) then (p2.length:Int) else (p1.length:Int)).toNat 0))
theorem bits_And_0 (n:Nat) (p1:List Int) (p2:List Int) (r:(List Int)) (hF:bits_And n p1 p2=some r):EvU Try.prog 30 [.isl false (List.map (cI .u64) p1),.isl false (List.map (cI .u64) p2)] ⟨[],0⟩ (fun u _=>u = .isl false (List.map (cI .u64) r)∧Bel 0 u):=by
 unfold bits_And at hF
 refine bg2 33 fn30 ?_
 obtain ⟨h3,hF⟩:=needO_some hF
 refine go ?_
 refine RS.q (u:=.i6 (if (p2.length:Int)<(p1.length:Int) then (p2.length:Int) else (p1.length:Int))) rfl (op_min rfl rfl rfl rfl rfl rfl rfl) (RS.q (u:=.sl 0 0 ((if (p2.length:Int)<(p1.length:Int) then (p2.length:Int) else (p1.length:Int)).toNat) ((if (p2.length:Int)<(p1.length:Int) then (p2.length:Int) else (p1.length:Int)).toNat)) (σ':=⟨[(0,.row (List.map (cI .u64) (List.replicate (if (p2.length:Int)<(p1.length:Int) then (p2.length:Int) else (p1.length:Int)).toNat 0)).flatten 125)],1⟩) rfl (op_mks (cI .u64) 0 rfl rfl un87.h if125.h rfl rfl rfl rfl h3) ?_)
 refine go ?_
 refine RS.q rfl (op_len rfl rfl rfl (len_sl un87.h rfl)) ?_
 refine go ?_
 refine gS (l':=[(0,_),(1,_),(5,_),(14,_),(15,_)]) ?_
 refine WPU.loopK (fun m tm σ=>∃ z9:Int,∃ l10:List Int,bits_And_L1 p1 p2 n m z9 l10=some r∧tm=fr 33 [(0,.iM (cI .u64) p1),(1,.iM (cI .u64) p2),(5,.sl 0 0 ((if (p2.length:Int)<(p1.length:Int) then (p2.length:Int) else (p1.length:Int)).toNat) ((if (p2.length:Int)<(p1.length:Int) then (p2.length:Int) else (p1.length:Int)).toNat)),(14,.i6 (((if (p2.length:Int)<(p1.length:Int) then (p2.length:Int) else (p1.length:Int)).toNat:Nat):Int)),(15,.i6 z9)]∧σ=⟨[(0,.row (List.map (cI .u64) l10).flatten 125)],1⟩) (fun tm σ=>∃ l11:List Int,bits_And_K1 p1 p2 n l11=some r∧tm=fr 33 [(5,.sl 0 0 ((if (p2.length:Int)<(p1.length:Int) then (p2.length:Int) else (p1.length:Int)).toNat) ((if (p2.length:Int)<(p1.length:Int) then (p2.length:Int) else (p1.length:Int)).toNat))]∧σ=⟨[(0,.row (List.map (cI .u64) l11).flatten 125)],1⟩) n ⟨0,(List.replicate (if (p2.length:Int)<(p1.length:Int) then (p2.length:Int) else (p1.length:Int)).toNat 0),hF,rfl,rfl⟩ ?_ ?_
 rintro _ _ ⟨l11,hF,rfl,rfl⟩
 unfold bits_And_K1 at hF
 obtain ⟨h12,hF⟩:=needO_some hF
 refine gn ?_
 refine WPU.ghost (tm':=fr 33 [(5,.iM (cI .u64) l11)]) (σ':=⟨[],1⟩) (Gh.trans (Gh.sub (l':=[(5,.sl 0 0 ((if (p2.length:Int)<(p1.length:Int) then (p2.length:Int) else (p1.length:Int)).toNat) ((if (p2.length:Int)<(p1.length:Int) then (p2.length:Int) else (p1.length:Int)).toNat))]) ⟨rfl,trivial⟩) (Gh.fzS (l':=[(5,.iM (cI .u64) l11)]) (h':=[]) 0 (.row (List.map (cI .u64) l11).flatten 125) 1 rfl (by simp) (by simp only [fzS,oneU,fzL_nil,fzL_cons,fz_int,fz_bool,fz_str,fz_nils,fz_nilp,fz_nilm,fz_nilf,fz_junk,fz_isl,fz_map,fz_agg,fz_tup,fz_fn,junkT,fz_rl (len_cI .u64) h12]) (by simp only [fzH,fzB,ug,Nat.beq,cond_true,cond_false,oneU,fzL_nil,fzL_cons,fz_int,fz_bool,fz_str,fz_nils,fz_nilp,fz_nilm,fz_nilf,fz_junk,fz_isl,fz_map,fz_agg,fz_tup,fz_fn,junkT,fz_rl (len_cI .u64) h12]))) NZ ?_
 obtain ⟨r13,h14,hF⟩:=bindO_some hF
 refine go ?_
 refine RS.cl rfl (pC (bits_normal_0 n l11 r13 h14) _) fn52 ?_
 exact gx hF
 rintro (_|m1) _ _ ⟨z9,l10,hF,rfl,rfl⟩
 cases hF
 unfold bits_And_L1 at hF
 refine go ?_
 refine cF hF (fun h15 hF=>?_) (fun h15 hF=>?_)
 refine go ?_
 refine WPU.block ?_
 obtain ⟨x16,h17,hF⟩:=bindO_some hF
 obtain ⟨x18,h19,hF⟩:=bindO_some hF
 obtain ⟨x20,h21,hF⟩:=bindO_some hF
 refine go ?_
 refine WPU.drawE Try.tb_ok [] (by kernel_rfl) ?_
 refine gd ?_
 refine RD.ix h17 ?_
 refine gd ?_
 refine RD.ix h19 ?_
 refine gd ?_
 refine RD.q rfl (op_int rfl rfl (ix_and _ _ _) rfl) (RD.q rfl (op_ia rfl rfl (ia_rl un87.h (sz_of if125.h) rfl h21)) (RD.actn (u:=.junk) (σ':=⟨[(0,.row (List.map (cI .u64) (l10.set z9.toNat (andI .u64 x16 x18))).flatten 125)],1⟩) rfl (st_rl (cI .u64) (sz_of if125.h) (len_cI .u64) rfl rfl rfl rfl rfl rfl h21 rfl) rfl ?_))
 refine RD.done ⟨by kernel_rfl,trivial,?_⟩
 refine go ?_
 exact lC ⟨_,(l10.set z9.toNat (andI .u64 x16 x18)),hF,rfl,rfl⟩
 refine go ?_
 exact xC ⟨l10,hF,rfl,rfl⟩
def slices_IndexFunc_Type_Meet_1_K1   : Option (Int) :=
 some (-1)
def slices_IndexFunc_Type_Meet_1_L1 (p1:List GType) (c2:List Int) (f1:GType→(List Int)→Option (Bool)):Nat→Int→Option (Int)
 | 0,_=>none
 | m1+1,z6 =>
  cond (decide (z6<(p1.length:Int)))
   (bindO (idxO p1 z6) fun x8 =>
   bindO (f1 x8 c2) fun r10 =>
   cond r10
    (some z6)
    ((slices_IndexFunc_Type_Meet_1_L1 p1 c2 f1 m1) (IntKind.i64.wrap (z6+1))))
   (slices_IndexFunc_Type_Meet_1_K1)
def slices_IndexFunc_Type_Meet_1 (f1:GType→(List Int)→Option (Bool)) (n:Nat) (p1:List GType) (c2:List Int):Option (Int) :=
 slices_IndexFunc_Type_Meet_1_L1 p1 c2 f1 n 0
theorem slices_IndexFunc_Type_Meet_1_0 (f1:GType→(List Int)→Option (Bool)) (hf1:∀ (a0:GType) (a1:List Int) (r:Bool),f1 a0 a1=some r→EvU Try.prog 32 [.agg (cGType a0),.iptr [.isl false (List.map (cI .u64) a1)]] ⟨[],0⟩ (fun u _=>u = .bool r∧Bel 0 u)) (n:Nat) (p1:List GType) (c2:List Int) (r:Int) (hF:slices_IndexFunc_Type_Meet_1 f1 n p1 c2=some r):EvU Try.prog 31 [.isl false (List.map cGType p1),.fn (.func 32) [] [.iptr [.isl false (List.map (cI .u64) c2)]]] ⟨[],0⟩ (fun u _=>u = .int .i64 r∧Bel 0 u):=by
 unfold slices_IndexFunc_Type_Meet_1 at hF
 have hf1S:∀ (a0:GType) (a1:List Int) (r:Bool),f1 a0 a1=some r→∀ σ,EvU Try.prog 32 [.agg (cGType a0),.iptr [.iM (cI .u64) a1]] σ (fun u σ'=>u = .bool r∧σ'=σ):=fun a0 a1 r h σ=>EvU.pure1C (hf1 a0 a1 r h) σ
 refine bg2 19 fn31 ?_
 refine go ?_
 refine gS (l':=[(0,_),(1,_),(7,_),(8,_)]) ?_
 refine WPU.loopK (fun m tm σ=>∃ z6:Int,slices_IndexFunc_Type_Meet_1_L1 p1 c2 f1 m z6=some r∧tm=fr 19 [(0,.iM cGType p1),(1,.fn (.func 32) [] [.iptr [.iM (cI .u64) c2]]),(7,.i6 (p1.length:Int)),(8,.i6 z6)]∧σ=⟨[],0⟩) (fun tm σ=>slices_IndexFunc_Type_Meet_1_K1=some r∧tm=fr 19 []∧σ=⟨[],0⟩) n ⟨0,hF,rfl,rfl⟩ ?_ ?_
 rintro _ _ ⟨hF,rfl,rfl⟩
 unfold slices_IndexFunc_Type_Meet_1_K1 at hF
 exact gx hF
 rintro (_|m1) _ _ ⟨z6,hF,rfl,rfl⟩
 cases hF
 unfold slices_IndexFunc_Type_Meet_1_L1 at hF
 refine go ?_
 refine cF hF (fun h7 hF=>?_) (fun h7 hF=>?_)
 refine go ?_
 refine WPU.block ?_
 obtain ⟨x8,h9,hF⟩:=bindO_some hF
 obtain ⟨r10,h11,hF⟩:=bindO_some hF
 refine go ?_
 refine RS.ix h9 ?_
 refine go ?_
 refine RS.call (u:=.bool r10) (args:=[.agg (cGType x8),.iptr [.iM (cI .u64) c2]]) rfl (op_call rfl rfl fn32 hb32 rfl (rfl)) (hf1S x8 c2 r10 h11 _) rfl rfl ?_
 refine go ?_
 refine cF hF (fun h12 hF=>?_) (fun h12 hF=>?_)
 exact gx hF
 refine go ?_
 exact lC ⟨_,hF,rfl,rfl⟩
 refine go ?_
 exact xC ⟨hF,rfl,rfl⟩
def bits_word (n:Nat) (p1:List Int) (p2:Int):Option (Int) :=
 cond (decide (p2<(p1.length:Int)))
  (bindO (idxO p1 p2) fun x4 =>
  some x4)
  (some 0)
theorem bits_word_0 (n:Nat) (p1:List Int) (p2:Int) (r:Int) (hF:bits_word n p1 p2=some r):EvU Try.prog 75 [.isl false (List.map (cI .u64) p1),.int .i64 p2] ⟨[],0⟩ (fun u _=>u = .int .u64 r∧Bel 0 u):=by
 unfold bits_word at hF
 refine bg2 13 fn75 ?_
 refine go ?_
 refine cF hF (fun h3 hF=>?_) (fun h3 hF=>?_)
 obtain ⟨x4,h5,hF⟩:=bindO_some hF
 refine go ?_
 refine RS.ix h5 ?_
 exact gx hF
 exact gx hF
def bits_Subset_K1   : Option (Bool) :=
 some true
def bits_Subset_L1 (p1:List Int) (p2:List Int) (n:Nat):Nat→Int→Option (Bool)
 | 0,_=>none
 | m1+1,z7 =>
  cond (decide (z7<(p1.length:Int)))
   (bindO (idxO p1 z7) fun x9 =>
   bindO (bits_word n p2 z7) fun r11 =>
   cond ((andNotI .u64 x9 r11) != 0)
    (some false)
    ((bits_Subset_L1 p1 p2 n m1) (IntKind.i64.wrap (z7+1))))
   (bits_Subset_K1)
def bits_Subset (n:Nat) (p1:List Int) (p2:List Int):Option (Bool) :=
 bits_Subset_L1 p1 p2 n n 0
theorem bits_Subset_0 (n:Nat) (p1:List Int) (p2:List Int) (r:Bool) (hF:bits_Subset n p1 p2=some r):EvU Try.prog 53 [.isl false (List.map (cI .u64) p1),.isl false (List.map (cI .u64) p2)] ⟨[],0⟩ (fun u _=>u = .bool r∧Bel 0 u):=by
 unfold bits_Subset at hF
 refine bg2 21 fn53 ?_
 refine go ?_
 refine gS (l':=[(1,_),(7,_),(8,_),(9,_)]) ?_
 refine WPU.loopK (fun m tm σ=>∃ z7:Int,bits_Subset_L1 p1 p2 n m z7=some r∧tm=fr 21 [(1,.iM (cI .u64) p2),(7,.iM (cI .u64) p1),(8,.i6 (p1.length:Int)),(9,.i6 z7)]∧σ=⟨[],0⟩) (fun tm σ=>bits_Subset_K1=some r∧tm=fr 21 []∧σ=⟨[],0⟩) n ⟨0,hF,rfl,rfl⟩ ?_ ?_
 rintro _ _ ⟨hF,rfl,rfl⟩
 unfold bits_Subset_K1 at hF
 exact gx hF
 rintro (_|m1) _ _ ⟨z7,hF,rfl,rfl⟩
 cases hF
 unfold bits_Subset_L1 at hF
 refine go ?_
 refine cF hF (fun h8 hF=>?_) (fun h8 hF=>?_)
 refine go ?_
 refine WPU.block ?_
 obtain ⟨x9,h10,hF⟩:=bindO_some hF
 refine go ?_
 refine RS.ix h10 ?_
 obtain ⟨r11,h12,hF⟩:=bindO_some hF
 refine go ?_
 refine RS.cl rfl (pC (bits_word_0 n p2 z7 r11 h12) _) fn75 (RS.q rfl (op_int rfl rfl (ix_andNot _ _ _) rfl) ?_)
 refine go ?_
 refine cF hF (fun h13 hF=>?_) (fun h13 hF=>?_)
 exact gx hF
 refine go ?_
 exact lC ⟨_,hF,rfl,rfl⟩
 refine go ?_
 exact xC ⟨hF,rfl,rfl⟩
def bits_Equal (n:Nat) (p1:List Int) (p2:List Int):Option (Bool) :=
 bindO (bindO (bits_Subset n p1 p2) fun r3 =>
 cond r3
  (bindO (bits_Subset n p2 p1) fun r6 =>
  some r6)
  (some false)) fun b8 =>
 some b8
theorem bits_Equal_0 (n:Nat) (p1:List Int) (p2:List Int) (r:Bool) (hF:bits_Equal n p1 p2=some r):EvU Try.prog 33 [.isl false (List.map (cI .u64) p1),.isl false (List.map (cI .u64) p2)] ⟨[],0⟩ (fun u _=>u = .bool r∧Bel 0 u):=by
 unfold bits_Equal at hF
 refine bg2 13 fn33 ?_
 obtain ⟨b8,h9,hF⟩:=bindO_some hF
 refine gr ?_
 refine WPU.joinK (fun tm σ=>tm=fr 13 [(4,.bool b8)]∧σ=⟨[],0⟩) ?_ ?_
 rintro _ _ ⟨rfl,rfl⟩
 exact gx hF
 obtain ⟨r3,h4,h9⟩:=bindO_some h9
 rcases gB h9 with ⟨h5,h9⟩ | ⟨h5,h9⟩
 obtain ⟨r6,h7,h9⟩:=bindO_some h9
 obtain rfl:=sI h9
 refine go ?_
 refine RS.cl rfl (pC (bits_Subset_0 n p1 p2 r3 h4) _) fn53 ?_
 refine go ?_
 refine RS.cl rfl (pC (bits_Subset_0 n p2 p1 r6 h7) _) fn53 ?_
 refine go ?_
 exact xC ⟨rfl,rfl⟩
 obtain rfl:=sI h9
 refine go ?_
 refine RS.cl rfl (pC (bits_Subset_0 n p1 p2 r3 h4) _) fn53 ?_
 refine go ?_
 exact xC ⟨rfl,rfl⟩
def hier_Meet_1 (n:Nat) (p1:GType) (c2:List Int):Option (Bool) :=
 bindO (bits_Equal n p1.Code c2) fun r3 =>
 some r3
theorem hier_Meet_1_0 (n:Nat) (p1:GType) (c2:List Int) (r:Bool) (hF:hier_Meet_1 n p1 c2=some r):EvU Try.prog 32 [.agg (cGType p1),.iptr [.isl false (List.map (cI .u64) c2)]] ⟨[],0⟩ (fun u _=>u = .bool r∧Bel 0 u):=by
 unfold hier_Meet_1 at hF
 refine bg2 8 fn32 ?_
 obtain ⟨r3,h4,hF⟩:=bindO_some hF
 refine go ?_
 refine RS.cl rfl (pC (bits_Equal_0 n p1.Code c2 r3 h4) _) fn33 ?_
 exact gx hF
def hier_Meet (n:Nat) (p1:GHierarchy) (p2:Int) (p3:Int):Option (Int×Bool) :=
 bindO (idxO p1.Types p2) fun x4 =>
 bindO (idxO p1.Types p3) fun x6 =>
 bindO (bits_And n x4.Code x6.Code) fun r8 =>
 cond ((r8.length:Int) == 0)
  (some (0,false))
  (bindO (slices_IndexFunc_Type_Meet_1 (hier_Meet_1 n) n p1.Types r8) fun r11 =>
  cond (decide (r11<0))
   (some (0,false))
   (some (r11,true)))
theorem hier_Meet_0 (n:Nat) (p1:GHierarchy) (p2:Int) (p3:Int) (r:Int×Bool) (hF:hier_Meet n p1 p2 p3=some r):EvU Try.prog 21 [.agg (cGHierarchy p1),.int .i64 p2,.int .i64 p3] ⟨[],0⟩ (fun u _=>u = .tup [.int .i64 r.1,.bool r.2]∧Bel 0 u):=by
 unfold hier_Meet at hF
 refine bg3 33 fn21 ?_
 obtain ⟨x4,h5,hF⟩:=bindO_some hF
 obtain ⟨x6,h7,hF⟩:=bindO_some hF
 obtain ⟨r8,h9,hF⟩:=bindO_some hF
 refine go ?_
 refine WPU.drawE Try.tb_ok [(0,13),(1,13),(2,13),(3,13),(4,13),(5,13),(6,13),(7,13),(8,13),(9,13),(10,13),(11,13)] (by kernel_rfl) ?_
 refine gd ?_
 refine RD.ix h5 ?_
 refine gd ?_
 refine RD.ix h7 ?_
 refine gd ?_
 refine RD.fl rfl (pC (bits_And_0 n x4.Code x6.Code r8 h9)) fn30 ?_
 refine RD.g ?_
 refine RD.gz ?_
 refine RD.done ⟨by kernel_rfl,⟨op_fa un29.h rfl (sz_of if26.h) rfl rfl rfl,⟨ld_one un26.h rfl rfl rfl rfl,⟨op_move rfl,⟨op_ia rfl rfl (ia_isl cGType un26.h (sz_of if93.h) len_cGType h5 rfl),⟨op_fi un93.h rfl (sz_of if87.h) rfl rfl,⟨li_one un87.h rfl rfl rfl,⟨op_fa un29.h rfl (sz_of if26.h) rfl rfl rfl,⟨ld_one un26.h rfl rfl rfl rfl,⟨op_move rfl,⟨op_ia rfl rfl (ia_isl cGType un26.h (sz_of if93.h) len_cGType h7 rfl),⟨op_fi un93.h rfl (sz_of if87.h) rfl rfl,⟨li_one un87.h rfl rfl rfl,trivial⟩⟩⟩⟩⟩⟩⟩⟩⟩⟩⟩⟩,?_⟩
 refine go ?_
 refine cF hF (fun h10 hF=>?_) (fun h10 hF=>?_)
 refine go ?_
 obtain rfl:=sI hF
 exact rt2 rfl rfl rfl rfl rfl
 obtain ⟨r11,h12,hF⟩:=bindO_some hF
 refine go ?_
 refine RS.q rfl (op_fun rfl rfl) (RS.cl rfl (vw (slices_IndexFunc_Type_Meet_1_0 (hier_Meet_1 n) (hier_Meet_1_0 n) n p1.Types r8 r11 h12) (Gh.fzC 1 1)) fn31 ?_)
 refine go ?_
 refine cF hF (fun h13 hF=>?_) (fun h13 hF=>?_)
 refine go ?_
 obtain rfl:=sI hF
 exact rt2 rfl rfl rfl rfl rfl
 refine go ?_
 obtain rfl:=sI hF
 exact rt2 rfl rfl rfl rfl rfl
def slices_Clone_Arc (n:Nat) (p1:List GArc):Option ((List GArc)) :=
 bothL p1 fun b2 =>
 cond b2
  (some ([]:List GArc))
  (needO (p1.length*16≤140737488355328∧p1.length≤140737488355328) (
  some p1))
theorem slices_Clone_Arc_0 (n:Nat) (p1:List GArc) (r:(List GArc)) (hF:slices_Clone_Arc n p1=some r):EvU Try.prog 34 [.isl false (List.map cGArc p1)] ⟨[],0⟩ (fun u σ'=>∃ t,u = .vl 1 t 0 r.length∧σ'=⟨[(1,.vec (List.map cGArc r).flatten 68 2 t)],1+1⟩):=by
 unfold slices_Clone_Arc at hF
 refine bg1 8 fn34 ?_
 refine go ?_
 refine RS.nilq rfl rfl un40.h rfl rfl rfl rfl ?_
 intro b2 h3
 replace hF:=bothL_some hF b2 fun h=>List.map_eq_nil_iff.1 (h3 h)
 refine go ?_
 refine cF hF (fun h4 hF=>?_) (fun h4 hF=>?_)
 refine go ?_
 obtain rfl:=sI hF
 exact ⟨.inr rfl,[.nils],res_t rfl res_n,.vl 1 0 0 0,⟨[(1,.vec (List.map cGArc ([]:List GArc)).flatten 68 2 0)],2⟩,NZ,Gh.trans (Gh.fresh (tm:=[.nils]) 68 2 (by decide) NZ) (Gh.trans (Gh.nilvec (tm:=[.nils]) 0 68 2 (by decide) NZ rfl) (Gh.trans (Gh.only (fun k=>Nat.beq k 1)) (Gh.to (n1:=2) [] rfl rfl NZ NL BUL.h BH.h))),0,rfl,rfl⟩
 obtain ⟨h5,hF⟩:=needO_some hF
 refine go ?_
 refine RS.q (u:=.sl 0 0 0 0) (σ':=⟨[(0,.row [] 68)],1⟩) rfl (op_bsl un40.h if68.h rfl rfl rfl rfl rfl rfl rfl) ?_
 refine go ?_
 refine RS.q (u:=.vl 1 0 0 p1.length) (σ':=⟨[(1,.vec (List.map cGArc p1).flatten 68 2 0),(0,.row [] 68)],2⟩) rfl (op_app rfl rfl rfl rfl (app_emp cGArc p1 un40.h un40.h if68.h rfl rfl rfl (src_isl cGArc len_cGArc) h5)) ?_
 refine go ?_
 obtain rfl:=sI hF
 exact ⟨.inr rfl,[.vl 1 0 0 p1.length],res_t rfl res_n,.vl 1 0 0 p1.length,⟨[(1,.vec (List.map cGArc p1).flatten 68 2 0)],2⟩,NZ,Gh.trans (Gh.only (fun k=>Nat.beq k 1)) (Gh.to (n1:=2) [] rfl rfl NZ NL BUL.h BH.h),0,rfl,rfl⟩
def slices_BinarySearchFunc_int_joined_1_J2 (rc1:Int→Int→Option (Int×Bool)) (z25:Int) (z26:Int):Option (Int×Bool) :=
 rc1 z25 z26
def slices_BinarySearchFunc_int_joined_1_K1 (p1:List GArc) (p2:Int) (f2:GArc→Int→Option (Int)) (z10:Int):Option (Int×Bool) :=
 bindO (cond (decide (z10<(p1.length:Int)))
  (bindO (idxO p1 z10) fun x12 =>
  bindO (f2 x12 p2) fun r14 =>
  some (r14 == 0))
  (some false)) fun b16 =>
 some (z10,b16)
def slices_BinarySearchFunc_int_joined_1_L1 (p1:List GArc) (p2:Int) (f2:GArc→Int→Option (Int)):Nat→Int→Int→Option (Int×Bool)
 | 0,_,_=>none
 | m1+1,z8,z9 =>
  cond (decide (z8<z9))
   (bindO (idxO p1 (IntKind.i64.wrap ((IntKind.u64.wrap (IntKind.i64.wrap (z8+z9))).fdiv (2 ^ (min (1:Int).toNat IntKind.u64.bits))))) fun x20 =>
   bindO (f2 x20 p2) fun r22 =>
   cond (decide (r22<0))
    (slices_BinarySearchFunc_int_joined_1_J2 (slices_BinarySearchFunc_int_joined_1_L1 p1 p2 f2 m1) (IntKind.i64.wrap ((IntKind.i64.wrap ((IntKind.u64.wrap (IntKind.i64.wrap (z8+z9))).fdiv (2 ^ (min (1:Int).toNat IntKind.u64.bits))))+1)) z9)
    (slices_BinarySearchFunc_int_joined_1_J2 (slices_BinarySearchFunc_int_joined_1_L1 p1 p2 f2 m1) z8 (IntKind.i64.wrap ((IntKind.u64.wrap (IntKind.i64.wrap (z8+z9))).fdiv (2 ^ (min (1:Int).toNat IntKind.u64.bits))))))
   (slices_BinarySearchFunc_int_joined_1_K1 p1 p2 f2 z8)
def slices_BinarySearchFunc_int_joined_1 (f2:GArc→Int→Option (Int)) (n:Nat) (p1:List GArc) (p2:Int):Option (Int×Bool) :=
 slices_BinarySearchFunc_int_joined_1_L1 p1 p2 f2 n 0 (p1.length:Int)
theorem slices_BinarySearchFunc_int_joined_1_0 (f2:GArc→Int→Option (Int)) (hf2:∀ (a0:GArc) (a1:Int) (r:Int),f2 a0 a1=some r→EvU Try.prog 36 [.agg (cGArc a0),.int .i64 a1] ⟨[],0⟩ (fun u _=>u = .int .i64 r∧Bel 0 u)) (n:Nat) (p1:List GArc) (p2:Int) (r:Int×Bool) (hF:slices_BinarySearchFunc_int_joined_1 f2 n p1 p2=some r):EvU Try.prog 35 [.isl false (List.map cGArc p1),.int .i64 p2,.fn (.func 36) [] []] ⟨[],0⟩ (fun u _=>u = .tup [.int .i64 r.1,.bool r.2]∧Bel 0 u):=by
 unfold slices_BinarySearchFunc_int_joined_1 at hF
 have hf2S:∀ (a0:GArc) (a1:Int) (r:Int),f2 a0 a1=some r→∀ σ,EvU Try.prog 36 [.agg (cGArc a0),.i6 a1] σ (fun u σ'=>u = .i6 r∧σ'=σ):=fun a0 a1 r h σ=>EvU.pure1C (hf2 a0 a1 r h) σ
 refine bg3 49 fn35 ?_
 refine go ?_
 refine gS (l':=[(0,_),(1,_),(2,_),(8,_),(9,_),(10,_)]) ?_
 refine WPU.loopK (fun m tm σ=>∃ z8:Int,∃ z9:Int,slices_BinarySearchFunc_int_joined_1_L1 p1 p2 f2 m z8 z9=some r∧tm=fr 49 [(0,.iM cGArc p1),(1,.i6 p2),(2,.fn (.func 36) [] []),(8,.i6 (p1.length:Int)),(9,.i6 z8),(10,.i6 z9)]∧σ=⟨[],0⟩) (fun tm σ=>∃ z10:Int,slices_BinarySearchFunc_int_joined_1_K1 p1 p2 f2 z10=some r∧tm=fr 49 [(0,.iM cGArc p1),(1,.i6 p2),(2,.fn (.func 36) [] []),(8,.i6 (p1.length:Int)),(9,.i6 z10)]∧σ=⟨[],0⟩) n ⟨0,(p1.length:Int),hF,rfl,rfl⟩ ?_ ?_
 rintro _ _ ⟨z10,hF,rfl,rfl⟩
 unfold slices_BinarySearchFunc_int_joined_1_K1 at hF
 obtain ⟨b16,h17,hF⟩:=bindO_some hF
 refine gn ?_
 refine WPU.joinK (fun tm σ=>tm=fr 49 [(6,.i6 z10),(7,.bool b16)]∧σ=⟨[],0⟩) ?_ ?_
 rintro _ _ ⟨rfl,rfl⟩
 refine go ?_
 obtain rfl:=sI hF
 exact rt2 rfl rfl rfl rfl rfl
 rcases gB h17 with ⟨h11,h17⟩ | ⟨h11,h17⟩
 obtain ⟨x12,h13,h17⟩:=bindO_some h17
 obtain ⟨r14,h15,h17⟩:=bindO_some h17
 obtain rfl:=sI h17
 refine go ?_
 refine RS.ix h13 ?_
 refine go ?_
 refine RS.cl rfl (hf2S x12 p2 r14 h15 _) fn36 ?_
 refine go ?_
 exact xC ⟨rfl,rfl⟩
 exact gy h17
 rintro (_|m1) _ _ ⟨z8,z9,hF,rfl,rfl⟩
 cases hF
 unfold slices_BinarySearchFunc_int_joined_1_L1 at hF
 refine go ?_
 refine cF hF (fun h18 hF=>?_) (fun h18 hF=>?_)
 refine go ?_
 refine WPU.block ?_
 refine go ?_
 refine RS.q (u:=.int .u64 (IntKind.u64.wrap (IntKind.i64.wrap (z8+z9)))) rfl (op_conv rfl rfl (by simp only [convX,un3.h,un127.h]<;>rfl) rfl) ?_
 refine RS.q rfl (op_int rfl rfl (ix_shr _ (by decide)) rfl) ?_
 refine RS.q (u:=.i6 (IntKind.i64.wrap ((IntKind.u64.wrap (IntKind.i64.wrap (z8+z9))).fdiv (2 ^ (min (1:Int).toNat IntKind.u64.bits))))) rfl (op_conv rfl rfl (by simp only [convX,un127.h,un3.h]<;>rfl) rfl) ?_
 obtain ⟨x20,h21,hF⟩:=bindO_some hF
 obtain ⟨r22,h23,hF⟩:=bindO_some hF
 refine go ?_
 refine RS.ix h21 ?_
 refine go ?_
 refine RS.cl rfl (hf2S x20 p2 r22 h23 _) fn36 ?_
 refine gn ?_
 refine WPU.joinK (fun tm σ=>∃ z25:Int,∃ z26:Int,slices_BinarySearchFunc_int_joined_1_J2 (slices_BinarySearchFunc_int_joined_1_L1 p1 p2 f2 m1) z25 z26=some r∧tm=fr 49 [(0,.iM cGArc p1),(1,.i6 p2),(2,.fn (.func 36) [] []),(8,.i6 (p1.length:Int)),(9,.i6 z25),(10,.i6 z26)]∧σ=⟨[],0⟩) ?_ ?_
 rintro _ _ ⟨z25,z26,hF,rfl,rfl⟩
 unfold slices_BinarySearchFunc_int_joined_1_J2 at hF
 refine go ?_
 exact lC ⟨z25,z26,hF,rfl,rfl⟩
 refine cF hF (fun h24 hF=>?_) (fun h24 hF=>?_)
 refine go ?_
 exact xC ⟨(IntKind.i64.wrap ((IntKind.i64.wrap ((IntKind.u64.wrap (IntKind.i64.wrap (z8+z9))).fdiv (2 ^ (min (1:Int).toNat IntKind.u64.bits))))+1)),z9,hF,rfl,rfl⟩
 refine go ?_
 exact xC ⟨z8,(IntKind.i64.wrap ((IntKind.u64.wrap (IntKind.i64.wrap (z8+z9))).fdiv (2 ^ (min (1:Int).toNat IntKind.u64.bits)))),hF,rfl,rfl⟩
 refine go ?_
 exact xC ⟨z8,hF,rfl,rfl⟩
def trail_joined_1 (n:Nat) (p1:GArc) (p2:Int):Option (Int) :=
 some (IntKind.i64.wrap (p1.Feat - p2))
theorem trail_joined_1_0 (n:Nat) (p1:GArc) (p2:Int) (r:Int) (hF:trail_joined_1 n p1 p2=some r):EvU Try.prog 36 [.agg (cGArc p1),.int .i64 p2] ⟨[],0⟩ (fun u _=>u = .int .i64 r∧Bel 0 u):=by
 unfold trail_joined_1 at hF
 refine bg2 9 fn36 ?_
 exact gx hF
def trail_joined_K1 (r3:List GArc) (l15:List GA2Int):Option ((List GArc)×(List GA2Int)) :=
 some (r3,l15)
def trail_joined_L1 (p2:List GArc) (n:Nat) (r3:List GArc):Nat→Int→(List GA2Int)→Option ((List GArc)×(List GA2Int))
 | 0,_,_=>none
 | m1+1,z12,l13 =>
  cond (decide (z12<(p2.length:Int)))
   (bindO (idxO p2 z12) fun x18 =>
   bindO (slices_BinarySearchFunc_int_joined_1 (trail_joined_1 n) n r3 x18.Feat) fun r20 =>
   cond r20.2
    (bindO (idxO r3 r20.1) fun x23 =>
    needO ((l13.length+1)*16≤140737488355328∧l13.length+1≤140737488355328) (
    (trail_joined_L1 p2 n r3 m1) (IntKind.i64.wrap (z12+1)) (l13++[(GA2Int.mk x23.To x18.To)])))
    (none))
   (trail_joined_K1 r3 l13)
def trail_joined (n:Nat) (p1:List GArc) (p2:List GArc):Option ((List GArc)×(List GA2Int)) :=
 bindO (slices_Clone_Arc n p1) fun r3 =>
 trail_joined_L1 p2 n r3 n 0 ([]:List GA2Int)
theorem trail_joined_0 (n:Nat) (p1:List GArc) (p2:List GArc) (r:(List GArc)×(List GA2Int)) (hF:trail_joined n p1 p2=some r):EvU Try.prog 22 [.isl false (List.map cGArc p1),.isl false (List.map cGArc p2)] ⟨[],0⟩ (fun u _=>u = .tup [.isl false (List.map cGArc r.1),.isl false (List.map cGA2Int r.2)]∧Bel 0 u):=by
 unfold trail_joined at hF
 refine bg2 47 fn22 ?_
 obtain ⟨r3,h4,hF⟩:=bindO_some hF
 refine go ?_
 refine RS.callx (R:=fun u σ'=>u = .vl 1 0 0 r3.length∧σ'=⟨[(1,.vec (List.map cGArc r3).flatten 68 2 0)],2⟩) (args:=[.iM cGArc p1]) rfl (op_call rfl rfl fn34 hb34 rfl rfl) (EvU.own0 cGArc (slices_Clone_Arc_0 n p1 r3 h4) _ 1 rfl) rfl rfl ?_
 rintro _ _ ⟨rfl,rfl⟩
 refine gr ?_
 refine gr ?_
 refine WPU.ghost (tm':=fr 47 [(6,.vl 1 0 0 r3.length),(7,.vl 2 0 0 (([]:List GA2Int).length)),(14,.iM cGArc p2),(15,.i6 (p2.length:Int)),(16,.i6 0)]) (σ':=⟨[(2,.vec (List.map cGA2Int ([]:List GA2Int)).flatten 70 2 0),(1,.vec (List.map cGArc r3).flatten 68 2 0)],3⟩) (Gh.trans (Gh.nilS 7 70 2 (by decide) NZ rfl rfl) (Gh.eqS ⟨rfl,rfl,rfl,rfl,rfl,trivial⟩ rfl)) NZ ?_
 refine gS (l':=[(6,_),(7,_),(14,_),(15,_),(16,_)]) ?_
 refine WPU.loopK (fun m tm σ=>∃ z12:Int,∃ l13:List GA2Int,∃ t14:Nat,trail_joined_L1 p2 n r3 m z12 l13=some r∧tm=fr 47 [(6,.vl 1 0 0 r3.length),(7,.vl 2 t14 0 l13.length),(14,.iM cGArc p2),(15,.i6 (p2.length:Int)),(16,.i6 z12)]∧σ=⟨[(2,.vec (List.map cGA2Int l13).flatten 70 2 t14),(1,.vec (List.map cGArc r3).flatten 68 2 0)],3⟩) (fun tm σ=>∃ l15:List GA2Int,∃ t16:Nat,trail_joined_K1 r3 l15=some r∧tm=fr 47 [(6,.vl 1 0 0 r3.length),(7,.vl 2 t16 0 l15.length)]∧σ=⟨[(2,.vec (List.map cGA2Int l15).flatten 70 2 t16),(1,.vec (List.map cGArc r3).flatten 68 2 0)],3⟩) n ⟨0,([]:List GA2Int),0,hF,rfl,rfl⟩ ?_ ?_
 rintro _ _ ⟨l15,t16,hF,rfl,rfl⟩
 unfold trail_joined_K1 at hF
 refine go ?_
 obtain rfl:=sI hF
 exact ⟨.inr rfl,[.vl 1 0 0 r3.length,.vl 2 t16 0 l15.length],res_t rfl (res_t rfl (res_n)),.tup [.iM cGArc r3,.iM cGA2Int l15],⟨[],0⟩,Nat.le_refl _,Gh.trans (Gh.fzC 1 2) (Gh.trans (Gh.fzC 2 2) (Gh.toR (.tup [.iM cGArc r3,.iM cGA2Int l15]) rfl)),rfl,BU.h⟩
 rintro (_|m1) _ _ ⟨z12,l13,t14,hF,rfl,rfl⟩
 cases hF
 unfold trail_joined_L1 at hF
 refine go ?_
 refine cF hF (fun h17 hF=>?_) (fun h17 hF=>?_)
 refine go ?_
 refine WPU.block ?_
 obtain ⟨x18,h19,hF⟩:=bindO_some hF
 refine go ?_
 refine RS.ix h19 ?_
 obtain ⟨r20,h21,hF⟩:=bindO_some hF
 refine go ?_
 refine RS.cl rfl (EvU.viewT (slices_BinarySearchFunc_int_joined_1_0 (trail_joined_1 n) (trail_joined_1_0 n) n r3 x18.Feat r20 h21) BUL.h (by simp only [toV,toVL,okL,okC,cond_true]<;>rfl) (fun m=>by simp [ren,renL]) (Gh.fzC 1 2)) fn35 ?_
 refine go ?_
 refine cF hF (fun h22 hF=>?_) (fun h22 hF=>?_)
 obtain ⟨x23,h24,hF⟩:=bindO_some hF
 obtain ⟨h25,hF⟩:=needO_some hF
 refine go ?_
 refine WPU.drawE Try.tb_ok [(0,9)] (by kernel_rfl) ?_
 refine gd ?_
 refine RD.q rfl (op_ia rfl rfl (ia_vl cGArc un40.h (sz_of if68.h) (by decide) len_cGArc (vo rfl) h24)) ?_
 refine RD.q rfl (op_fa un68.h rfl (sz_of if3.h) rfl (live_v rfl) rfl) (RD.q (u:=.i6 x23.To) rfl (ld_vf cGArc un3.h rfl len_cGArc rfl rfl (idxO_V h24) rfl) ?_)
 refine gd ?_
 refine RD.q (u:=.agg [.i6 x23.To,.i6 x18.To]) rfl (op_build rfl (by simp only [stepsU,wantedU,dstOf,opU,pureU,readU,effU,evalU,evalUL,evalUP,evalUM,nth,putW,List.set,g1,g2,toV,toVL,ofV,ofVL,cellsO,List.toList_toArray,Value.cells,okL,okC,cond_true,cond_false,newU,lenU,live,cellsOf,rowOf,vecOf,putOf,gt,ug,B.st,Nat.beq,segU,putU,loadU,partU,fieldAtU,fieldU,indexAtU,indexU,extractU,storeU,isAggD,sizeX,fieldPl,sizesX,fillU,buildU,binU,binX,intX,unX,convX,List.drop,List.take,List.length,List.append,List.cons_append,List.nil_append,beq_self_eq_true,Bool.not_true,Bool.not_false,ite_true,ite_false,if_true,if_false,Nat.reduceAdd,Nat.reduceMul,Nat.reduceLeDiff,Nat.zero_add,Nat.add_zero,reduceIte,reduceCtorEq,ne_eq,not_true_eq_false,not_false_eq_true,if_pos,foldX,max2X,min2X,Nat.beq_refl,Nat.le_refl,true_and,and_true,true_or,or_true,appendU,srcU,makeListU,zerosU,List.replicate,List.flatten,Nat.ble,Nat.lt_irrefl,Nat.zero_lt_one,Nat.mul_one,Nat.one_mul,tf_,ft_,cI,cB,cS,cL,List.length_map,List.length_cons,List.length_nil,Option.isSome,un3.h,if3.h,un70.h,if70.h])) ?_
 refine RD.g ?_
 refine RD.g ?_
 refine gd ?_
 refine RD.done ⟨by kernel_rfl,⟨op_move rfl,trivial⟩,?_⟩
 refine go ?_
 exact lC ⟨_,(l13++[(GA2Int.mk x23.To x18.To)]),(t14+1),hF,rfl,rfl⟩
 refine gn ?_
 cases hF
 refine go ?_
 exact xC ⟨l13,t14,hF,rfl,rfl⟩
def trail_Heap_set_s2 (n:Nat) (p1:Int) (p2:Int) (p3:Int) (p4:List GType) (p5:List GFeature) (p6:List Gcell) (p8:List Gchange) (p9:Nat) (p10:List Gmark):Option ((List Gcell)×(List Gchange)×Nat) :=
 bindO (idxO p6 p1) fun x12 =>
 needO ((p8.length+1)*48≤140737488355328∧p8.length+1≤140737488355328) (
 bindO (idxO p6 p1) fun x15 =>
 some ((p6.set (0+p1.toNat) (Gcell.mk p2 p3 [])),(p8++[(Gchange.mk p1 x12)]),(p9+1)))
theorem trail_Heap_set_s2_0 (n:Nat) (p1:Int) (p2:Int) (p3:Int) (p4:List GType) (p5:List GFeature) (p6:List Gcell) (p8:List Gchange) (p9:Nat) (p10:List Gmark) (r:(List Gcell)×(List Gchange)×Nat) (hF:trail_Heap_set_s2 n p1 p2 p3 p4 p5 p6 p8 p9 p10=some r):∀ t7 t11:Nat,EvU Try.prog 23 [.ptr 0 0 0,.int .i64 p1,.agg [.int .i64 p2,.int .i64 p3,.nils]] ⟨[(0,.row [.isl false (List.map cGType p4),.isl false (List.map cGFeature p5),.vl 1 t7 0 p6.length,.vl 2 p9 0 p8.length,.vl 3 t11 0 p10.length] 52),(1,.vec (List.map cGcell p6).flatten 66 3 t7),(2,.vec (List.map cGchange p8).flatten 97 4 p9),(3,.vec (List.map cGmark p10).flatten 64 2 t11)],4⟩ (fun u σ'=>∃ t:Nat→Nat,u = .tup []∧σ'=⟨[(0,.row [.isl false (List.map cGType p4),.isl false (List.map cGFeature p5),.vl 1 t7 0 r.1.length,.vl 2 r.2.2 0 r.2.1.length,.vl 3 t11 0 p10.length] 52),(1,.vec (List.map cGcell r.1).flatten 66 3 t7),(2,.vec (List.map cGchange r.2.1).flatten 97 4 r.2.2),(3,.vec (List.map cGmark p10).flatten 64 2 t11)],4⟩):=by
 unfold trail_Heap_set_s2 at hF
 intro t7 t11
 refine bg3 31 fn23 ?_
 obtain ⟨x12,h13,hF⟩:=bindO_some hF
 obtain ⟨h14,hF⟩:=needO_some hF
 refine go ?_
 refine WPU.drawE Try.tb_ok [(0,14),(0,15),(1,14),(2,14),(3,14),(4,14)] (by kernel_rfl) ?_
 refine gd ?_
 refine RD.q (u:=.ptr 0 0 0) rfl (op_nc1 rfl rfl) ?_
 refine gd ?_
 refine RD.q (u:=.ptr 0 0 0) rfl (op_nc1 rfl rfl) ?_
 refine gd ?_
 refine RD.q rfl (op_ia rfl rfl (ia_vl cGcell un48.h (sz_of if66.h) (by decide) len_cGcell (vo rfl) h13)) ?_
 refine RD.q (u:=.agg (cGcell x12)) rfl (ld_vec cGcell un66.h rfl (sz_of if66.h) len_cGcell rfl rfl h13 rfl) ?_
 refine gd ?_
 refine RD.g ?_
 refine RD.act (u:=.vl 2 (p9+1) 0 ((p8++[(Gchange.mk p1 x12)]).length)) (σ':=⟨[(5,.row [.i6 p1,.i6 x12.forward,.i6 x12.kind,.iM cGArc x12.arcs] 97),(4,.row [.i6 p2,.i6 p3,.nils] 66),(0,.row [.iM cGType p4,.iM cGFeature p5,.vl 1 t7 0 p6.length,.vl 2 p9 0 p8.length,.vl 3 t11 0 p10.length] 52),(1,.vec (List.map cGcell p6).flatten 66 3 t7),(2,.vec (List.map cGchange (p8++[(Gchange.mk p1 x12)])).flatten 97 4 (p9+1)),(3,.vec (List.map cGmark p10).flatten 64 2 t11)],6⟩) rfl (op_app rfl rfl rfl (rfl) (app_vl cGchange ([(Gchange.mk p1 x12)]) un49.h un49.h if97.h rfl len_cGchange rfl (src_row cGchange [(Gchange.mk p1 x12)] rfl rfl rfl rfl) h14)) rfl rfl (RD.q (u:=.ptr 0 0 0) rfl (op_nc1 rfl rfl) ?_)
 refine gd ?_
 refine RD.gz ?_
 refine RD.done ⟨by kernel_rfl,⟨op_move rfl,⟨op_move rfl,⟨op_move rfl,⟨op_nc1 rfl rfl,⟨op_fa un52.h rfl (sz_of if49.h) rfl rfl rfl,⟨ld_one un49.h rfl rfl rfl rfl,trivial⟩⟩⟩⟩⟩⟩,?_⟩
 obtain ⟨x15,h16,hF⟩:=bindO_some hF
 refine gn ?_
 refine WPU.joinK (fun tm σ=>tm=fr 31 []∧σ=⟨[(5,.row [.i6 p1,.i6 x12.forward,.i6 x12.kind,.iM cGArc x12.arcs] 97),(4,.row [.i6 p2,.i6 p3,.nils] 66),(0,.row [.iM cGType p4,.iM cGFeature p5,.vl 1 t7 0 ((p6.set (0+p1.toNat) (Gcell.mk p2 p3 [])).length),.vl 2 (p9+1) 0 ((p8++[(Gchange.mk p1 x12)]).length),.vl 3 t11 0 p10.length] 52),(1,.vec (List.map cGcell (p6.set (0+p1.toNat) (Gcell.mk p2 p3 []))).flatten 66 3 t7),(2,.vec (List.map cGchange (p8++[(Gchange.mk p1 x12)])).flatten 97 4 (p9+1)),(3,.vec (List.map cGmark p10).flatten 64 2 t11)],6⟩) ?_ ?_
 rintro _ _ ⟨rfl,rfl⟩
 refine go ?_
 obtain rfl:=sI hF
 exact ⟨.inl rfl,[],res_n,.tup [],⟨[(0,.row [.iM cGType p4,.iM cGFeature p5,.vl 1 t7 0 ((p6.set (0+p1.toNat) (Gcell.mk p2 p3 [])).length),.vl 2 (p9+1) 0 ((p8++[(Gchange.mk p1 x12)]).length),.vl 3 t11 0 p10.length] 52),(1,.vec (List.map cGcell (p6.set (0+p1.toNat) (Gcell.mk p2 p3 []))).flatten 66 3 t7),(2,.vec (List.map cGchange (p8++[(Gchange.mk p1 x12)])).flatten 97 4 (p9+1)),(3,.vec (List.map cGmark p10).flatten 64 2 t11)],4⟩,NL,Gh.to (n1:=4) [] rfl rfl NL NL BUL.h BH.h,stF [],rfl,rfl⟩
 refine WPU.drawE Try.tb_ok [] (by kernel_rfl) ?_
 refine gd ?_
 refine RD.q (u:=.ptr 0 0 0) rfl (op_nc1 rfl rfl) ?_
 refine gd ?_
 refine RD.q rfl (op_ia rfl rfl (ia_vl cGcell un48.h (sz_of if66.h) (by decide) len_cGcell (vo rfl) h16)) ?_
 refine RD.actn (u:=.junk) (σ':=⟨[(5,.row [.i6 p1,.i6 x12.forward,.i6 x12.kind,.iM cGArc x12.arcs] 97),(4,.row [.i6 p2,.i6 p3,.nils] 66),(0,.row [.iM cGType p4,.iM cGFeature p5,.vl 1 t7 0 p6.length,.vl 2 (p9+1) 0 ((p8++[(Gchange.mk p1 x12)]).length),.vl 3 t11 0 p10.length] 52),(1,.vec (List.map cGcell (p6.set (0+p1.toNat) (Gcell.mk p2 p3 []))).flatten 66 3 t7),(2,.vec (List.map cGchange (p8++[(Gchange.mk p1 x12)])).flatten 97 4 (p9+1)),(3,.vec (List.map cGmark p10).flatten 64 2 t11)],6⟩) rfl (st_vp cGcell (sz_of if66.h) len_cGcell rfl rfl rfl rfl rfl rfl rfl (idxO_V h16) rfl) rfl ?_
 refine RD.done ⟨by kernel_rfl,trivial,?_⟩
 refine go ?_
 exact ⟨_,_,⟨rfl,rfl⟩,NL,Gh.eqS trivial (by simp only [List.length_set])⟩
def trail_Heap_set_s1 (n:Nat) (p1:Int) (p2:Gcell) (p3:List GType) (p4:List GFeature) (p5:List Gcell) (p7:List Gchange) (p8:Nat) (p9:List Gmark):Option ((List Gcell)×(List Gchange)×Nat) :=
 bindO (idxO p5 p1) fun x11 =>
 needO ((p7.length+1)*48≤140737488355328∧p7.length+1≤140737488355328) (
 bindO (idxO p5 p1) fun x14 =>
 some ((p5.set (0+p1.toNat) p2),(p7++[(Gchange.mk p1 x11)]),(p8+1)))
theorem trail_Heap_set_s1_0 (n:Nat) (p1:Int) (p2:Gcell) (p3:List GType) (p4:List GFeature) (p5:List Gcell) (p7:List Gchange) (p8:Nat) (p9:List Gmark) (r:(List Gcell)×(List Gchange)×Nat) (hF:trail_Heap_set_s1 n p1 p2 p3 p4 p5 p7 p8 p9=some r):∀ t6 t10:Nat,EvU Try.prog 23 [.ptr 0 0 0,.int .i64 p1,.agg (cGcell p2)] ⟨[(0,.row [.isl false (List.map cGType p3),.isl false (List.map cGFeature p4),.vl 1 t6 0 p5.length,.vl 2 p8 0 p7.length,.vl 3 t10 0 p9.length] 52),(1,.vec (List.map cGcell p5).flatten 66 3 t6),(2,.vec (List.map cGchange p7).flatten 97 4 p8),(3,.vec (List.map cGmark p9).flatten 64 2 t10)],4⟩ (fun u σ'=>∃ t:Nat→Nat,u = .tup []∧σ'=⟨[(0,.row [.isl false (List.map cGType p3),.isl false (List.map cGFeature p4),.vl 1 t6 0 r.1.length,.vl 2 r.2.2 0 r.2.1.length,.vl 3 t10 0 p9.length] 52),(1,.vec (List.map cGcell r.1).flatten 66 3 t6),(2,.vec (List.map cGchange r.2.1).flatten 97 4 r.2.2),(3,.vec (List.map cGmark p9).flatten 64 2 t10)],4⟩):=by
 unfold trail_Heap_set_s1 at hF
 intro t6 t10
 refine bg3 31 fn23 ?_
 obtain ⟨x11,h12,hF⟩:=bindO_some hF
 obtain ⟨h13,hF⟩:=needO_some hF
 refine go ?_
 refine WPU.drawE Try.tb_ok [(0,14),(0,15),(1,14),(2,14),(3,14),(4,14)] (by kernel_rfl) ?_
 refine gd ?_
 refine RD.q (u:=.ptr 0 0 0) rfl (op_nc1 rfl rfl) ?_
 refine gd ?_
 refine RD.q (u:=.ptr 0 0 0) rfl (op_nc1 rfl rfl) ?_
 refine gd ?_
 refine RD.q rfl (op_ia rfl rfl (ia_vl cGcell un48.h (sz_of if66.h) (by decide) len_cGcell (vo rfl) h12)) ?_
 refine RD.q (u:=.agg (cGcell x11)) rfl (ld_vec cGcell un66.h rfl (sz_of if66.h) len_cGcell rfl rfl h12 rfl) ?_
 refine gd ?_
 refine RD.g ?_
 refine RD.act (u:=.vl 2 (p8+1) 0 ((p7++[(Gchange.mk p1 x11)]).length)) (σ':=⟨[(5,.row [.i6 p1,.i6 x11.forward,.i6 x11.kind,.iM cGArc x11.arcs] 97),(4,.row (cGcell p2) 66),(0,.row [.iM cGType p3,.iM cGFeature p4,.vl 1 t6 0 p5.length,.vl 2 p8 0 p7.length,.vl 3 t10 0 p9.length] 52),(1,.vec (List.map cGcell p5).flatten 66 3 t6),(2,.vec (List.map cGchange (p7++[(Gchange.mk p1 x11)])).flatten 97 4 (p8+1)),(3,.vec (List.map cGmark p9).flatten 64 2 t10)],6⟩) rfl (op_app rfl rfl rfl (rfl) (app_vl cGchange ([(Gchange.mk p1 x11)]) un49.h un49.h if97.h rfl len_cGchange rfl (src_row cGchange [(Gchange.mk p1 x11)] rfl rfl rfl rfl) h13)) rfl rfl (RD.q (u:=.ptr 0 0 0) rfl (op_nc1 rfl rfl) ?_)
 refine gd ?_
 refine RD.gz ?_
 refine RD.done ⟨by kernel_rfl,⟨op_move rfl,⟨op_move rfl,⟨op_move rfl,⟨op_nc1 rfl rfl,⟨op_fa un52.h rfl (sz_of if49.h) rfl rfl rfl,⟨ld_one un49.h rfl rfl rfl rfl,trivial⟩⟩⟩⟩⟩⟩,?_⟩
 obtain ⟨x14,h15,hF⟩:=bindO_some hF
 refine gn ?_
 refine WPU.joinK (fun tm σ=>tm=fr 31 []∧σ=⟨[(5,.row [.i6 p1,.i6 x11.forward,.i6 x11.kind,.iM cGArc x11.arcs] 97),(4,.row (cGcell p2) 66),(0,.row [.iM cGType p3,.iM cGFeature p4,.vl 1 t6 0 ((p5.set (0+p1.toNat) p2).length),.vl 2 (p8+1) 0 ((p7++[(Gchange.mk p1 x11)]).length),.vl 3 t10 0 p9.length] 52),(1,.vec (List.map cGcell (p5.set (0+p1.toNat) p2)).flatten 66 3 t6),(2,.vec (List.map cGchange (p7++[(Gchange.mk p1 x11)])).flatten 97 4 (p8+1)),(3,.vec (List.map cGmark p9).flatten 64 2 t10)],6⟩) ?_ ?_
 rintro _ _ ⟨rfl,rfl⟩
 refine go ?_
 obtain rfl:=sI hF
 exact ⟨.inl rfl,[],res_n,.tup [],⟨[(0,.row [.iM cGType p3,.iM cGFeature p4,.vl 1 t6 0 ((p5.set (0+p1.toNat) p2).length),.vl 2 (p8+1) 0 ((p7++[(Gchange.mk p1 x11)]).length),.vl 3 t10 0 p9.length] 52),(1,.vec (List.map cGcell (p5.set (0+p1.toNat) p2)).flatten 66 3 t6),(2,.vec (List.map cGchange (p7++[(Gchange.mk p1 x11)])).flatten 97 4 (p8+1)),(3,.vec (List.map cGmark p9).flatten 64 2 t10)],4⟩,NL,Gh.to (n1:=4) [] rfl rfl NL NL BUL.h BH.h,stF [],rfl,rfl⟩
 refine WPU.drawE Try.tb_ok [] (by kernel_rfl) ?_
 refine gd ?_
 refine RD.q (u:=.ptr 0 0 0) rfl (op_nc1 rfl rfl) ?_
 refine gd ?_
 refine RD.q rfl (op_ia rfl rfl (ia_vl cGcell un48.h (sz_of if66.h) (by decide) len_cGcell (vo rfl) h15)) ?_
 refine RD.actn (u:=.junk) (σ':=⟨[(5,.row [.i6 p1,.i6 x11.forward,.i6 x11.kind,.iM cGArc x11.arcs] 97),(4,.row (cGcell p2) 66),(0,.row [.iM cGType p3,.iM cGFeature p4,.vl 1 t6 0 p5.length,.vl 2 (p8+1) 0 ((p7++[(Gchange.mk p1 x11)]).length),.vl 3 t10 0 p9.length] 52),(1,.vec (List.map cGcell (p5.set (0+p1.toNat) p2)).flatten 66 3 t6),(2,.vec (List.map cGchange (p7++[(Gchange.mk p1 x11)])).flatten 97 4 (p8+1)),(3,.vec (List.map cGmark p9).flatten 64 2 t10)],6⟩) rfl (st_vp cGcell (sz_of if66.h) len_cGcell rfl rfl rfl rfl rfl rfl rfl (idxO_V h15) rfl) rfl ?_
 refine RD.done ⟨by kernel_rfl,trivial,?_⟩
 refine go ?_
 exact ⟨_,_,⟨rfl,rfl⟩,NL,Gh.eqS trivial (by simp only [List.length_set])⟩
def trail_Heap_Unify_s1_K1  (l34:List GA2Int) (l36:List Gcell) (l37:List Gchange) (t38:Nat):Option (Bool×(List Gcell)×(List Gchange)×Nat) :=
 some (true,l36,l37,t38)
def trail_Heap_Unify_s1_L1 (p3:List GType) (p4:List GFeature) (p7:List Gchange) (p9:List Gmark) (n:Nat):Nat→(List GA2Int)→(List Gcell)→(List Gchange)→Nat→Option (Bool×(List Gcell)×(List Gchange)×Nat)
 | 0,_,_,_,_=>none
 | m1+1,l29,l31,l32,t33 =>
  cond (decide ((l29.length:Int) > 0))
   (bindO (idxO l29 (IntKind.i64.wrap ((l29.length:Int) - 1))) fun x40 =>
   needO ((0:Int)≤(IntKind.i64.wrap ((l29.length:Int) - 1))∧(IntKind.i64.wrap ((l29.length:Int) - 1))≤((l29.length:Nat):Int)) (
   needO (((IntKind.i64.wrap ((l29.length:Int) - 1)).toNat)≤l29.length) (
   bindO (trail_Heap_find_s1 n x40.E0 p3 p4 l31 l32 p9) fun r44 =>
   bindO (trail_Heap_find_s1 n x40.E1 p3 p4 l31 l32 p9) fun r47 =>
   cond (r44 == r47)
    ((trail_Heap_Unify_s1_L1 p3 p4 p7 p9 n m1) (l29.take ((IntKind.i64.wrap ((l29.length:Int) - 1)).toNat)) l31 l32 t33)
    (bindO (idxO l31 r44) fun x51 =>
    bindO (idxO l31 r47) fun x53 =>
    bindO (hier_Meet n (GHierarchy.mk p3 p4) x51.kind x53.kind) fun r55 =>
    cond (!r55.2)
     (bindO (trail_Heap_back_s1 n (p7.length:Int) p3 p4 l31 l32 p9) fun r58 =>
     some (false,r58.1,r58.2,t33))
     (bindO (idxO l31 r44) fun x61 =>
     bindO (idxO l31 r47) fun x63 =>
     bindO (trail_joined n x61.arcs x63.arcs) fun r65 =>
     bindO (trail_Heap_set_s1 n r44 (Gcell.mk (-1) r55.1 r65.1) p3 p4 l31 l32 t33 p9) fun r67 =>
     bindO (trail_Heap_set_s2 n r47 r44 0 p3 p4 r67.1 r67.2.1 r67.2.2 p9) fun r70 =>
     needO (((l29.take ((IntKind.i64.wrap ((l29.length:Int) - 1)).toNat)).length+r65.2.length)*16≤140737488355328∧(l29.take ((IntKind.i64.wrap ((l29.length:Int) - 1)).toNat)).length+r65.2.length≤140737488355328) (
     (trail_Heap_Unify_s1_L1 p3 p4 p7 p9 n m1) ((l29.take ((IntKind.i64.wrap ((l29.length:Int) - 1)).toNat))++r65.2) r70.1 r70.2.1 r70.2.2))))))
   (trail_Heap_Unify_s1_K1 l29 l31 l32 t33)
def trail_Heap_Unify_s1 (n:Nat) (p1:Int) (p2:Int) (p3:List GType) (p4:List GFeature) (p5:List Gcell) (p7:List Gchange) (p8:Nat) (p9:List Gmark):Option (Bool×(List Gcell)×(List Gchange)×Nat) :=
 bindO (cond (decide (p1<0))
  (some true)
  (cond (decide (p1 ≥ (p5.length:Int)))
   (some true)
   (cond (decide (p2<0))
    (some true)
    (some (decide (p2 ≥ (p5.length:Int))))))) fun b14 =>
 cond b14
  (some (false,p5,p7,p8))
  (trail_Heap_Unify_s1_L1 p3 p4 p7 p9 n n ([(GA2Int.mk p1 p2)]) p5 p7 p8)
theorem trail_Heap_Unify_s1_0 (n:Nat) (p1:Int) (p2:Int) (p3:List GType) (p4:List GFeature) (p5:List Gcell) (p7:List Gchange) (p8:Nat) (p9:List Gmark) (r:Bool×(List Gcell)×(List Gchange)×Nat) (hF:trail_Heap_Unify_s1 n p1 p2 p3 p4 p5 p7 p8 p9=some r):∀ t6 t10:Nat,EvU Try.prog 14 [.ptr 0 0 0,.int .i64 p1,.int .i64 p2] ⟨[(0,.row [.isl false (List.map cGType p3),.isl false (List.map cGFeature p4),.vl 1 t6 0 p5.length,.vl 2 p8 0 p7.length,.vl 3 t10 0 p9.length] 52),(1,.vec (List.map cGcell p5).flatten 66 3 t6),(2,.vec (List.map cGchange p7).flatten 97 4 p8),(3,.vec (List.map cGmark p9).flatten 64 2 t10)],4⟩ (fun u σ'=>∃ t:Nat→Nat,u = .bool r.1∧σ'=⟨[(0,.row [.isl false (List.map cGType p3),.isl false (List.map cGFeature p4),.vl 1 t6 0 r.2.1.length,.vl 2 r.2.2.2 0 r.2.2.1.length,.vl 3 t10 0 p9.length] 52),(1,.vec (List.map cGcell r.2.1).flatten 66 3 t6),(2,.vec (List.map cGchange r.2.2.1).flatten 97 4 r.2.2.2),(3,.vec (List.map cGmark p9).flatten 64 2 t10)],4⟩):=by
 unfold trail_Heap_Unify_s1 at hF
 intro t6 t10
 refine EvU.of_bodyD Try.tb_ok fn14 rfl ?_
 refine BdU.ghost (tm':=fr 135 [(0,.ptr 0 0 0),(1,.i6 p1),(2,.i6 p2)]) (Gh.start NL) (Nat.le_refl _) ?_
 refine BdU.seq Try.tb_ok ?_
 refine gr ?_
 refine BdU.seq Try.tb_ok ?_
 obtain ⟨b14,h15,hF⟩:=bindO_some hF
 refine gn ?_
 refine WPU.joinK (fun tm σ=>tm=fr 135 [(1,.i6 p1),(2,.i6 p2),(3,.ptr 4 0 0),(6,.ptr 5 0 0),(39,.bool b14)]∧σ=⟨[(5,.row [.bool false] 4),(4,.row [.ptr 0 0 0] 24),(0,.row [.iM cGType p3,.iM cGFeature p4,.vl 1 t6 0 p5.length,.vl 2 p8 0 p7.length,.vl 3 t10 0 p9.length] 52),(1,.vec (List.map cGcell p5).flatten 66 3 t6),(2,.vec (List.map cGchange p7).flatten 97 4 p8),(3,.vec (List.map cGmark p9).flatten 64 2 t10)],6⟩) ?_ ?_
 rintro _ _ ⟨rfl,rfl⟩
 refine go ?_
 refine cF hF (fun h16 hF=>?_) (fun h16 hF=>?_)
 refine go ?_
 obtain rfl:=sI hF
 exact ⟨rfl,[.bool false],res_c (ld_one un4.h rfl rfl rfl rfl) (res_n),.bool false,⟨[(0,.row [.iM cGType p3,.iM cGFeature p4,.vl 1 t6 0 p5.length,.vl 2 p8 0 p7.length,.vl 3 t10 0 p9.length] 52),(1,.vec (List.map cGcell p5).flatten 66 3 t6),(2,.vec (List.map cGchange p7).flatten 97 4 p8),(3,.vec (List.map cGmark p9).flatten 64 2 t10)],4⟩,NL,Gh.to (n1:=4) [] rfl rfl NL NL BUL.h BH.h,stF [],rfl,rfl⟩
 refine gn ?_
 refine BdU.seq Try.tb_ok ?_
 refine go ?_
 refine RS.q (u:=.ptr 0 0 0) rfl (op_nc1 rfl rfl) ?_
 refine gn ?_
 refine BdU.dfr Try.tb_ok 1 rfl rfl rfl rfl ?_
 refine RS.q rfl (op_fun rfl rfl) ?_
 refine RS.done ⟨19,[.ptr 5 0 0,.ptr 4 0 0,.ptr 6 0 0],op_call rfl rfl fn19 hb19 rfl rfl,RS.done ⟨rfl,?_⟩⟩
 refine go ?_
 refine RS.q (u:=.agg [.i6 p1,.i6 p2]) rfl (op_build rfl (by simp only [stepsU,wantedU,dstOf,opU,pureU,readU,effU,evalU,evalUL,evalUP,evalUM,nth,putW,List.set,g1,g2,toV,toVL,ofV,ofVL,cellsO,List.toList_toArray,Value.cells,okL,okC,cond_true,cond_false,newU,lenU,live,cellsOf,rowOf,vecOf,putOf,gt,ug,B.st,Nat.beq,segU,putU,loadU,partU,fieldAtU,fieldU,indexAtU,indexU,extractU,storeU,isAggD,sizeX,fieldPl,sizesX,fillU,buildU,binU,binX,intX,unX,convX,List.drop,List.take,List.length,List.append,List.cons_append,List.nil_append,beq_self_eq_true,Bool.not_true,Bool.not_false,ite_true,ite_false,if_true,if_false,Nat.reduceAdd,Nat.reduceMul,Nat.reduceLeDiff,Nat.zero_add,Nat.add_zero,reduceIte,reduceCtorEq,ne_eq,not_true_eq_false,not_false_eq_true,if_pos,foldX,max2X,min2X,Nat.beq_refl,Nat.le_refl,true_and,and_true,true_or,or_true,appendU,srcU,makeListU,zerosU,List.replicate,List.flatten,Nat.ble,Nat.lt_irrefl,Nat.zero_lt_one,Nat.mul_one,Nat.one_mul,tf_,ft_,cI,cB,cS,cL,List.length_map,List.length_cons,List.length_nil,Option.isSome,un3.h,if3.h,un70.h,if70.h])) ?_
 refine RS.step (u:=.vl 7 0 0 ([(GA2Int.mk p1 p2)].length)) (σ':=⟨[(7,.vec (List.map cGA2Int ([(GA2Int.mk p1 p2)])).flatten 70 2 0),(6,.row [.i6 (p7.length:Int)] 3),(5,.row [.bool false] 4),(4,.row [.ptr 0 0 0] 24),(0,.row [.iM cGType p3,.iM cGFeature p4,.vl 1 t6 0 p5.length,.vl 2 p8 0 p7.length,.vl 3 t10 0 p9.length] 52),(1,.vec (List.map cGcell p5).flatten 66 3 t6),(2,.vec (List.map cGchange p7).flatten 97 4 p8),(3,.vec (List.map cGmark p9).flatten 64 2 t10)],8⟩) rfl (StepU.bslv (cs:=(List.map cGA2Int [(GA2Int.mk p1 p2)]).flatten) Try.tb_ok rfl un71.h if70.h rfl rfl rfl rfl rfl rfl rfl rfl) rfl rfl ?_
 refine go ?_
 refine gS (l':=[(3,_),(6,_),(8,_)]) ?_
 refine WPU.loopK (fun m tm σ=>∃ l29:List GA2Int,∃ t30:Nat,∃ l31:List Gcell,∃ l32:List Gchange,∃ t33:Nat,trail_Heap_Unify_s1_L1 p3 p4 p7 p9 n m l29 l31 l32 t33=some r∧tm=fr 135 [(3,.ptr 4 0 0),(6,.ptr 5 0 0),(8,.vl 7 t30 0 l29.length)]∧σ=⟨[(7,.vec (List.map cGA2Int l29).flatten 70 2 t30),(6,.row [.i6 (p7.length:Int)] 3),(5,.row [.bool false] 4),(4,.row [.ptr 0 0 0] 24),(0,.row [.iM cGType p3,.iM cGFeature p4,.vl 1 t6 0 l31.length,.vl 2 t33 0 l32.length,.vl 3 t10 0 p9.length] 52),(1,.vec (List.map cGcell l31).flatten 66 3 t6),(2,.vec (List.map cGchange l32).flatten 97 4 t33),(3,.vec (List.map cGmark p9).flatten 64 2 t10)],8⟩) (fun tm σ=>∃ l34:List GA2Int,∃ t35:Nat,∃ l36:List Gcell,∃ l37:List Gchange,∃ t38:Nat,trail_Heap_Unify_s1_K1 l34 l36 l37 t38=some r∧tm=fr 135 [(6,.ptr 5 0 0)]∧σ=⟨[(7,.vec (List.map cGA2Int l34).flatten 70 2 t35),(6,.row [.i6 (p7.length:Int)] 3),(5,.row [.bool false] 4),(4,.row [.ptr 0 0 0] 24),(0,.row [.iM cGType p3,.iM cGFeature p4,.vl 1 t6 0 l36.length,.vl 2 t38 0 l37.length,.vl 3 t10 0 p9.length] 52),(1,.vec (List.map cGcell l36).flatten 66 3 t6),(2,.vec (List.map cGchange l37).flatten 97 4 t38),(3,.vec (List.map cGmark p9).flatten 64 2 t10)],8⟩) n ⟨[(GA2Int.mk p1 p2)],0,p5,p7,p8,hF,rfl,rfl⟩ ?_ ?_
 rintro _ _ ⟨l34,t35,l36,l37,t38,hF,rfl,rfl⟩
 unfold trail_Heap_Unify_s1_K1 at hF
 refine gr ?_
 refine ⟨.inr rfl,_,_,fn19,rfl,?_⟩
 refine WPU.ghost (tm':=fr 8 [(0,.ptr 5 0 0),(1,.ptr 4 0 0),(2,.ptr 6 0 0)]) (Gh.start NL) (Nat.le_refl _) ?_
 refine go ?_
 refine WPU.condS (t:=false) rfl (fun hc=>by cases hc) (fun _=>?_)
 refine go ?_
 obtain rfl:=sI hF
 exact ⟨.inl rfl,⟨_,res_n⟩,[.bool true],res_c (ld_one un4.h rfl rfl rfl rfl) (res_n),.bool true,⟨[(0,.row [.iM cGType p3,.iM cGFeature p4,.vl 1 t6 0 l36.length,.vl 2 t38 0 l37.length,.vl 3 t10 0 p9.length] 52),(1,.vec (List.map cGcell l36).flatten 66 3 t6),(2,.vec (List.map cGchange l37).flatten 97 4 t38),(3,.vec (List.map cGmark p9).flatten 64 2 t10)],4⟩,NL,Gh.to (n1:=4) [] rfl rfl NL NL BUL.h BH.h,stF [],rfl,rfl⟩
 rintro (_|m1) _ _ ⟨l29,t30,l31,l32,t33,hF,rfl,rfl⟩
 cases hF
 unfold trail_Heap_Unify_s1_L1 at hF
 refine go ?_
 refine cF hF (fun h39 hF=>?_) (fun h39 hF=>?_)
 refine go ?_
 refine WPU.block ?_
 obtain ⟨x40,h41,hF⟩:=bindO_some hF
 refine go ?_
 refine RS.q rfl (op_ia rfl rfl (ia_vl cGA2Int un71.h (sz_of if70.h) (by decide) len_cGA2Int (vo rfl) h41)) ?_
 refine RS.q (u:=.agg (cGA2Int x40)) rfl (ld_vec cGA2Int un70.h rfl (sz_of if70.h) len_cGA2Int rfl rfl h41 rfl) ?_
 obtain ⟨h42,hF⟩:=needO_some hF
 obtain ⟨h43,hF⟩:=needO_some hF
 refine gn ?_
 refine WPU.joinK (fun tm σ=>tm=fr 135 [(3,.ptr 4 0 0),(6,.ptr 5 0 0),(8,.vl 7 t30 0 ((l29.take ((IntKind.i64.wrap ((l29.length:Int) - 1)).toNat)).length)),(9,.ptr 8 0 0)]∧σ=⟨[(8,.row (cGA2Int x40) 70),(7,.vec (List.map cGA2Int (l29.take ((IntKind.i64.wrap ((l29.length:Int) - 1)).toNat))).flatten 70 2 t30),(6,.row [.i6 (p7.length:Int)] 3),(5,.row [.bool false] 4),(4,.row [.ptr 0 0 0] 24),(0,.row [.iM cGType p3,.iM cGFeature p4,.vl 1 t6 0 l31.length,.vl 2 t33 0 l32.length,.vl 3 t10 0 p9.length] 52),(1,.vec (List.map cGcell l31).flatten 66 3 t6),(2,.vec (List.map cGchange l32).flatten 97 4 t33),(3,.vec (List.map cGmark p9).flatten 64 2 t10)],9⟩) ?_ ?_
 rintro _ _ ⟨rfl,rfl⟩
 obtain ⟨r44,h45,hF⟩:=bindO_some hF
 obtain ⟨r47,h48,hF⟩:=bindO_some hF
 refine go ?_
 refine WPU.drawE Try.tb_ok [(4,3),(5,3),(6,3)] (by kernel_rfl) ?_
 refine gd ?_
 refine RD.q rfl (op_ia rfl rfl (ia_ar un70.h (sz_of if3.h) rfl (by decide) rfl)) ?_
 refine gd ?_
 refine RD.callm (u:=.i6 r44) (σ1:=⟨[(8,.row (cGA2Int x40) 70),(7,.vec (List.map cGA2Int (l29.take ((IntKind.i64.wrap ((l29.length:Int) - 1)).toNat))).flatten 70 2 t30),(6,.row [.i6 (p7.length:Int)] 3),(5,.row [.bool false] 4),(4,.row [.ptr 0 0 0] 24),(0,.row [.iM cGType p3,.iM cGFeature p4,.vl 1 t6 0 l31.length,.vl 2 t33 0 l32.length,.vl 3 t10 0 p9.length] 52),(1,.vec (List.map cGcell l31).flatten 66 3 t6),(2,.vec (List.map cGchange l32).flatten 97 4 t33),(3,.vec (List.map cGmark p9).flatten 64 2 t10)],9⟩) (args:=[.ptr 0 0 0,.i6 x40.E0]) rfl (op_call rfl rfl fn20 hb20 rfl rfl) ((EvU.st [0,1,2,3] (trail_Heap_find_s1_0 n x40.E0 p3 p4 l31 l32 p9 r44 h45 t6 t33 t10)).mono fun _ _ ⟨_,h⟩=>h) rfl rfl ?_
 refine gd ?_
 refine RD.q rfl (op_ia rfl rfl (ia_ar un70.h (sz_of if3.h) rfl (by decide) rfl)) ?_
 refine gd ?_
 refine RD.callm (u:=.i6 r47) (σ1:=⟨[(8,.row (cGA2Int x40) 70),(7,.vec (List.map cGA2Int (l29.take ((IntKind.i64.wrap ((l29.length:Int) - 1)).toNat))).flatten 70 2 t30),(6,.row [.i6 (p7.length:Int)] 3),(5,.row [.bool false] 4),(4,.row [.ptr 0 0 0] 24),(0,.row [.iM cGType p3,.iM cGFeature p4,.vl 1 t6 0 l31.length,.vl 2 t33 0 l32.length,.vl 3 t10 0 p9.length] 52),(1,.vec (List.map cGcell l31).flatten 66 3 t6),(2,.vec (List.map cGchange l32).flatten 97 4 t33),(3,.vec (List.map cGmark p9).flatten 64 2 t10)],9⟩) (args:=[.ptr 0 0 0,.i6 x40.E1]) rfl (op_call rfl rfl fn20 hb20 rfl rfl) ((EvU.st [0,1,2,3] (trail_Heap_find_s1_0 n x40.E1 p3 p4 l31 l32 p9 r47 h48 t6 t33 t10)).mono fun _ _ ⟨_,h⟩=>h) rfl rfl ?_
 refine gd ?_
 refine RD.done ⟨by kernel_rfl,⟨ld_one un24.h rfl rfl rfl rfl,⟨op_ia rfl rfl (ia_ar un70.h (sz_of if3.h) rfl (by decide) rfl),⟨ld_one un3.h rfl rfl rfl rfl,trivial⟩⟩⟩,?_⟩
 refine go ?_
 refine cF hF (fun h50 hF=>?_) (fun h50 hF=>?_)
 refine go ?_
 exact lC ⟨(l29.take ((IntKind.i64.wrap ((l29.length:Int) - 1)).toNat)),t30,l31,l32,t33,hF,rfl,rfl⟩
 obtain ⟨x51,h52,hF⟩:=bindO_some hF
 obtain ⟨x53,h54,hF⟩:=bindO_some hF
 obtain ⟨r55,h56,hF⟩:=bindO_some hF
 refine go ?_
 refine WPU.drawE Try.tb_ok [] (by kernel_rfl) ?_
 refine gd ?_
 refine RD.q (u:=.ptr 0 0 0) rfl (op_nc1 rfl rfl) ?_
 refine gd ?_
 refine RD.q (u:=.ptr 0 0 0) rfl (op_nc1 rfl rfl) ?_
 refine gd ?_
 refine RD.q rfl (op_ia rfl rfl (ia_vl cGcell un48.h (sz_of if66.h) (by decide) len_cGcell (vo rfl) h52)) ?_
 refine RD.q rfl (op_fa un66.h rfl (sz_of if3.h) rfl (live_v rfl) rfl) (RD.q (u:=.i6 x51.kind) rfl (ld_vf cGcell un3.h rfl len_cGcell rfl rfl (idxO_V h52) rfl) ?_)
 refine gd ?_
 refine RD.q (u:=.ptr 0 0 0) rfl (op_nc1 rfl rfl) ?_
 refine gd ?_
 refine RD.q rfl (op_ia rfl rfl (ia_vl cGcell un48.h (sz_of if66.h) (by decide) len_cGcell (vo rfl) h54)) ?_
 refine RD.q rfl (op_fa un66.h rfl (sz_of if3.h) rfl (live_v rfl) rfl) (RD.q (u:=.i6 x53.kind) rfl (ld_vf cGcell un3.h rfl len_cGcell rfl rfl (idxO_V h54) rfl) (RD.fl rfl (pC (hier_Meet_0 n (GHierarchy.mk p3 p4) x51.kind x53.kind r55 h56)) fn21 ?_))
 refine gd ?_
 refine RD.done ⟨by kernel_rfl,trivial,?_⟩
 refine go ?_
 refine cF hF (fun h57 hF=>?_) (fun h57 hF=>?_)
 refine gr ?_
 refine ⟨.inr rfl,_,_,fn19,rfl,?_⟩
 refine WPU.ghost (tm':=fr 8 [(0,.ptr 5 0 0),(1,.ptr 4 0 0),(2,.ptr 6 0 0)]) (Gh.start NL) (Nat.le_refl _) ?_
 refine go ?_
 refine WPU.condS (t:=true) rfl (fun _=>?_) (fun hc=>by cases hc)
 obtain ⟨r58,h59,hF⟩:=bindO_some hF
 refine go ?_
 refine RS.callx (R:=fun u σ'=>∃ t60:Nat→Nat,u = .tup []∧σ'=⟨[(8,.row (cGA2Int x40) 70),(7,.vec (List.map cGA2Int (l29.take ((IntKind.i64.wrap ((l29.length:Int) - 1)).toNat))).flatten 70 2 t30),(6,.row [.i6 (p7.length:Int)] 3),(5,.row [.bool false] 4),(4,.row [.ptr 0 0 0] 24),(0,.row [.iM cGType p3,.iM cGFeature p4,.vl 1 t6 0 r58.1.length,.vl 2 t33 0 r58.2.length,.vl 3 t10 0 p9.length] 52),(1,.vec (List.map cGcell r58.1).flatten 66 3 t6),(2,.vec (List.map cGchange r58.2).flatten 97 4 t33),(3,.vec (List.map cGmark p9).flatten 64 2 t10)],9⟩) (args:=[.ptr 0 0 0,.i6 (p7.length:Int)]) rfl (op_call rfl rfl fn18 hb18 rfl rfl) (EvU.st [0,1,2,3] (trail_Heap_back_s1_0 n (p7.length:Int) p3 p4 l31 l32 p9 r58 h59 t6 t33 t10)) rfl rfl ?_
 rintro _ _ ⟨t60,rfl,rfl⟩
 refine go ?_
 obtain rfl:=sI hF
 exact ⟨.inl rfl,⟨_,res_n⟩,[.bool false],res_c (ld_one un4.h rfl rfl rfl rfl) (res_n),.bool false,⟨[(0,.row [.iM cGType p3,.iM cGFeature p4,.vl 1 t6 0 r58.1.length,.vl 2 t33 0 r58.2.length,.vl 3 t10 0 p9.length] 52),(1,.vec (List.map cGcell r58.1).flatten 66 3 t6),(2,.vec (List.map cGchange r58.2).flatten 97 4 t33),(3,.vec (List.map cGmark p9).flatten 64 2 t10)],4⟩,NL,Gh.to (n1:=4) [] rfl rfl NL NL BUL.h BH.h,stF [],rfl,rfl⟩
 obtain ⟨x61,h62,hF⟩:=bindO_some hF
 obtain ⟨x63,h64,hF⟩:=bindO_some hF
 obtain ⟨r65,h66,hF⟩:=bindO_some hF
 refine go ?_
 refine WPU.drawE Try.tb_ok [] (by kernel_rfl) ?_
 refine gd ?_
 refine RD.q (u:=.ptr 0 0 0) rfl (op_nc1 rfl rfl) ?_
 refine gd ?_
 refine RD.q rfl (op_ia rfl rfl (ia_vl cGcell un48.h (sz_of if66.h) (by decide) len_cGcell (vo rfl) h62)) ?_
 refine RD.q rfl (op_fa un66.h rfl (sz_of if40.h) rfl (live_v rfl) rfl) (RD.q (u:=.iM cGArc x61.arcs) rfl (ld_vf cGcell un40.h rfl len_cGcell rfl rfl (idxO_V h62) rfl) ?_)
 refine gd ?_
 refine RD.q (u:=.ptr 0 0 0) rfl (op_nc1 rfl rfl) ?_
 refine gd ?_
 refine RD.q rfl (op_ia rfl rfl (ia_vl cGcell un48.h (sz_of if66.h) (by decide) len_cGcell (vo rfl) h64)) ?_
 refine RD.q rfl (op_fa un66.h rfl (sz_of if40.h) rfl (live_v rfl) rfl) (RD.q (u:=.iM cGArc x63.arcs) rfl (ld_vf cGcell un40.h rfl len_cGcell rfl rfl (idxO_V h64) rfl) (RD.fl rfl (pC (trail_joined_0 n x61.arcs x63.arcs r65 h66)) fn22 ?_))
 refine gd ?_
 refine RD.done ⟨by kernel_rfl,trivial,?_⟩
 obtain ⟨r67,h68,hF⟩:=bindO_some hF
 refine go ?_
 refine RS.callx (R:=fun u σ'=>∃ t69:Nat→Nat,u = .tup []∧σ'=⟨[(8,.row (cGA2Int x40) 70),(7,.vec (List.map cGA2Int (l29.take ((IntKind.i64.wrap ((l29.length:Int) - 1)).toNat))).flatten 70 2 t30),(6,.row [.i6 (p7.length:Int)] 3),(5,.row [.bool false] 4),(4,.row [.ptr 0 0 0] 24),(0,.row [.iM cGType p3,.iM cGFeature p4,.vl 1 t6 0 r67.1.length,.vl 2 r67.2.2 0 r67.2.1.length,.vl 3 t10 0 p9.length] 52),(1,.vec (List.map cGcell r67.1).flatten 66 3 t6),(2,.vec (List.map cGchange r67.2.1).flatten 97 4 r67.2.2),(3,.vec (List.map cGmark p9).flatten 64 2 t10)],9⟩) (args:=[.ptr 0 0 0,.i6 r44,.agg [.i6 (-1),.i6 r55.1,.iM cGArc r65.1]]) rfl (op_call rfl rfl fn23 hb23 rfl rfl) (EvU.st [0,1,2,3] (trail_Heap_set_s1_0 n r44 (Gcell.mk (-1) r55.1 r65.1) p3 p4 l31 l32 t33 p9 r67 h68 t6 t10)) rfl rfl ?_
 rintro _ _ ⟨t69,rfl,rfl⟩
 obtain ⟨r70,h71,hF⟩:=bindO_some hF
 refine go ?_
 refine RS.callx (R:=fun u σ'=>∃ t72:Nat→Nat,u = .tup []∧σ'=⟨[(8,.row (cGA2Int x40) 70),(7,.vec (List.map cGA2Int (l29.take ((IntKind.i64.wrap ((l29.length:Int) - 1)).toNat))).flatten 70 2 t30),(6,.row [.i6 (p7.length:Int)] 3),(5,.row [.bool false] 4),(4,.row [.ptr 0 0 0] 24),(0,.row [.iM cGType p3,.iM cGFeature p4,.vl 1 t6 0 r70.1.length,.vl 2 r70.2.2 0 r70.2.1.length,.vl 3 t10 0 p9.length] 52),(1,.vec (List.map cGcell r70.1).flatten 66 3 t6),(2,.vec (List.map cGchange r70.2.1).flatten 97 4 r70.2.2),(3,.vec (List.map cGmark p9).flatten 64 2 t10)],9⟩) (args:=[.ptr 0 0 0,.i6 r47,.agg [.i6 r44,.i6 0,.nils]]) rfl (op_call rfl rfl fn23 hb23 rfl rfl) (EvU.st [0,1,2,3] (trail_Heap_set_s2_0 n r47 r44 0 p3 p4 r67.1 r67.2.1 r67.2.2 p9 r70 h71 t6 t10)) rfl rfl ?_
 rintro _ _ ⟨t72,rfl,rfl⟩
 obtain ⟨h73,hF⟩:=needO_some hF
 refine go ?_
 refine RS.g ?_
 refine go ?_
 exact lC ⟨((l29.take ((IntKind.i64.wrap ((l29.length:Int) - 1)).toNat))++r65.2),(t30+1),r70.1,r70.2.1,r70.2.2,hF,rfl,rfl⟩
 refine go ?_
 refine RS.q (u:=.vl 7 t30 0 ((IntKind.i64.wrap ((l29.length:Int) - 1)).toNat)) rfl (op_slice rfl em_n (em_s rfl) em_n (sl_vp cGA2Int un71.h (sz_of if70.h) len_cGA2Int (vo rfl) (Nat.le_of_eq (Nat.zero_add _)) (bnd_hi h42.1 h42.2))) ?_
 refine go ?_
 exact ⟨_,_,⟨rfl,rfl⟩,NL,Gh.truncE (K:=7) cGA2Int len_cGA2Int rfl ((IntKind.i64.wrap ((l29.length:Int) - 1)).toNat) ⟨rfl,rfl,(by rw [List.length_take_of_le h43]<;>rfl),rfl,trivial⟩ (by first | (rw [List.length_take_of_le h43]<;>rfl) | rfl)⟩
 refine go ?_
 exact xC ⟨l29,t30,l31,l32,t33,hF,rfl,rfl⟩
 rcases gB h15 with ⟨h11,h15⟩ | ⟨h11,h15⟩
 exact gy h15
 rcases gB h15 with ⟨h12,h15⟩ | ⟨h12,h15⟩
 obtain rfl:=sI h15
 refine go ?_
 refine RS.w (u:=.ptr 0 0 0) rfl (op_nc1 rfl rfl) ?_
 refine go ?_
 exact xC ⟨rfl,rfl⟩
 rcases gB h15 with ⟨h13,h15⟩ | ⟨h13,h15⟩
 obtain rfl:=sI h15
 refine go ?_
 refine RS.w (u:=.ptr 0 0 0) rfl (op_nc1 rfl rfl) ?_
 refine go ?_
 exact xC ⟨rfl,rfl⟩
 obtain rfl:=sI h15
 refine go ?_
 refine RS.w (u:=.ptr 0 0 0) rfl (op_nc1 rfl rfl) ?_
 refine go ?_
 refine RS.w (u:=.ptr 0 0 0) rfl (op_nc1 rfl rfl) ?_
 refine go ?_
 exact xC ⟨rfl,rfl⟩
def trail_Heap_Read_1_s1_K1 (p5:List GNode) (l46:List GArc) (w48:MapL Int Int) (l49:List GNode) (t50:Nat):Option (Int×(MapL Int Int)×(List GNode)×Nat) :=
 bindO (idxO l49 (p5.length:Int)) fun x51 =>
 some ((p5.length:Int),w48,(l49.set (0+(p5.length:Int).toNat) (GNode.mk x51.Typex l46)),t50)
def trail_Heap_Read_1_s1_L1 (p2:List GType) (p3:List GFeature) (p5:List GNode) (p7:List Gcell) (p9:List Gchange) (p11:List Gmark) (x20:Gcell) (self:Int→(List GType)→(List GFeature)→(MapL Int Int)→(List GNode)→Nat→(List Gcell)→(List Gchange)→(List Gmark)→Option (Int×(MapL Int Int)×(List GNode)×Nat)):Nat→Int→(List GArc)→(MapL Int Int)→(List GNode)→Nat→Option (Int×(MapL Int Int)×(List GNode)×Nat)
 | 0,_,_,_,_,_=>none
 | m1+1,z40,l41,w43,l44,t45 =>
  cond (decide (z40<(x20.arcs.length:Int)))
   (bindO (idxO x20.arcs z40) fun x54 =>
   bindO (self x54.To p2 p3 w43 l44 t45 p7 p9 p11) fun r56 =>
   needO ((l41.length+1)*16≤140737488355328∧l41.length+1≤140737488355328) (
   (trail_Heap_Read_1_s1_L1 p2 p3 p5 p7 p9 p11 x20 self m1) (IntKind.i64.wrap (z40+1)) (l41++[(GArc.mk x54.Feat r56.1)]) r56.2.1 r56.2.2.1 r56.2.2.2))
   (trail_Heap_Read_1_s1_K1 p5 l41 w43 l44 t45)
def trail_Heap_Read_1_s1_b (n:Nat) (self:Int→(List GType)→(List GFeature)→(MapL Int Int)→(List GNode)→Nat→(List Gcell)→(List Gchange)→(List Gmark)→Option (Int×(MapL Int Int)×(List GNode)×Nat)) (p1:Int) (p2:List GType) (p3:List GFeature) (p4:MapL Int Int) (p5:List GNode) (p6:Nat) (p7:List Gcell) (p9:List Gchange) (p11:List Gmark):Option (Int×(MapL Int Int)×(List GNode)×Nat) :=
 bindO (trail_Heap_find_s1 n p1 p2 p3 p7 p9 p11) fun r13 =>
 cond ((mGet (fun a b=>a == b) p4 r13).isSome)
  (some (((mGet (fun a b=>a == b) p4 r13).getD 0),p4,p5,p6))
  (bindO (idxO p7 r13) fun x17 =>
  needO ((p5.length+1)*32≤140737488355328∧p5.length+1≤140737488355328) (
  bindO (idxO p7 r13) fun x20 =>
  trail_Heap_Read_1_s1_L1 p2 p3 p5 p7 p9 p11 x20 self n 0 ([]:List GArc) (mUpd (fun a b=>a == b) p4 r13 (p5.length:Int)) (p5++[(GNode.mk x17.kind [])]) (p6+1)))
def trail_Heap_Read_1_s1:Nat→Int→(List GType)→(List GFeature)→(MapL Int Int)→(List GNode)→Nat→(List Gcell)→(List Gchange)→(List Gmark)→Option (Int×(MapL Int Int)×(List GNode)×Nat)
 | 0,_,_,_,_,_,_,_,_,_=>none
 | n+1,p1,p2,p3,p4,p5,p6,p7,p9,p11=>trail_Heap_Read_1_s1_b n (trail_Heap_Read_1_s1 n) p1 p2 p3 p4 p5 p6 p7 p9 p11
theorem trail_Heap_Read_1_s1_0:∀ (n:Nat) (p1:Int) (p2:List GType) (p3:List GFeature) (p4:MapL Int Int) (p5:List GNode) (p6:Nat) (p7:List Gcell) (p9:List Gchange) (p11:List Gmark) (r:Int×(MapL Int Int)×(List GNode)×Nat),trail_Heap_Read_1_s1 n p1 p2 p3 p4 p5 p6 p7 p9 p11=some r→∀ t8 t10 t12:Nat,EvU Try.prog 24 [.int .i64 p1,.ptr 0 0 0,.ptr 1 0 0,.ptr 2 0 0,.ptr 3 0 0] ⟨[(0,.row [.ptr 4 0 0] 24),(1,.row [.map 5] 78),(2,.row [.vl 6 p6 0 p5.length] 35),(3,.row [.fn (.func 24) [] [.ptr 0 0 0,.ptr 1 0 0,.ptr 2 0 0,.ptr 3 0 0]] 72),(4,.row [.isl false (List.map cGType p2),.isl false (List.map cGFeature p3),.vl 7 t8 0 p7.length,.vl 8 t10 0 p9.length,.vl 9 t12 0 p11.length] 52),(5,.map (List.map (mE (fun x=>.int .i64 x) (fun x=>.int .i64 x)) p4.es) p4.cl),(6,.vec (List.map cGNode p5).flatten 42 2 p6),(7,.vec (List.map cGcell p7).flatten 66 3 t8),(8,.vec (List.map cGchange p9).flatten 97 4 t10),(9,.vec (List.map cGmark p11).flatten 64 2 t12)],10⟩ (fun u σ'=>∃ t:Nat→Nat,u = .int .i64 r.1∧σ'=⟨[(0,.row [.ptr 4 0 0] 24),(1,.row [.map 5] 78),(2,.row [.vl 6 r.2.2.2 0 r.2.2.1.length] 35),(3,.row [.fn (.func 24) [] [.ptr 0 0 0,.ptr 1 0 0,.ptr 2 0 0,.ptr 3 0 0]] 72),(4,.row [.isl false (List.map cGType p2),.isl false (List.map cGFeature p3),.vl 7 t8 0 p7.length,.vl 8 t10 0 p9.length,.vl 9 t12 0 p11.length] 52),(5,.map (List.map (mE (fun x=>.int .i64 x) (fun x=>.int .i64 x)) r.2.1.es) r.2.1.cl),(6,.vec (List.map cGNode r.2.2.1).flatten 42 2 r.2.2.2),(7,.vec (List.map cGcell p7).flatten 66 3 t8),(8,.vec (List.map cGchange p9).flatten 97 4 t10),(9,.vec (List.map cGmark p11).flatten 64 2 t12)],10⟩)
 | 0,p1,p2,p3,p4,p5,p6,p7,p9,p11,r,hF=>by cases hF
 | n+1,p1,p2,p3,p4,p5,p6,p7,p9,p11,r,hF=>by
  have ih:=trail_Heap_Read_1_s1_0 n
  unfold trail_Heap_Read_1_s1 trail_Heap_Read_1_s1_b at hF
  intro t8 t10 t12
  refine bg5 75 fn24 ?_
  obtain ⟨r13,h14,hF⟩:=bindO_some hF
  refine go ?_
  refine RS.callx (R:=fun u σ'=>∃ t15:Nat→Nat,u = .i6 r13∧σ'=⟨[(0,.row [.ptr 4 0 0] 24),(1,.row [.map 5] 78),(2,.row [.vl 6 p6 0 p5.length] 35),(3,.row [.fn (.func 24) [] [.ptr 0 0 0,.ptr 1 0 0,.ptr 2 0 0,.ptr 3 0 0]] 72),(4,.row [.iM cGType p2,.iM cGFeature p3,.vl 7 t8 0 p7.length,.vl 8 t10 0 p9.length,.vl 9 t12 0 p11.length] 52),(5,.map (List.map (mE (fun x=>.i6 x) (fun x=>.i6 x)) p4.es) p4.cl),(6,.vec (List.map cGNode p5).flatten 42 2 p6),(7,.vec (List.map cGcell p7).flatten 66 3 t8),(8,.vec (List.map cGchange p9).flatten 97 4 t10),(9,.vec (List.map cGmark p11).flatten 64 2 t12)],10⟩) (args:=[.ptr 4 0 0,.i6 p1]) rfl (op_call rfl rfl fn20 hb20 rfl rfl) (EvU.st [4,7,8,9] (trail_Heap_find_s1_0 n p1 p2 p3 p7 p9 p11 r13 h14 t8 t10 t12)) rfl rfl ?_
  rintro _ _ ⟨t15,rfl,rfl⟩
  refine go ?_
  refine RS.q (u:=.tup [.i6 ((mGet (fun a b=>a == b) p4 r13).getD 0),.bool ((mGet (fun a b=>a == b) p4 r13).isSome)]) rfl (op_look2 (kU:=(fun x=>.i6 x)) (vU:=(fun x=>.i6 x)) (m:=p4) (k:=r13) (zv:=0) (key_int un3.h) un78.h rfl rfl rfl if3.h rfl) ?_
  refine go ?_
  refine cF hF (fun h16 hF=>?_) (fun h16 hF=>?_)
  refine go ?_
  obtain rfl:=sI hF
  exact ⟨.inr rfl,[.i6 ((mGet (fun a b=>a == b) p4 r13).getD 0)],res_t rfl (res_n),.i6 ((mGet (fun a b=>a == b) p4 r13).getD 0),⟨[(0,.row [.ptr 4 0 0] 24),(1,.row [.map 5] 78),(2,.row [.vl 6 p6 0 p5.length] 35),(3,.row [.fn (.func 24) [] [.ptr 0 0 0,.ptr 1 0 0,.ptr 2 0 0,.ptr 3 0 0]] 72),(4,.row [.iM cGType p2,.iM cGFeature p3,.vl 7 t8 0 p7.length,.vl 8 t10 0 p9.length,.vl 9 t12 0 p11.length] 52),(5,.map (List.map (mE (fun x=>.i6 x) (fun x=>.i6 x)) p4.es) p4.cl),(6,.vec (List.map cGNode p5).flatten 42 2 p6),(7,.vec (List.map cGcell p7).flatten 66 3 t8),(8,.vec (List.map cGchange p9).flatten 97 4 t10),(9,.vec (List.map cGmark p11).flatten 64 2 t12)],10⟩,NL,Gh.to (n1:=10) [] rfl rfl NL NL BUL.h BH.h,stF [],rfl,rfl⟩
  refine go ?_
  refine RS.opn (u:=.junk) (σ':=⟨[(0,.row [.ptr 4 0 0] 24),(1,.row [.map 5] 78),(2,.row [.vl 6 p6 0 p5.length] 35),(3,.row [.fn (.func 24) [] [.ptr 0 0 0,.ptr 1 0 0,.ptr 2 0 0,.ptr 3 0 0]] 72),(4,.row [.iM cGType p2,.iM cGFeature p3,.vl 7 t8 0 p7.length,.vl 8 t10 0 p9.length,.vl 9 t12 0 p11.length] 52),(5,.map (List.map (mE (fun x=>.i6 x) (fun x=>.i6 x)) (mUpd (fun a b=>a == b) p4 r13 (p5.length:Int)).es) (mUpd (fun a b=>a == b) p4 r13 (p5.length:Int)).cl),(6,.vec (List.map cGNode p5).flatten 42 2 p6),(7,.vec (List.map cGcell p7).flatten 66 3 t8),(8,.vec (List.map cGchange p9).flatten 97 4 t10),(9,.vec (List.map cGmark p11).flatten 64 2 t12)],10⟩) rfl (op_mup (kU:=(fun x=>.i6 x)) (vU:=(fun x=>.i6 x)) (m:=p4) (k:=r13) (v:=(p5.length:Int)) (key_int un3.h) un78.h rfl rfl rfl rfl rfl) rfl ?_
  obtain ⟨x17,h18,hF⟩:=bindO_some hF
  obtain ⟨h19,hF⟩:=needO_some hF
  refine go ?_
  refine WPU.drawE Try.tb_ok [(0,11),(1,11)] (by kernel_rfl) ?_
  refine gd ?_
  refine RD.q (u:=.ptr 4 0 0) rfl (op_nc1 rfl rfl) ?_
  refine gd ?_
  refine RD.q rfl (op_ia rfl rfl (ia_vl cGcell un48.h (sz_of if66.h) (by decide) len_cGcell (vo rfl) h18)) ?_
  refine RD.q rfl (op_fa un66.h rfl (sz_of if3.h) rfl (live_v rfl) rfl) (RD.q (u:=.i6 x17.kind) rfl (ld_vf cGcell un3.h rfl len_cGcell rfl rfl (idxO_V h18) rfl) ?_)
  refine gd ?_
  refine RD.g ?_
  refine RD.g ?_
  refine gd ?_
  refine RD.gz ?_
  refine RD.done ⟨by kernel_rfl,⟨op_fa un35.h rfl (sz_of if33.h) rfl rfl rfl,⟨ld_one un33.h rfl rfl rfl rfl,trivial⟩⟩,?_⟩
  obtain ⟨x20,h21,hF⟩:=bindO_some hF
  refine go ?_
  refine RS.q (u:=.ptr 4 0 0) rfl (op_nc1 rfl rfl) ?_
  refine go ?_
  refine RS.q rfl (op_ia rfl rfl (ia_vl cGcell un48.h (sz_of if66.h) (by decide) len_cGcell (vo rfl) h21)) ?_
  refine RS.q rfl (op_fa un66.h rfl (sz_of if40.h) rfl (live_v rfl) rfl) (RS.q (u:=.iM cGArc x20.arcs) rfl (ld_vf cGcell un40.h rfl len_cGcell rfl rfl (idxO_V h21) rfl) ?_)
  refine gn ?_
  refine WPU.ghost (tm':=fr 75 [(3,.ptr 2 0 0),(4,.ptr 3 0 0),(9,.i6 (p5.length:Int)),(10,.vl 11 0 0 (([]:List GArc).length)),(51,.iM cGArc x20.arcs),(52,.i6 (x20.arcs.length:Int)),(53,.i6 0)]) (σ':=⟨[(11,.vec (List.map cGArc ([]:List GArc)).flatten 68 2 0),(10,.row [.i6 x17.kind,.nils] 42),(0,.row [.ptr 4 0 0] 24),(1,.row [.map 5] 78),(2,.row [.vl 6 (p6+1) 0 ((p5++[(GNode.mk x17.kind [])]).length)] 35),(3,.row [.fn (.func 24) [] [.ptr 0 0 0,.ptr 1 0 0,.ptr 2 0 0,.ptr 3 0 0]] 72),(4,.row [.iM cGType p2,.iM cGFeature p3,.vl 7 t8 0 p7.length,.vl 8 t10 0 p9.length,.vl 9 t12 0 p11.length] 52),(5,.map (List.map (mE (fun x=>.i6 x) (fun x=>.i6 x)) (mUpd (fun a b=>a == b) p4 r13 (p5.length:Int)).es) (mUpd (fun a b=>a == b) p4 r13 (p5.length:Int)).cl),(6,.vec (List.map cGNode (p5++[(GNode.mk x17.kind [])])).flatten 42 2 (p6+1)),(7,.vec (List.map cGcell p7).flatten 66 3 t8),(8,.vec (List.map cGchange p9).flatten 97 4 t10),(9,.vec (List.map cGmark p11).flatten 64 2 t12)],12⟩) (Gh.trans (Gh.nilS 10 68 2 (by decide) NL rfl rfl) (Gh.eqS ⟨rfl,rfl,rfl,rfl,rfl,rfl,rfl,trivial⟩ rfl)) NL ?_
  refine gS (l':=[(3,_),(4,_),(9,_),(10,_),(51,_),(52,_),(53,_)]) ?_
  refine WPU.loopK (fun m tm σ=>∃ z40:Int,∃ l41:List GArc,∃ t42:Nat,∃ w43:MapL Int Int,∃ l44:List GNode,∃ t45:Nat,trail_Heap_Read_1_s1_L1 p2 p3 p5 p7 p9 p11 x20 (trail_Heap_Read_1_s1 n) m z40 l41 w43 l44 t45=some r∧tm=fr 75 [(3,.ptr 2 0 0),(4,.ptr 3 0 0),(9,.i6 (p5.length:Int)),(10,.vl 11 t42 0 l41.length),(51,.iM cGArc x20.arcs),(52,.i6 (x20.arcs.length:Int)),(53,.i6 z40)]∧σ=⟨[(11,.vec (List.map cGArc l41).flatten 68 2 t42),(10,.row [.i6 x17.kind,.nils] 42),(0,.row [.ptr 4 0 0] 24),(1,.row [.map 5] 78),(2,.row [.vl 6 t45 0 l44.length] 35),(3,.row [.fn (.func 24) [] [.ptr 0 0 0,.ptr 1 0 0,.ptr 2 0 0,.ptr 3 0 0]] 72),(4,.row [.iM cGType p2,.iM cGFeature p3,.vl 7 t8 0 p7.length,.vl 8 t10 0 p9.length,.vl 9 t12 0 p11.length] 52),(5,.map (List.map (mE (fun x=>.i6 x) (fun x=>.i6 x)) w43.es) w43.cl),(6,.vec (List.map cGNode l44).flatten 42 2 t45),(7,.vec (List.map cGcell p7).flatten 66 3 t8),(8,.vec (List.map cGchange p9).flatten 97 4 t10),(9,.vec (List.map cGmark p11).flatten 64 2 t12)],12⟩) (fun tm σ=>∃ l46:List GArc,∃ t47:Nat,∃ w48:MapL Int Int,∃ l49:List GNode,∃ t50:Nat,trail_Heap_Read_1_s1_K1 p5 l46 w48 l49 t50=some r∧tm=fr 75 [(3,.ptr 2 0 0),(9,.i6 (p5.length:Int)),(10,.vl 11 t47 0 l46.length)]∧σ=⟨[(11,.vec (List.map cGArc l46).flatten 68 2 t47),(10,.row [.i6 x17.kind,.nils] 42),(0,.row [.ptr 4 0 0] 24),(1,.row [.map 5] 78),(2,.row [.vl 6 t50 0 l49.length] 35),(3,.row [.fn (.func 24) [] [.ptr 0 0 0,.ptr 1 0 0,.ptr 2 0 0,.ptr 3 0 0]] 72),(4,.row [.iM cGType p2,.iM cGFeature p3,.vl 7 t8 0 p7.length,.vl 8 t10 0 p9.length,.vl 9 t12 0 p11.length] 52),(5,.map (List.map (mE (fun x=>.i6 x) (fun x=>.i6 x)) w48.es) w48.cl),(6,.vec (List.map cGNode l49).flatten 42 2 t50),(7,.vec (List.map cGcell p7).flatten 66 3 t8),(8,.vec (List.map cGchange p9).flatten 97 4 t10),(9,.vec (List.map cGmark p11).flatten 64 2 t12)],12⟩) n ⟨0,([]:List GArc),0,(mUpd (fun a b=>a == b) p4 r13 (p5.length:Int)),(p5++[(GNode.mk x17.kind [])]),(p6+1),hF,rfl,rfl⟩ ?_ ?_
  rintro _ _ ⟨l46,t47,w48,l49,t50,hF,rfl,rfl⟩
  unfold trail_Heap_Read_1_s1_K1 at hF
  refine gn ?_
  refine WPU.ghost (tm':=fr 75 [(3,.ptr 2 0 0),(9,.i6 (p5.length:Int)),(10,.iM cGArc l46)]) (σ':=⟨[(10,.row [.i6 x17.kind,.nils] 42),(0,.row [.ptr 4 0 0] 24),(1,.row [.map 5] 78),(2,.row [.vl 6 t50 0 l49.length] 35),(3,.row [.fn (.func 24) [] [.ptr 0 0 0,.ptr 1 0 0,.ptr 2 0 0,.ptr 3 0 0]] 72),(4,.row [.iM cGType p2,.iM cGFeature p3,.vl 7 t8 0 p7.length,.vl 8 t10 0 p9.length,.vl 9 t12 0 p11.length] 52),(5,.map (List.map (mE (fun x=>.i6 x) (fun x=>.i6 x)) w48.es) w48.cl),(6,.vec (List.map cGNode l49).flatten 42 2 t50),(7,.vec (List.map cGcell p7).flatten 66 3 t8),(8,.vec (List.map cGchange p9).flatten 97 4 t10),(9,.vec (List.map cGmark p11).flatten 64 2 t12)],12⟩) (Gh.trans (Gh.sub (l':=[(3,.ptr 2 0 0),(9,.i6 (p5.length:Int)),(10,.vl 11 t47 0 l46.length)]) ⟨rfl,rfl,rfl,trivial⟩) (Gh.fzS (l':=[(3,.ptr 2 0 0),(9,.i6 (p5.length:Int)),(10,.iM cGArc l46)]) (h':=[(10,.row [.i6 x17.kind,.nils] 42),(0,.row [.ptr 4 0 0] 24),(1,.row [.map 5] 78),(2,.row [.vl 6 t50 0 l49.length] 35),(3,.row [.fn (.func 24) [] [.ptr 0 0 0,.ptr 1 0 0,.ptr 2 0 0,.ptr 3 0 0]] 72),(4,.row [.iM cGType p2,.iM cGFeature p3,.vl 7 t8 0 p7.length,.vl 8 t10 0 p9.length,.vl 9 t12 0 p11.length] 52),(5,.map (List.map (mE (fun x=>.i6 x) (fun x=>.i6 x)) w48.es) w48.cl),(6,.vec (List.map cGNode l49).flatten 42 2 t50),(7,.vec (List.map cGcell p7).flatten 66 3 t8),(8,.vec (List.map cGchange p9).flatten 97 4 t10),(9,.vec (List.map cGmark p11).flatten 64 2 t12)]) 11 (.vec (List.map cGArc l46).flatten 68 2 t47) 2 rfl (by simp) (by simp only [fzS,oneU,fzL_nil,fzL_cons,fz_int,fz_bool,fz_str,fz_nils,fz_nilp,fz_nilm,fz_nilf,fz_junk,fz_isl,fz_map,fz_agg,fz_tup,fz_fn,junkT,fz_vl len_cGArc,fz_vn (show Nat.beq 0 11=false from rfl),fz_sn (show Nat.beq 0 11=false from rfl),fz_pn (show Nat.beq 0 11=false from rfl),fz_vn (show Nat.beq 1 11=false from rfl),fz_sn (show Nat.beq 1 11=false from rfl),fz_pn (show Nat.beq 1 11=false from rfl),fz_vn (show Nat.beq 2 11=false from rfl),fz_sn (show Nat.beq 2 11=false from rfl),fz_pn (show Nat.beq 2 11=false from rfl),fz_vn (show Nat.beq 3 11=false from rfl),fz_sn (show Nat.beq 3 11=false from rfl),fz_pn (show Nat.beq 3 11=false from rfl),fz_vn (show Nat.beq 4 11=false from rfl),fz_sn (show Nat.beq 4 11=false from rfl),fz_pn (show Nat.beq 4 11=false from rfl),fz_vn (show Nat.beq 5 11=false from rfl),fz_sn (show Nat.beq 5 11=false from rfl),fz_pn (show Nat.beq 5 11=false from rfl),fz_vn (show Nat.beq 6 11=false from rfl),fz_sn (show Nat.beq 6 11=false from rfl),fz_pn (show Nat.beq 6 11=false from rfl),fz_vn (show Nat.beq 7 11=false from rfl),fz_sn (show Nat.beq 7 11=false from rfl),fz_pn (show Nat.beq 7 11=false from rfl),fz_vn (show Nat.beq 8 11=false from rfl),fz_sn (show Nat.beq 8 11=false from rfl),fz_pn (show Nat.beq 8 11=false from rfl),fz_vn (show Nat.beq 9 11=false from rfl),fz_sn (show Nat.beq 9 11=false from rfl),fz_pn (show Nat.beq 9 11=false from rfl),fzL_bel _ _ _ (bel_flat 11 (fun q=>bel_cGNode _ q) l49),fzL_bel _ _ _ (bel_flat 11 (fun q=>bel_cGcell _ q) p7),fzL_bel _ _ _ (bel_flat 11 (fun q=>bel_cGchange _ q) p9),fzL_bel _ _ _ (bel_flat 11 (fun q=>bel_cGmark _ q) p11),fz_mE]) (by simp only [fzH,fzB,ug,Nat.beq,cond_true,cond_false,oneU,fzL_nil,fzL_cons,fz_int,fz_bool,fz_str,fz_nils,fz_nilp,fz_nilm,fz_nilf,fz_junk,fz_isl,fz_map,fz_agg,fz_tup,fz_fn,junkT,fz_vl len_cGArc,fz_vn (show Nat.beq 0 11=false from rfl),fz_sn (show Nat.beq 0 11=false from rfl),fz_pn (show Nat.beq 0 11=false from rfl),fz_vn (show Nat.beq 1 11=false from rfl),fz_sn (show Nat.beq 1 11=false from rfl),fz_pn (show Nat.beq 1 11=false from rfl),fz_vn (show Nat.beq 2 11=false from rfl),fz_sn (show Nat.beq 2 11=false from rfl),fz_pn (show Nat.beq 2 11=false from rfl),fz_vn (show Nat.beq 3 11=false from rfl),fz_sn (show Nat.beq 3 11=false from rfl),fz_pn (show Nat.beq 3 11=false from rfl),fz_vn (show Nat.beq 4 11=false from rfl),fz_sn (show Nat.beq 4 11=false from rfl),fz_pn (show Nat.beq 4 11=false from rfl),fz_vn (show Nat.beq 5 11=false from rfl),fz_sn (show Nat.beq 5 11=false from rfl),fz_pn (show Nat.beq 5 11=false from rfl),fz_vn (show Nat.beq 6 11=false from rfl),fz_sn (show Nat.beq 6 11=false from rfl),fz_pn (show Nat.beq 6 11=false from rfl),fz_vn (show Nat.beq 7 11=false from rfl),fz_sn (show Nat.beq 7 11=false from rfl),fz_pn (show Nat.beq 7 11=false from rfl),fz_vn (show Nat.beq 8 11=false from rfl),fz_sn (show Nat.beq 8 11=false from rfl),fz_pn (show Nat.beq 8 11=false from rfl),fz_vn (show Nat.beq 9 11=false from rfl),fz_sn (show Nat.beq 9 11=false from rfl),fz_pn (show Nat.beq 9 11=false from rfl),fzL_bel _ _ _ (bel_flat 11 (fun q=>bel_cGNode _ q) l49),fzL_bel _ _ _ (bel_flat 11 (fun q=>bel_cGcell _ q) p7),fzL_bel _ _ _ (bel_flat 11 (fun q=>bel_cGchange _ q) p9),fzL_bel _ _ _ (bel_flat 11 (fun q=>bel_cGmark _ q) p11),fz_mE]))) NL ?_
  obtain ⟨x51,h52,hF⟩:=bindO_some hF
  refine gn ?_
  refine WPU.joinK (fun tm σ=>tm=fr 75 [(9,.i6 (p5.length:Int))]∧σ=⟨[(10,.row [.i6 x17.kind,.nils] 42),(0,.row [.ptr 4 0 0] 24),(1,.row [.map 5] 78),(2,.row [.vl 6 t50 0 ((l49.set (0+(p5.length:Int).toNat) (GNode.mk x51.Typex l46)).length)] 35),(3,.row [.fn (.func 24) [] [.ptr 0 0 0,.ptr 1 0 0,.ptr 2 0 0,.ptr 3 0 0]] 72),(4,.row [.iM cGType p2,.iM cGFeature p3,.vl 7 t8 0 p7.length,.vl 8 t10 0 p9.length,.vl 9 t12 0 p11.length] 52),(5,.map (List.map (mE (fun x=>.i6 x) (fun x=>.i6 x)) w48.es) w48.cl),(6,.vec (List.map cGNode (l49.set (0+(p5.length:Int).toNat) (GNode.mk x51.Typex l46))).flatten 42 2 t50),(7,.vec (List.map cGcell p7).flatten 66 3 t8),(8,.vec (List.map cGchange p9).flatten 97 4 t10),(9,.vec (List.map cGmark p11).flatten 64 2 t12)],12⟩) ?_ ?_
  rintro _ _ ⟨rfl,rfl⟩
  refine go ?_
  obtain rfl:=sI hF
  exact ⟨.inr rfl,[.i6 (p5.length:Int)],res_t rfl (res_n),.i6 (p5.length:Int),⟨[(0,.row [.ptr 4 0 0] 24),(1,.row [.map 5] 78),(2,.row [.vl 6 t50 0 ((l49.set (0+(p5.length:Int).toNat) (GNode.mk x51.Typex l46)).length)] 35),(3,.row [.fn (.func 24) [] [.ptr 0 0 0,.ptr 1 0 0,.ptr 2 0 0,.ptr 3 0 0]] 72),(4,.row [.iM cGType p2,.iM cGFeature p3,.vl 7 t8 0 p7.length,.vl 8 t10 0 p9.length,.vl 9 t12 0 p11.length] 52),(5,.map (List.map (mE (fun x=>.i6 x) (fun x=>.i6 x)) w48.es) w48.cl),(6,.vec (List.map cGNode (l49.set (0+(p5.length:Int).toNat) (GNode.mk x51.Typex l46))).flatten 42 2 t50),(7,.vec (List.map cGcell p7).flatten 66 3 t8),(8,.vec (List.map cGchange p9).flatten 97 4 t10),(9,.vec (List.map cGmark p11).flatten 64 2 t12)],10⟩,NL,Gh.to (n1:=10) [] rfl rfl NL NL BUL.h BH.h,stF [],rfl,rfl⟩
  refine go ?_
  refine RS.q rfl (op_ia rfl rfl (ia_vl cGNode un33.h (sz_of if42.h) (by decide) len_cGNode (vo rfl) h52)) ?_
  refine RS.q rfl (op_fa un42.h rfl (sz_of if40.h) rfl (live_v rfl) rfl) (RS.opn (u:=.junk) (σ':=⟨[(10,.row [.i6 x17.kind,.nils] 42),(0,.row [.ptr 4 0 0] 24),(1,.row [.map 5] 78),(2,.row [.vl 6 t50 0 l49.length] 35),(3,.row [.fn (.func 24) [] [.ptr 0 0 0,.ptr 1 0 0,.ptr 2 0 0,.ptr 3 0 0]] 72),(4,.row [.iM cGType p2,.iM cGFeature p3,.vl 7 t8 0 p7.length,.vl 8 t10 0 p9.length,.vl 9 t12 0 p11.length] 52),(5,.map (List.map (mE (fun x=>.i6 x) (fun x=>.i6 x)) w48.es) w48.cl),(6,.vec (List.map cGNode (l49.set (0+(p5.length:Int).toNat) (GNode.mk x51.Typex l46))).flatten 42 2 t50),(7,.vec (List.map cGcell p7).flatten 66 3 t8),(8,.vec (List.map cGchange p9).flatten 97 4 t10),(9,.vec (List.map cGmark p11).flatten 64 2 t12)],12⟩) rfl (st_vf (y:=(GNode.mk x51.Typex l46)) cGNode (sz_of if40.h) len_cGNode rfl rfl rfl rfl rfl rfl (idxO_V h52) rfl rfl) rfl ?_)
  refine go ?_
  exact ⟨_,_,⟨rfl,rfl⟩,NL,Gh.eqS ⟨rfl,trivial⟩ (by simp only [List.length_set])⟩
  rintro (_|m1) _ _ ⟨z40,l41,t42,w43,l44,t45,hF,rfl,rfl⟩
  cases hF
  unfold trail_Heap_Read_1_s1_L1 at hF
  refine go ?_
  refine cF hF (fun h53 hF=>?_) (fun h53 hF=>?_)
  refine go ?_
  refine WPU.block ?_
  obtain ⟨x54,h55,hF⟩:=bindO_some hF
  refine go ?_
  refine RS.ix h55 ?_
  obtain ⟨r56,h57,hF⟩:=bindO_some hF
  obtain ⟨h59,hF⟩:=needO_some hF
  refine go ?_
  refine WPU.drawE Try.tb_ok [(0,6),(0,8),(1,6),(2,6)] (by kernel_rfl) ?_
  refine gd ?_
  refine RD.callm (u:=.i6 r56.1) (σ1:=⟨[(12,.row (cGArc x54) 68),(11,.vec (List.map cGArc l41).flatten 68 2 t42),(10,.row [.i6 x17.kind,.nils] 42),(0,.row [.ptr 4 0 0] 24),(1,.row [.map 5] 78),(2,.row [.vl 6 r56.2.2.2 0 r56.2.2.1.length] 35),(3,.row [.fn (.func 24) [] [.ptr 0 0 0,.ptr 1 0 0,.ptr 2 0 0,.ptr 3 0 0]] 72),(4,.row [.iM cGType p2,.iM cGFeature p3,.vl 7 t8 0 p7.length,.vl 8 t10 0 p9.length,.vl 9 t12 0 p11.length] 52),(5,.map (List.map (mE (fun x=>.i6 x) (fun x=>.i6 x)) r56.2.1.es) r56.2.1.cl),(6,.vec (List.map cGNode r56.2.2.1).flatten 42 2 r56.2.2.2),(7,.vec (List.map cGcell p7).flatten 66 3 t8),(8,.vec (List.map cGchange p9).flatten 97 4 t10),(9,.vec (List.map cGmark p11).flatten 64 2 t12)],13⟩) (args:=[.i6 x54.To,.ptr 0 0 0,.ptr 1 0 0,.ptr 2 0 0,.ptr 3 0 0]) rfl (op_call rfl rfl fn24 hb24 rfl (rfl)) ((EvU.st [0,1,2,3,4,5,6,7,8,9] (ih x54.To p2 p3 w43 l44 t45 p7 p9 p11 r56 h57 t8 t10 t12)).mono fun _ _ ⟨_,h⟩=>h) rfl rfl ?_
  refine gd ?_
  refine RD.g ?_
  refine RD.g ?_
  refine gd ?_
  refine RD.done ⟨by kernel_rfl,⟨op_move rfl,⟨op_move rfl,⟨op_fa un68.h rfl (sz_of if3.h) rfl rfl rfl,⟨ld_one un3.h rfl rfl rfl rfl,trivial⟩⟩⟩⟩,?_⟩
  refine go ?_
  exact lC ⟨_,(l41++[(GArc.mk x54.Feat r56.1)]),(t42+1),r56.2.1,r56.2.2.1,r56.2.2.2,hF,rfl,rfl⟩
  refine go ?_
  exact xC ⟨l41,t42,w43,l44,t45,hF,rfl,rfl⟩
def trail_Heap_Read_s1 (n:Nat) (p1:Int) (p2:List GType) (p3:List GFeature) (p4:List Gcell) (p6:List Gchange) (p8:List Gmark):Option (GFS×Bool) :=
 bindO (cond (decide (p1<0))
  (some true)
  (some (decide (p1 ≥ (p4.length:Int))))) fun b11 =>
 cond b11
  (some ((GFS.mk []),false))
  (bindO (trail_Heap_Read_1_s1 n p1 p2 p3 (mNew:MapL Int Int) ([]:List GNode) 0 p4 p6 p8) fun r14 =>
  some ((GFS.mk r14.2.2.1),true))
theorem trail_Heap_Read_s1_0 (n:Nat) (p1:Int) (p2:List GType) (p3:List GFeature) (p4:List Gcell) (p6:List Gchange) (p8:List Gmark) (r:GFS×Bool) (hF:trail_Heap_Read_s1 n p1 p2 p3 p4 p6 p8=some r):∀ t5 t7 t9:Nat,EvU Try.prog 15 [.ptr 0 0 0,.int .i64 p1] ⟨[(0,.row [.isl false (List.map cGType p2),.isl false (List.map cGFeature p3),.vl 1 t5 0 p4.length,.vl 2 t7 0 p6.length,.vl 3 t9 0 p8.length] 52),(1,.vec (List.map cGcell p4).flatten 66 3 t5),(2,.vec (List.map cGchange p6).flatten 97 4 t7),(3,.vec (List.map cGmark p8).flatten 64 2 t9)],4⟩ (fun u σ'=>∃ t:Nat→Nat,u = .tup [.agg [.isl false (List.map cGNode r.1.Nodes)],.bool r.2]∧σ'=⟨[(0,.row [.isl false (List.map cGType p2),.isl false (List.map cGFeature p3),.vl 1 t5 0 p4.length,.vl 2 t7 0 p6.length,.vl 3 t9 0 p8.length] 52),(1,.vec (List.map cGcell p4).flatten 66 3 t5),(2,.vec (List.map cGchange p6).flatten 97 4 t7),(3,.vec (List.map cGmark p8).flatten 64 2 t9)],4⟩):=by
 unfold trail_Heap_Read_s1 at hF
 intro t5 t7 t9
 refine bg2 27 fn15 ?_
 obtain ⟨b11,h12,hF⟩:=bindO_some hF
 refine gr ?_
 refine WPU.joinK (fun tm σ=>tm=fr 27 [(1,.i6 p1),(2,.ptr 4 0 0),(4,.ptr 5 0 0),(19,.bool b11)]∧σ=⟨[(5,.row [.nils] 35),(4,.row [.ptr 0 0 0] 24),(0,.row [.iM cGType p2,.iM cGFeature p3,.vl 1 t5 0 p4.length,.vl 2 t7 0 p6.length,.vl 3 t9 0 p8.length] 52),(1,.vec (List.map cGcell p4).flatten 66 3 t5),(2,.vec (List.map cGchange p6).flatten 97 4 t7),(3,.vec (List.map cGmark p8).flatten 64 2 t9)],6⟩) ?_ ?_
 rintro _ _ ⟨rfl,rfl⟩
 refine go ?_
 refine cF hF (fun h13 hF=>?_) (fun h13 hF=>?_)
 refine go ?_
 obtain rfl:=sI hF
 exact ⟨.inr rfl,[.agg [.nils],.bool false],res_c (ld_agg un35.h rfl (sz_of if35.h) rfl rfl rfl) (res_t rfl (res_n)),.tup [.agg [.isl false []],.bool false],⟨[(0,.row [.iM cGType p2,.iM cGFeature p3,.vl 1 t5 0 p4.length,.vl 2 t7 0 p6.length,.vl 3 t9 0 p8.length] 52),(1,.vec (List.map cGcell p4).flatten 66 3 t5),(2,.vec (List.map cGchange p6).flatten 97 4 t7),(3,.vec (List.map cGmark p8).flatten 64 2 t9)],4⟩,NL,Gh.trans (Gh.wk (.cons (.tup (.cons (.agg (.cons (.nil false) .nil)) (.cons (.refl _) .nil))) .nil)) (Gh.to (n1:=4) [] rfl rfl NL NL BUL.h BH.h),stF [],rfl,rfl⟩
 refine go ?_
 refine RS.q (u:=.map 6) (σ':=⟨[(6,.map (List.map (mE (fun x=>.i6 x) (fun x=>.i6 x)) (mNew:MapL Int Int).es) (mNew:MapL Int Int).cl),(5,.row [.nils] 35),(4,.row [.ptr 0 0 0] 24),(0,.row [.iM cGType p2,.iM cGFeature p3,.vl 1 t5 0 p4.length,.vl 2 t7 0 p6.length,.vl 3 t9 0 p8.length] 52),(1,.vec (List.map cGcell p4).flatten 66 3 t5),(2,.vec (List.map cGchange p6).flatten 97 4 t7),(3,.vec (List.map cGmark p8).flatten 64 2 t9)],7⟩) rfl (op_mnew) ?_
 refine go ?_
 refine RS.q rfl (op_fun rfl rfl) ?_
 refine gn ?_
 refine WPU.ghost (tm':=fr 27 [(1,.i6 p1),(4,.ptr 5 0 0),(7,.ptr 8 0 0),(8,.ptr 9 0 0)]) (σ':=⟨[(10,.vec (List.map cGNode ([]:List GNode)).flatten 42 2 0),(9,.row [.fn (.func 24) [] [.ptr 4 0 0,.ptr 7 0 0,.ptr 8 0 0,.ptr 9 0 0]] 72),(8,.row [.vl 10 0 0 (([]:List GNode).length)] 35),(7,.row [.map 6] 78),(6,.map (List.map (mE (fun x=>.i6 x) (fun x=>.i6 x)) (mNew:MapL Int Int).es) (mNew:MapL Int Int).cl),(5,.row [.nils] 35),(4,.row [.ptr 0 0 0] 24),(0,.row [.iM cGType p2,.iM cGFeature p3,.vl 1 t5 0 p4.length,.vl 2 t7 0 p6.length,.vl 3 t9 0 p8.length] 52),(1,.vec (List.map cGcell p4).flatten 66 3 t5),(2,.vec (List.map cGchange p6).flatten 97 4 t7),(3,.vec (List.map cGmark p8).flatten 64 2 t9)],11⟩) (Gh.trans (Gh.nilC 8 0 42 2 (by decide) NL rfl rfl) (Gh.eqS ⟨rfl,rfl,rfl,rfl,trivial⟩ rfl)) NL ?_
 obtain ⟨r14,h15,hF⟩:=bindO_some hF
 refine go ?_
 refine RS.callx (R:=fun u σ'=>∃ t16:Nat→Nat,u = .i6 r14.1∧σ'=⟨[(10,.vec (List.map cGNode r14.2.2.1).flatten 42 2 r14.2.2.2),(9,.row [.fn (.func 24) [] [.ptr 4 0 0,.ptr 7 0 0,.ptr 8 0 0,.ptr 9 0 0]] 72),(8,.row [.vl 10 r14.2.2.2 0 r14.2.2.1.length] 35),(7,.row [.map 6] 78),(6,.map (List.map (mE (fun x=>.i6 x) (fun x=>.i6 x)) r14.2.1.es) r14.2.1.cl),(5,.row [.nils] 35),(4,.row [.ptr 0 0 0] 24),(0,.row [.iM cGType p2,.iM cGFeature p3,.vl 1 t5 0 p4.length,.vl 2 t7 0 p6.length,.vl 3 t9 0 p8.length] 52),(1,.vec (List.map cGcell p4).flatten 66 3 t5),(2,.vec (List.map cGchange p6).flatten 97 4 t7),(3,.vec (List.map cGmark p8).flatten 64 2 t9)],11⟩) (args:=[.i6 p1,.ptr 4 0 0,.ptr 7 0 0,.ptr 8 0 0,.ptr 9 0 0]) rfl (op_call rfl rfl fn24 hb24 rfl (rfl)) (EvU.st [4,7,8,9,0,6,10,1,2,3] (trail_Heap_Read_1_s1_0 n p1 p2 p3 (mNew:MapL Int Int) ([]:List GNode) 0 p4 p6 p8 r14 h15 t5 t7 t9)) rfl rfl ?_
 rintro _ _ ⟨t16,rfl,rfl⟩
 refine go ?_
 obtain rfl:=sI hF
 exact ⟨.inr rfl,[.agg [.vl 10 r14.2.2.2 0 r14.2.2.1.length],.bool true],res_c (ld_agg un35.h rfl (sz_of if35.h) rfl rfl rfl) (res_t rfl (res_n)),.tup [.agg [.iM cGNode r14.2.2.1],.bool true],⟨[(0,.row [.iM cGType p2,.iM cGFeature p3,.vl 1 t5 0 p4.length,.vl 2 t7 0 p6.length,.vl 3 t9 0 p8.length] 52),(1,.vec (List.map cGcell p4).flatten 66 3 t5),(2,.vec (List.map cGchange p6).flatten 97 4 t7),(3,.vec (List.map cGmark p8).flatten 64 2 t9)],4⟩,NL,Gh.trans (tm':=[.tup [.agg [.vl 10 r14.2.2.2 0 r14.2.2.1.length],.bool true]]) (σ':=⟨[(10,.vec (List.map cGNode r14.2.2.1).flatten 42 2 r14.2.2.2),(0,.row [.iM cGType p2,.iM cGFeature p3,.vl 1 t5 0 p4.length,.vl 2 t7 0 p6.length,.vl 3 t9 0 p8.length] 52),(1,.vec (List.map cGcell p4).flatten 66 3 t5),(2,.vec (List.map cGchange p6).flatten 97 4 t7),(3,.vec (List.map cGmark p8).flatten 64 2 t9)],11⟩) (Gh.only (fun k=>hasN [10,0,1,2,3] k)) (Gh.trans (Gh.fzC 10 2) (Gh.to (n1:=4) [] rfl rfl NL NL BUL.h BH.h)),stF [],rfl,rfl⟩
 rcases gB h12 with ⟨h10,h12⟩ | ⟨h10,h12⟩
 exact gy h12
 obtain rfl:=sI h12
 refine go ?_
 refine RS.w (u:=.ptr 0 0 0) rfl (op_nc1 rfl rfl) ?_
 refine go ?_
 exact xC ⟨rfl,rfl⟩
def trail_New_s1 (n:Nat) (p1:GHierarchy):Option ((List GType)×(List GFeature)) :=
 some (p1.Types,p1.Feats)
theorem trail_New_s1_0 (n:Nat) (p1:GHierarchy) (r:(List GType)×(List GFeature)) (hF:trail_New_s1 n p1=some r):EvU Try.prog 5 [.agg (cGHierarchy p1)] ⟨[],0⟩ (fun u σ'=>∃ t:Nat→Nat,u = .ptr 1 0 0∧σ'=⟨[(1,.row [.isl false (List.map cGType r.1),.isl false (List.map cGFeature r.2),.nils,.nils,.nils] 52)],2⟩):=by
 unfold trail_New_s1 at hF
 refine bg1 6 fn5 ?_
 refine go ?_
 refine RS.q (u:=.agg [.iM cGType p1.Types,.iM cGFeature p1.Feats,.nils,.nils,.nils]) rfl (op_bld bd52.h rfl rfl (rfl)) ?_
 refine go ?_
 obtain rfl:=sI hF
 exact ⟨.inr rfl,[.ptr 1 0 0],res_t rfl (res_n),.ptr 1 0 0,⟨[(1,.row [.iM cGType p1.Types,.iM cGFeature p1.Feats,.nils,.nils,.nils] 52)],2⟩,NL,Gh.trans (Gh.only (fun k=>hasN [1] k)) (Gh.to (n1:=2) [] rfl rfl NL NL BUL.h BH.h),stF [],rfl,rfl⟩
def trail_Heap_Mark_s1 (n:Nat) (p1:List GType) (p2:List GFeature) (p3:List Gcell) (p5:List Gchange) (p7:List Gmark) (p8:Nat):Option (Int×(List Gmark)×Nat) :=
 needO ((p7.length+1)*16≤140737488355328∧p7.length+1≤140737488355328) (
 some ((IntKind.i64.wrap (((p7++[(Gmark.mk (p3.length:Int) (p5.length:Int))]).length:Int) - 1)),(p7++[(Gmark.mk (p3.length:Int) (p5.length:Int))]),(p8+1)))
theorem trail_Heap_Mark_s1_0 (n:Nat) (p1:List GType) (p2:List GFeature) (p3:List Gcell) (p5:List Gchange) (p7:List Gmark) (p8:Nat) (r:Int×(List Gmark)×Nat) (hF:trail_Heap_Mark_s1 n p1 p2 p3 p5 p7 p8=some r):∀ t4 t6:Nat,EvU Try.prog 7 [.ptr 0 0 0] ⟨[(0,.row [.isl false (List.map cGType p1),.isl false (List.map cGFeature p2),.vl 1 t4 0 p3.length,.vl 2 t6 0 p5.length,.vl 3 p8 0 p7.length] 52),(1,.vec (List.map cGcell p3).flatten 66 3 t4),(2,.vec (List.map cGchange p5).flatten 97 4 t6),(3,.vec (List.map cGmark p7).flatten 64 2 p8)],4⟩ (fun u σ'=>∃ t:Nat→Nat,u = .int .i64 r.1∧σ'=⟨[(0,.row [.isl false (List.map cGType p1),.isl false (List.map cGFeature p2),.vl 1 t4 0 p3.length,.vl 2 t6 0 p5.length,.vl 3 r.2.2 0 r.2.1.length] 52),(1,.vec (List.map cGcell p3).flatten 66 3 t4),(2,.vec (List.map cGchange p5).flatten 97 4 t6),(3,.vec (List.map cGmark r.2.1).flatten 64 2 r.2.2)],4⟩):=by
 unfold trail_Heap_Mark_s1 at hF
 intro t4 t6
 refine bg1 29 fn7 ?_
 obtain ⟨h9,hF⟩:=needO_some hF
 refine go ?_
 refine WPU.drawE Try.tb_ok [(0,16),(0,17),(1,16),(2,16),(3,16),(4,16)] (by kernel_rfl) ?_
 refine gd ?_
 refine RD.q (u:=.ptr 0 0 0) rfl (op_nc1 rfl rfl) ?_
 refine gd ?_
 refine RD.q (u:=.ptr 0 0 0) rfl (op_nc1 rfl rfl) ?_
 refine gd ?_
 refine RD.q (u:=.ptr 0 0 0) rfl (op_nc1 rfl rfl) ?_
 refine gd ?_
 refine RD.g ?_
 refine RD.g ?_
 refine RD.q (u:=.ptr 0 0 0) rfl (op_nc1 rfl rfl) ?_
 refine gd ?_
 refine RD.gz ?_
 refine RD.done ⟨by kernel_rfl,⟨op_move rfl,⟨op_move rfl,⟨op_move rfl,⟨op_nc1 rfl rfl,⟨op_fa un52.h rfl (sz_of if50.h) rfl rfl rfl,⟨ld_one un50.h rfl rfl rfl rfl,trivial⟩⟩⟩⟩⟩⟩,?_⟩
 refine go ?_
 refine RS.q (u:=.ptr 0 0 0) rfl (op_nc1 rfl rfl) ?_
 refine go ?_
 obtain rfl:=sI hF
 exact ⟨.inr rfl,[.i6 (IntKind.i64.wrap (((p7++[(Gmark.mk (p3.length:Int) (p5.length:Int))]).length:Int) - 1))],res_t rfl (res_n),.i6 (IntKind.i64.wrap (((p7++[(Gmark.mk (p3.length:Int) (p5.length:Int))]).length:Int) - 1)),⟨[(0,.row [.iM cGType p1,.iM cGFeature p2,.vl 1 t4 0 p3.length,.vl 2 t6 0 p5.length,.vl 3 (p8+1) 0 ((p7++[(Gmark.mk (p3.length:Int) (p5.length:Int))]).length)] 52),(1,.vec (List.map cGcell p3).flatten 66 3 t4),(2,.vec (List.map cGchange p5).flatten 97 4 t6),(3,.vec (List.map cGmark (p7++[(Gmark.mk (p3.length:Int) (p5.length:Int))])).flatten 64 2 (p8+1))],4⟩,NL,Gh.to (n1:=4) [] rfl rfl NL NL BUL.h BH.h,stF [],rfl,rfl⟩
def trail_Heap_Len_s1 (n:Nat) (p1:List GType) (p2:List GFeature) (p3:List Gcell) (p5:List Gchange) (p7:List Gmark):Option (Int) :=
 some (p3.length:Int)
theorem trail_Heap_Len_s1_0 (n:Nat) (p1:List GType) (p2:List GFeature) (p3:List Gcell) (p5:List Gchange) (p7:List Gmark) (r:Int) (hF:trail_Heap_Len_s1 n p1 p2 p3 p5 p7=some r):∀ t4 t6 t8:Nat,EvU Try.prog 8 [.ptr 0 0 0] ⟨[(0,.row [.isl false (List.map cGType p1),.isl false (List.map cGFeature p2),.vl 1 t4 0 p3.length,.vl 2 t6 0 p5.length,.vl 3 t8 0 p7.length] 52),(1,.vec (List.map cGcell p3).flatten 66 3 t4),(2,.vec (List.map cGchange p5).flatten 97 4 t6),(3,.vec (List.map cGmark p7).flatten 64 2 t8)],4⟩ (fun u σ'=>∃ t:Nat→Nat,u = .int .i64 r∧σ'=⟨[(0,.row [.isl false (List.map cGType p1),.isl false (List.map cGFeature p2),.vl 1 t4 0 p3.length,.vl 2 t6 0 p5.length,.vl 3 t8 0 p7.length] 52),(1,.vec (List.map cGcell p3).flatten 66 3 t4),(2,.vec (List.map cGchange p5).flatten 97 4 t6),(3,.vec (List.map cGmark p7).flatten 64 2 t8)],4⟩):=by
 unfold trail_Heap_Len_s1 at hF
 intro t4 t6 t8
 refine bg1 8 fn8 ?_
 refine go ?_
 refine RS.q (u:=.ptr 0 0 0) rfl (op_nc1 rfl rfl) ?_
 refine go ?_
 obtain rfl:=sI hF
 exact ⟨.inr rfl,[.i6 (p3.length:Int)],res_t rfl (res_n),.i6 (p3.length:Int),⟨[(0,.row [.iM cGType p1,.iM cGFeature p2,.vl 1 t4 0 p3.length,.vl 2 t6 0 p5.length,.vl 3 t8 0 p7.length] 52),(1,.vec (List.map cGcell p3).flatten 66 3 t4),(2,.vec (List.map cGchange p5).flatten 97 4 t6),(3,.vec (List.map cGmark p7).flatten 64 2 t8)],4⟩,NL,Gh.to (n1:=4) [] rfl rfl NL NL BUL.h BH.h,stF [],rfl,rfl⟩
def trail_Heap_Load_s1_K2 (z23:Int) (l24:List Gcell) (t25:Nat) (rc1:Int→(List Gcell)→Nat→Option (Int×(List Gcell)×Nat)) (x29:GNode) (l56:List GArc):Option (Int×(List Gcell)×Nat) :=
 needO ((l24.length+1)*40≤140737488355328∧l24.length+1≤140737488355328) (
 rc1 (IntKind.i64.wrap (z23+1)) (l24++[(Gcell.mk (-1) x29.Typex l56)]) (t25+1))
def trail_Heap_Load_s1_L2 (p4:List Gcell) (z23:Int) (l24:List Gcell) (t25:Nat) (rc1:Int→(List Gcell)→Nat→Option (Int×(List Gcell)×Nat)) (x29:GNode):Nat→Int→(List GArc)→Option (Int×(List Gcell)×Nat)
 | 0,_,_=>none
 | m2+1,z53,l54 =>
  cond (decide (z53<(x29.Arcs.length:Int)))
   (bindO (idxO x29.Arcs z53) fun x60 =>
   needO ((l54.length+1)*16≤140737488355328∧l54.length+1≤140737488355328) (
   (trail_Heap_Load_s1_L2 p4 z23 l24 t25 rc1 x29 m2) (IntKind.i64.wrap (z53+1)) (l54++[(GArc.mk x60.Feat (IntKind.i64.wrap (x60.To+(p4.length:Int))))])))
   (trail_Heap_Load_s1_K2 z23 l24 t25 rc1 x29 l54)
def trail_Heap_Load_s1_K1 (p4:List Gcell) (l26:List Gcell) (t27:Nat):Option (Int×(List Gcell)×Nat) :=
 some ((p4.length:Int),l26,t27)
def trail_Heap_Load_s1_L1 (p1:GFS) (p4:List Gcell) (n:Nat):Nat→Int→(List Gcell)→Nat→Option (Int×(List Gcell)×Nat)
 | 0,_,_,_=>none
 | m1+1,z23,l24,t25 =>
  cond (decide (z23<(p1.Nodes.length:Int)))
   (bindO (idxO p1.Nodes z23) fun x29 =>
   trail_Heap_Load_s1_L2 p4 z23 l24 t25 (trail_Heap_Load_s1_L1 p1 p4 n m1) x29 n 0 ([]:List GArc))
   (trail_Heap_Load_s1_K1 p4 l24 t25)
def trail_Heap_Load_s1 (n:Nat) (p1:GFS) (p2:List GType) (p3:List GFeature) (p4:List Gcell) (p5:Nat) (p6:List Gchange) (p8:List Gmark):Option (Int×(List Gcell)×Nat) :=
 trail_Heap_Load_s1_L1 p1 p4 n n 0 p4 p5
theorem trail_Heap_Load_s1_0 (n:Nat) (p1:GFS) (p2:List GType) (p3:List GFeature) (p4:List Gcell) (p5:Nat) (p6:List Gchange) (p8:List Gmark) (r:Int×(List Gcell)×Nat) (hF:trail_Heap_Load_s1 n p1 p2 p3 p4 p5 p6 p8=some r):∀ t7 t9:Nat,EvU Try.prog 9 [.ptr 0 0 0,.agg [.isl false (List.map cGNode p1.Nodes)]] ⟨[(0,.row [.isl false (List.map cGType p2),.isl false (List.map cGFeature p3),.vl 1 p5 0 p4.length,.vl 2 t7 0 p6.length,.vl 3 t9 0 p8.length] 52),(1,.vec (List.map cGcell p4).flatten 66 3 p5),(2,.vec (List.map cGchange p6).flatten 97 4 t7),(3,.vec (List.map cGmark p8).flatten 64 2 t9)],4⟩ (fun u σ'=>∃ t:Nat→Nat,u = .int .i64 r.1∧σ'=⟨[(0,.row [.isl false (List.map cGType p2),.isl false (List.map cGFeature p3),.vl 1 r.2.2 0 r.2.1.length,.vl 2 t7 0 p6.length,.vl 3 t9 0 p8.length] 52),(1,.vec (List.map cGcell r.2.1).flatten 66 3 r.2.2),(2,.vec (List.map cGchange p6).flatten 97 4 t7),(3,.vec (List.map cGmark p8).flatten 64 2 t9)],4⟩):=by
 unfold trail_Heap_Load_s1 at hF
 intro t7 t9
 refine bg2 58 fn9 ?_
 refine go ?_
 refine RS.q (u:=.ptr 0 0 0) rfl (op_nc1 rfl rfl) ?_
 refine go ?_
 refine gS (l':=[(0,_),(5,_),(17,_),(18,_),(19,_)]) ?_
 refine WPU.loopK (fun m tm σ=>∃ z23:Int,∃ l24:List Gcell,∃ t25:Nat,trail_Heap_Load_s1_L1 p1 p4 n m z23 l24 t25=some r∧tm=fr 58 [(0,.ptr 0 0 0),(5,.i6 (p4.length:Int)),(17,.iM cGNode p1.Nodes),(18,.i6 (p1.Nodes.length:Int)),(19,.i6 z23)]∧σ=⟨[(4,.row [.iM cGNode p1.Nodes] 35),(0,.row [.iM cGType p2,.iM cGFeature p3,.vl 1 t25 0 l24.length,.vl 2 t7 0 p6.length,.vl 3 t9 0 p8.length] 52),(1,.vec (List.map cGcell l24).flatten 66 3 t25),(2,.vec (List.map cGchange p6).flatten 97 4 t7),(3,.vec (List.map cGmark p8).flatten 64 2 t9)],5⟩) (fun tm σ=>∃ l26:List Gcell,∃ t27:Nat,trail_Heap_Load_s1_K1 p4 l26 t27=some r∧tm=fr 58 [(5,.i6 (p4.length:Int))]∧σ=⟨[(4,.row [.iM cGNode p1.Nodes] 35),(0,.row [.iM cGType p2,.iM cGFeature p3,.vl 1 t27 0 l26.length,.vl 2 t7 0 p6.length,.vl 3 t9 0 p8.length] 52),(1,.vec (List.map cGcell l26).flatten 66 3 t27),(2,.vec (List.map cGchange p6).flatten 97 4 t7),(3,.vec (List.map cGmark p8).flatten 64 2 t9)],5⟩) n ⟨0,p4,p5,hF,rfl,rfl⟩ ?_ ?_
 rintro _ _ ⟨l26,t27,hF,rfl,rfl⟩
 unfold trail_Heap_Load_s1_K1 at hF
 refine go ?_
 obtain rfl:=sI hF
 exact ⟨.inr rfl,[.i6 (p4.length:Int)],res_t rfl (res_n),.i6 (p4.length:Int),⟨[(0,.row [.iM cGType p2,.iM cGFeature p3,.vl 1 t27 0 l26.length,.vl 2 t7 0 p6.length,.vl 3 t9 0 p8.length] 52),(1,.vec (List.map cGcell l26).flatten 66 3 t27),(2,.vec (List.map cGchange p6).flatten 97 4 t7),(3,.vec (List.map cGmark p8).flatten 64 2 t9)],4⟩,NL,Gh.to (n1:=4) [] rfl rfl NL NL BUL.h BH.h,stF [],rfl,rfl⟩
 rintro (_|m1) _ _ ⟨z23,l24,t25,hF,rfl,rfl⟩
 cases hF
 unfold trail_Heap_Load_s1_L1 at hF
 refine go ?_
 refine cF hF (fun h28 hF=>?_) (fun h28 hF=>?_)
 refine go ?_
 refine WPU.block ?_
 obtain ⟨x29,h30,hF⟩:=bindO_some hF
 refine go ?_
 refine RS.ix h30 ?_
 refine gr ?_
 refine gr ?_
 refine WPU.ghost (tm':=fr 58 [(0,.ptr 0 0 0),(5,.i6 (p4.length:Int)),(8,.ptr 6 0 0),(17,.iM cGNode p1.Nodes),(18,.i6 (p1.Nodes.length:Int)),(19,.i6 z23),(27,.iM cGArc x29.Arcs),(28,.i6 (x29.Arcs.length:Int)),(29,.i6 0)]) (σ':=⟨[(7,.vec (List.map cGArc ([]:List GArc)).flatten 68 2 0),(6,.row [.i6 (-1),.i6 x29.Typex,.vl 7 0 0 (([]:List GArc).length)] 66),(5,.row (cGNode x29) 42),(4,.row [.iM cGNode p1.Nodes] 35),(0,.row [.iM cGType p2,.iM cGFeature p3,.vl 1 t25 0 l24.length,.vl 2 t7 0 p6.length,.vl 3 t9 0 p8.length] 52),(1,.vec (List.map cGcell l24).flatten 66 3 t25),(2,.vec (List.map cGchange p6).flatten 97 4 t7),(3,.vec (List.map cGmark p8).flatten 64 2 t9)],8⟩) (Gh.trans (Gh.nilC 6 2 68 2 (by decide) NL rfl rfl) (Gh.eqS ⟨rfl,rfl,rfl,rfl,rfl,rfl,rfl,rfl,rfl,trivial⟩ rfl)) NL ?_
 refine gS (l':=[(0,_),(5,_),(8,_),(17,_),(18,_),(19,_),(27,_),(28,_),(29,_)]) ?_
 refine WPU.loopK (fun m tm σ=>∃ z53:Int,∃ l54:List GArc,∃ t55:Nat,trail_Heap_Load_s1_L2 p4 z23 l24 t25 (trail_Heap_Load_s1_L1 p1 p4 n m1) x29 m z53 l54=some r∧tm=fr 58 [(0,.ptr 0 0 0),(5,.i6 (p4.length:Int)),(8,.ptr 6 0 0),(17,.iM cGNode p1.Nodes),(18,.i6 (p1.Nodes.length:Int)),(19,.i6 z23),(27,.iM cGArc x29.Arcs),(28,.i6 (x29.Arcs.length:Int)),(29,.i6 z53)]∧σ=⟨[(7,.vec (List.map cGArc l54).flatten 68 2 t55),(6,.row [.i6 (-1),.i6 x29.Typex,.vl 7 t55 0 l54.length] 66),(5,.row (cGNode x29) 42),(4,.row [.iM cGNode p1.Nodes] 35),(0,.row [.iM cGType p2,.iM cGFeature p3,.vl 1 t25 0 l24.length,.vl 2 t7 0 p6.length,.vl 3 t9 0 p8.length] 52),(1,.vec (List.map cGcell l24).flatten 66 3 t25),(2,.vec (List.map cGchange p6).flatten 97 4 t7),(3,.vec (List.map cGmark p8).flatten 64 2 t9)],8⟩) (fun tm σ=>∃ l56:List GArc,∃ t57:Nat,trail_Heap_Load_s1_K2 z23 l24 t25 (trail_Heap_Load_s1_L1 p1 p4 n m1) x29 l56=some r∧tm=fr 58 [(0,.ptr 0 0 0),(5,.i6 (p4.length:Int)),(8,.ptr 6 0 0),(17,.iM cGNode p1.Nodes),(18,.i6 (p1.Nodes.length:Int)),(19,.i6 z23)]∧σ=⟨[(7,.vec (List.map cGArc l56).flatten 68 2 t57),(6,.row [.i6 (-1),.i6 x29.Typex,.vl 7 t57 0 l56.length] 66),(5,.row (cGNode x29) 42),(4,.row [.iM cGNode p1.Nodes] 35),(0,.row [.iM cGType p2,.iM cGFeature p3,.vl 1 t25 0 l24.length,.vl 2 t7 0 p6.length,.vl 3 t9 0 p8.length] 52),(1,.vec (List.map cGcell l24).flatten 66 3 t25),(2,.vec (List.map cGchange p6).flatten 97 4 t7),(3,.vec (List.map cGmark p8).flatten 64 2 t9)],8⟩) n ⟨0,([]:List GArc),0,hF,rfl,rfl⟩ ?_ ?_
 rintro _ _ ⟨l56,t57,hF,rfl,rfl⟩
 unfold trail_Heap_Load_s1_K2 at hF
 refine gn ?_
 refine WPU.ghost (tm':=fr 58 [(0,.ptr 0 0 0),(5,.i6 (p4.length:Int)),(8,.ptr 6 0 0),(17,.iM cGNode p1.Nodes),(18,.i6 (p1.Nodes.length:Int)),(19,.i6 z23)]) (σ':=⟨[(6,.row [.i6 (-1),.i6 x29.Typex,.iM cGArc l56] 66),(5,.row (cGNode x29) 42),(4,.row [.iM cGNode p1.Nodes] 35),(0,.row [.iM cGType p2,.iM cGFeature p3,.vl 1 t25 0 l24.length,.vl 2 t7 0 p6.length,.vl 3 t9 0 p8.length] 52),(1,.vec (List.map cGcell l24).flatten 66 3 t25),(2,.vec (List.map cGchange p6).flatten 97 4 t7),(3,.vec (List.map cGmark p8).flatten 64 2 t9)],8⟩) (Gh.trans (Gh.sub (l':=[(0,.ptr 0 0 0),(5,.i6 (p4.length:Int)),(8,.ptr 6 0 0),(17,.iM cGNode p1.Nodes),(18,.i6 (p1.Nodes.length:Int)),(19,.i6 z23)]) ⟨rfl,rfl,rfl,rfl,rfl,rfl,trivial⟩) (Gh.fzD 7 2)) NL ?_
 obtain ⟨h58,hF⟩:=needO_some hF
 refine go ?_
 refine WPU.drawE Try.tb_ok [(0,6),(0,7),(1,6),(2,6),(3,6),(4,6)] (by kernel_rfl) ?_
 refine gd ?_
 refine RD.q (u:=.ptr 0 0 0) rfl (op_nc1 rfl rfl) ?_
 refine gd ?_
 refine RD.g ?_
 refine RD.g ?_
 refine RD.q (u:=.ptr 0 0 0) rfl (op_nc1 rfl rfl) ?_
 refine gd ?_
 refine RD.gz ?_
 refine RD.done ⟨by kernel_rfl,⟨op_move rfl,⟨op_move rfl,⟨op_move rfl,⟨op_nc1 rfl rfl,⟨op_fa un52.h rfl (sz_of if48.h) rfl rfl rfl,⟨ld_one un48.h rfl rfl rfl rfl,trivial⟩⟩⟩⟩⟩⟩,?_⟩
 refine go ?_
 exact lC ⟨_,(l24++[(Gcell.mk (-1) x29.Typex l56)]),(t25+1),hF,rfl,rfl⟩
 rintro (_|m2) _ _ ⟨z53,l54,t55,hF,rfl,rfl⟩
 cases hF
 unfold trail_Heap_Load_s1_L2 at hF
 refine go ?_
 refine cF hF (fun h59 hF=>?_) (fun h59 hF=>?_)
 refine go ?_
 refine WPU.block ?_
 obtain ⟨x60,h61,hF⟩:=bindO_some hF
 refine go ?_
 refine RS.ix h61 ?_
 obtain ⟨h62,hF⟩:=needO_some hF
 refine go ?_
 refine RS.g ?_
 refine RS.g ?_
 refine go ?_
 exact lC ⟨_,(l54++[(GArc.mk x60.Feat (IntKind.i64.wrap (x60.To+(p4.length:Int))))]),(t55+1),hF,rfl,rfl⟩
 refine go ?_
 exact xC ⟨l54,t55,hF,rfl,rfl⟩
 refine go ?_
 exact xC ⟨l24,t25,hF,rfl,rfl⟩
def law12_exampleHolds (n:Nat)  : Option (Bool) :=
 bindO (law12_small n) fun r1 =>
 bindO (trail_New_s1 n r1) fun r3 =>
 bindO (law12_node n 0 ([0,1])) fun r6 =>
 bindO (law12_node n 1 []) fun r8 =>
 bindO (law12_of n ([r6,r8])) fun r10 =>
 bindO (trail_Heap_Load_s1 n r10 r3.1 r3.2 ([]:List Gcell) 0 ([]:List Gchange) ([]:List Gmark)) fun r12 =>
 cond (r12.1 != 0)
  (some false)
  (bindO (law12_node n 0 ([0,1])) fun r16 =>
  bindO (law12_node n 0 []) fun r18 =>
  bindO (law12_of n ([r16,r18])) fun r20 =>
  bindO (trail_Heap_Load_s1 n r20 r3.1 r3.2 r12.2.1 r12.2.2 ([]:List Gchange) ([]:List Gmark)) fun r22 =>
  cond (r22.1 != 2)
   (some false)
   (bindO (law12_node n 2 []) fun r26 =>
   bindO (law12_of n ([r26])) fun r28 =>
   bindO (trail_Heap_Load_s1 n r28 r3.1 r3.2 r22.2.1 r22.2.2 ([]:List Gchange) ([]:List Gmark)) fun r30 =>
   cond (r30.1 != 4)
    (some false)
    (bindO (trail_Heap_Len_s1 n r3.1 r3.2 r30.2.1 ([]:List Gchange) ([]:List Gmark)) fun r34 =>
    cond (r34 != 5)
     (some false)
     (bindO (trail_Heap_Mark_s1 n r3.1 r3.2 r30.2.1 ([]:List Gchange) ([]:List Gmark) 0) fun r41 =>
     bindO (trail_Heap_Mark_s1 n r3.1 r3.2 r30.2.1 ([]:List Gchange) r41.2.1 r41.2.2) fun r44 =>
     cond (r41.1 != 0)
      (some false)
      (cond (r44.1 != 1)
       (some false)
       (bindO (trail_Heap_Unify_s1 n 0 2 r3.1 r3.2 r30.2.1 ([]:List Gchange) 0 r44.2.1) fun r49 =>
       cond (!r49.1)
        (some false)
        (bindO (trail_Heap_Read_s1 n 3 r3.1 r3.2 r49.2.1 r49.2.2.1 r44.2.1) fun r57 =>
        cond (!r57.2)
         (some false)
         (bindO (ref07_Atom n 1) fun r61 =>
         bindO (ref07_Equal n (GFS.mk r57.1.Nodes) r61) fun r63 =>
         cond (!r63)
          (some false)
          (bindO (trail_Heap_Unify_s1 n 3 4 r3.1 r3.2 r49.2.1 r49.2.2.1 r49.2.2.2 r44.2.1) fun r66 =>
          cond r66.1
           (some false)
           (bindO (trail_Heap_Unify_s1 n 0 5 r3.1 r3.2 r66.2.1 r66.2.2.1 r66.2.2.2 r44.2.1) fun r70 =>
           cond r70.1
            (some false)
            (bindO (trail_Heap_Unify_s1 n (-1) 0 r3.1 r3.2 r70.2.1 r70.2.2.1 r70.2.2.2 r44.2.1) fun r74 =>
            cond r74.1
             (some false)
             (bindO (trail_Heap_Read_s1 n 4 r3.1 r3.2 r74.2.1 r74.2.2.1 r44.2.1) fun r82 =>
             cond (!r82.2)
              (some false)
              (bindO (ref07_Atom n 2) fun r86 =>
              bindO (ref07_Equal n (GFS.mk r82.1.Nodes) r86) fun r88 =>
              cond (!r88)
               (some false)
               (bindO (trail_Heap_Undo_s1 n 0 r3.1 r3.2 r74.2.1 r74.2.2.1 r44.2.1) fun r91 =>
               cond (!r91.1)
                (some false)
                (bindO (trail_Heap_Undo_s1 n 1 r3.1 r3.2 r91.2.1 r91.2.2.1 r91.2.2.2) fun r95 =>
                cond r95.1
                 (some false)
                 (bindO (trail_Heap_Mark_s1 n r3.1 r3.2 r95.2.1 r95.2.2.1 r95.2.2.2 r44.2.2) fun r99 =>
                 cond (r99.1 != 1)
                  (some false)
                  (bindO (trail_Heap_Read_s1 n 3 r3.1 r3.2 r95.2.1 r95.2.2.1 r99.2.1) fun r108 =>
                  bindO (trail_Heap_Read_s1 n 5 r3.1 r3.2 r95.2.1 r95.2.2.1 r99.2.1) fun r111 =>
                  bindO (cond r108.2
                   (bindO (ref07_Atom n 0) fun r115 =>
                   bindO (ref07_Equal n (GFS.mk r108.1.Nodes) r115) fun r117 =>
                   cond r117
                    (some (!r111.2))
                    (some false))
                   (some false)) fun b120 =>
                  some b120)))))))))))))))))
theorem law12_exampleHolds_0 (n:Nat)  (r:Bool) (hF:law12_exampleHolds n  = some r):EvU Try.prog 4 [] ⟨[],0⟩ (fun u _=>u = .bool r∧Bel 0 u):=by
 unfold law12_exampleHolds at hF
 refine bg0 136 fn4 ?_
 obtain ⟨r1,h2,hF⟩:=bindO_some hF
 obtain ⟨r3,h4,hF⟩:=bindO_some hF
 refine go ?_
 refine RS.cl rfl (pC (law12_small_0 n r1 h2) _) fn6 ?_
 refine RS.callx (R:=fun u σ'=>∃ t5:Nat→Nat,u = .ptr 1 0 0∧σ'=⟨[(1,.row [.iM cGType r3.1,.iM cGFeature r3.2,.nils,.nils,.nils] 52)],2⟩) (args:=[.agg (cGHierarchy r1)]) rfl (op_call rfl rfl fn5 hb5 rfl rfl) (EvU.st [] (trail_New_s1_0 n r1 r3 h4 )) rfl rfl ?_
 rintro _ _ ⟨t5,rfl,rfl⟩
 refine gn ?_
 refine WPU.ghost (tm':=fr 136 [(1,.ptr 1 0 0)]) (σ':=⟨[(2,.vec (List.map cGcell ([]:List Gcell)).flatten 66 3 0),(1,.row [.iM cGType r3.1,.iM cGFeature r3.2,.vl 2 0 0 (([]:List Gcell).length),.nils,.nils] 52)],3⟩) (Gh.trans (Gh.nilC 1 2 66 3 (by decide) NZ rfl rfl) (Gh.eqS ⟨rfl,trivial⟩ rfl)) NZ ?_
 refine WPU.ghost (tm':=fr 136 [(1,.ptr 1 0 0)]) (σ':=⟨[(3,.vec (List.map cGchange ([]:List Gchange)).flatten 97 4 0),(2,.vec (List.map cGcell ([]:List Gcell)).flatten 66 3 0),(1,.row [.iM cGType r3.1,.iM cGFeature r3.2,.vl 2 0 0 (([]:List Gcell).length),.vl 3 0 0 (([]:List Gchange).length),.nils] 52)],4⟩) (Gh.trans (Gh.nilC 1 3 97 4 (by decide) NZ rfl rfl) (Gh.eqS ⟨rfl,trivial⟩ rfl)) NZ ?_
 refine WPU.ghost (tm':=fr 136 [(1,.ptr 1 0 0)]) (σ':=⟨[(4,.vec (List.map cGmark ([]:List Gmark)).flatten 64 2 0),(3,.vec (List.map cGchange ([]:List Gchange)).flatten 97 4 0),(2,.vec (List.map cGcell ([]:List Gcell)).flatten 66 3 0),(1,.row [.iM cGType r3.1,.iM cGFeature r3.2,.vl 2 0 0 (([]:List Gcell).length),.vl 3 0 0 (([]:List Gchange).length),.vl 4 0 0 (([]:List Gmark).length)] 52)],5⟩) (Gh.trans (Gh.nilC 1 4 64 2 (by decide) NZ rfl rfl) (Gh.eqS ⟨rfl,trivial⟩ rfl)) NZ ?_
 obtain ⟨r6,h7,hF⟩:=bindO_some hF
 obtain ⟨r8,h9,hF⟩:=bindO_some hF
 obtain ⟨r10,h11,hF⟩:=bindO_some hF
 obtain ⟨r12,h13,hF⟩:=bindO_some hF
 refine go ?_
 rcases gB hF with ⟨h15,hF⟩ | ⟨h15,hF⟩
 refine go ?_
 refine RS.q (u:=.bool false) rfl (op_nil rfl rfl rfl (nc_pn un24.h rfl rfl)) ?_
 refine go ?_
 refine RS.g ?_
 refine RS.fc rfl (Gh.fzC 5 1) (pC (law12_node_0 n 0 ([0,1]) r6 h7) _) fn13 (RS.cl rfl (EvU.wkA (args':=[.i6 1,.isl false []]) (.cons (.refl _) (.cons (.nil false) .nil)) (pC (law12_node_0 n 1 [] r8 h9)) _) fn13 (RS.w (u:=.sl 6 0 2 2) (σ':=⟨[(6,.row [.i6 r6.Typex,.iM cGArc r6.Arcs,.i6 r8.Typex,.iM cGArc r8.Arcs] 42),(4,.vec (List.map cGmark ([]:List Gmark)).flatten 64 2 0),(3,.vec (List.map cGchange ([]:List Gchange)).flatten 97 4 0),(2,.vec (List.map cGcell ([]:List Gcell)).flatten 66 3 0),(1,.row [.iM cGType r3.1,.iM cGFeature r3.2,.vl 2 0 0 (([]:List Gcell).length),.vl 3 0 0 (([]:List Gchange).length),.vl 4 0 0 (([]:List Gmark).length)] 52)],7⟩) rfl (op_bsl un33.h if42.h rfl rfl rfl rfl rfl rfl rfl) (RS.fc rfl (Gh.fzC 6 2) (pC (law12_of_0 n ([r6,r8]) r10 h11) _) fn12 ?_)))
 refine RS.callx (R:=fun u σ'=>∃ t14:Nat→Nat,u = .i6 r12.1∧σ'=⟨[(4,.vec (List.map cGmark ([]:List Gmark)).flatten 64 2 0),(3,.vec (List.map cGchange ([]:List Gchange)).flatten 97 4 0),(2,.vec (List.map cGcell r12.2.1).flatten 66 3 r12.2.2),(1,.row [.iM cGType r3.1,.iM cGFeature r3.2,.vl 2 r12.2.2 0 r12.2.1.length,.vl 3 0 0 (([]:List Gchange).length),.vl 4 0 0 (([]:List Gmark).length)] 52)],7⟩) (args:=[.ptr 1 0 0,.agg [.iM cGNode r10.Nodes]]) (want1 rfl rfl rfl rfl) (op_call rfl rfl fn9 hb9 rfl rfl) (EvU.st [1,2,3,4] (trail_Heap_Load_s1_0 n r10 r3.1 r3.2 ([]:List Gcell) 0 ([]:List Gchange) ([]:List Gmark) r12 h13 0 0)) rfl rfl ?_
 rintro _ _ ⟨t14,rfl,rfl⟩
 refine go ?_
 refine WPU.condS (t:=true) rfl (fun _=>?_) (fun hc=>by cases hc)
 exact gx hF
 obtain ⟨r16,h17,hF⟩:=bindO_some hF
 obtain ⟨r18,h19,hF⟩:=bindO_some hF
 obtain ⟨r20,h21,hF⟩:=bindO_some hF
 obtain ⟨r22,h23,hF⟩:=bindO_some hF
 rcases gB hF with ⟨h25,hF⟩ | ⟨h25,hF⟩
 refine go ?_
 refine RS.q (u:=.bool false) rfl (op_nil rfl rfl rfl (nc_pn un24.h rfl rfl)) ?_
 refine go ?_
 refine RS.g ?_
 refine RS.fc rfl (Gh.fzC 5 1) (pC (law12_node_0 n 0 ([0,1]) r6 h7) _) fn13 (RS.cl rfl (EvU.wkA (args':=[.i6 1,.isl false []]) (.cons (.refl _) (.cons (.nil false) .nil)) (pC (law12_node_0 n 1 [] r8 h9)) _) fn13 (RS.w (u:=.sl 6 0 2 2) (σ':=⟨[(6,.row [.i6 r6.Typex,.iM cGArc r6.Arcs,.i6 r8.Typex,.iM cGArc r8.Arcs] 42),(4,.vec (List.map cGmark ([]:List Gmark)).flatten 64 2 0),(3,.vec (List.map cGchange ([]:List Gchange)).flatten 97 4 0),(2,.vec (List.map cGcell ([]:List Gcell)).flatten 66 3 0),(1,.row [.iM cGType r3.1,.iM cGFeature r3.2,.vl 2 0 0 (([]:List Gcell).length),.vl 3 0 0 (([]:List Gchange).length),.vl 4 0 0 (([]:List Gmark).length)] 52)],7⟩) rfl (op_bsl un33.h if42.h rfl rfl rfl rfl rfl rfl rfl) (RS.fc rfl (Gh.fzC 6 2) (pC (law12_of_0 n ([r6,r8]) r10 h11) _) fn12 ?_)))
 refine RS.callx (R:=fun u σ'=>∃ t14:Nat→Nat,u = .i6 r12.1∧σ'=⟨[(4,.vec (List.map cGmark ([]:List Gmark)).flatten 64 2 0),(3,.vec (List.map cGchange ([]:List Gchange)).flatten 97 4 0),(2,.vec (List.map cGcell r12.2.1).flatten 66 3 r12.2.2),(1,.row [.iM cGType r3.1,.iM cGFeature r3.2,.vl 2 r12.2.2 0 r12.2.1.length,.vl 3 0 0 (([]:List Gchange).length),.vl 4 0 0 (([]:List Gmark).length)] 52)],7⟩) (args:=[.ptr 1 0 0,.agg [.iM cGNode r10.Nodes]]) (want1 rfl rfl rfl rfl) (op_call rfl rfl fn9 hb9 rfl rfl) (EvU.st [1,2,3,4] (trail_Heap_Load_s1_0 n r10 r3.1 r3.2 ([]:List Gcell) 0 ([]:List Gchange) ([]:List Gmark) r12 h13 0 0)) rfl rfl ?_
 rintro _ _ ⟨t14,rfl,rfl⟩
 refine go ?_
 refine RS.g ?_
 refine RS.fc rfl (Gh.fzC 7 1) (pC (law12_node_0 n 0 ([0,1]) r16 h17) _) fn13 (RS.cl rfl (EvU.wkA (args':=[.i6 0,.isl false []]) (.cons (.refl _) (.cons (.nil false) .nil)) (pC (law12_node_0 n 0 [] r18 h19)) _) fn13 (RS.w (u:=.sl 8 0 2 2) (σ':=⟨[(8,.row [.i6 r16.Typex,.iM cGArc r16.Arcs,.i6 r18.Typex,.iM cGArc r18.Arcs] 42),(4,.vec (List.map cGmark ([]:List Gmark)).flatten 64 2 0),(3,.vec (List.map cGchange ([]:List Gchange)).flatten 97 4 0),(2,.vec (List.map cGcell r12.2.1).flatten 66 3 r12.2.2),(1,.row [.iM cGType r3.1,.iM cGFeature r3.2,.vl 2 r12.2.2 0 r12.2.1.length,.vl 3 0 0 (([]:List Gchange).length),.vl 4 0 0 (([]:List Gmark).length)] 52)],9⟩) rfl (op_bsl un33.h if42.h rfl rfl rfl rfl rfl rfl rfl) (RS.fc rfl (Gh.fzC 8 2) (pC (law12_of_0 n ([r16,r18]) r20 h21) _) fn12 ?_)))
 refine RS.callx (R:=fun u σ'=>∃ t24:Nat→Nat,u = .i6 r22.1∧σ'=⟨[(4,.vec (List.map cGmark ([]:List Gmark)).flatten 64 2 0),(3,.vec (List.map cGchange ([]:List Gchange)).flatten 97 4 0),(2,.vec (List.map cGcell r22.2.1).flatten 66 3 r22.2.2),(1,.row [.iM cGType r3.1,.iM cGFeature r3.2,.vl 2 r22.2.2 0 r22.2.1.length,.vl 3 0 0 (([]:List Gchange).length),.vl 4 0 0 (([]:List Gmark).length)] 52)],9⟩) (args:=[.ptr 1 0 0,.agg [.iM cGNode r20.Nodes]]) (want1 rfl rfl rfl h15) (op_call rfl rfl fn9 hb9 rfl rfl) (EvU.st [1,2,3,4] (trail_Heap_Load_s1_0 n r20 r3.1 r3.2 r12.2.1 r12.2.2 ([]:List Gchange) ([]:List Gmark) r22 h23 0 0)) rfl rfl ?_
 rintro _ _ ⟨t24,rfl,rfl⟩
 refine go ?_
 refine WPU.condS (t:=true) rfl (fun _=>?_) (fun hc=>by cases hc)
 exact gx hF
 obtain ⟨r26,h27,hF⟩:=bindO_some hF
 obtain ⟨r28,h29,hF⟩:=bindO_some hF
 obtain ⟨r30,h31,hF⟩:=bindO_some hF
 rcases gB hF with ⟨h33,hF⟩ | ⟨h33,hF⟩
 refine go ?_
 refine RS.q (u:=.bool false) rfl (op_nil rfl rfl rfl (nc_pn un24.h rfl rfl)) ?_
 refine go ?_
 refine RS.g ?_
 refine RS.fc rfl (Gh.fzC 5 1) (pC (law12_node_0 n 0 ([0,1]) r6 h7) _) fn13 (RS.cl rfl (EvU.wkA (args':=[.i6 1,.isl false []]) (.cons (.refl _) (.cons (.nil false) .nil)) (pC (law12_node_0 n 1 [] r8 h9)) _) fn13 (RS.w (u:=.sl 6 0 2 2) (σ':=⟨[(6,.row [.i6 r6.Typex,.iM cGArc r6.Arcs,.i6 r8.Typex,.iM cGArc r8.Arcs] 42),(4,.vec (List.map cGmark ([]:List Gmark)).flatten 64 2 0),(3,.vec (List.map cGchange ([]:List Gchange)).flatten 97 4 0),(2,.vec (List.map cGcell ([]:List Gcell)).flatten 66 3 0),(1,.row [.iM cGType r3.1,.iM cGFeature r3.2,.vl 2 0 0 (([]:List Gcell).length),.vl 3 0 0 (([]:List Gchange).length),.vl 4 0 0 (([]:List Gmark).length)] 52)],7⟩) rfl (op_bsl un33.h if42.h rfl rfl rfl rfl rfl rfl rfl) (RS.fc rfl (Gh.fzC 6 2) (pC (law12_of_0 n ([r6,r8]) r10 h11) _) fn12 ?_)))
 refine RS.callx (R:=fun u σ'=>∃ t14:Nat→Nat,u = .i6 r12.1∧σ'=⟨[(4,.vec (List.map cGmark ([]:List Gmark)).flatten 64 2 0),(3,.vec (List.map cGchange ([]:List Gchange)).flatten 97 4 0),(2,.vec (List.map cGcell r12.2.1).flatten 66 3 r12.2.2),(1,.row [.iM cGType r3.1,.iM cGFeature r3.2,.vl 2 r12.2.2 0 r12.2.1.length,.vl 3 0 0 (([]:List Gchange).length),.vl 4 0 0 (([]:List Gmark).length)] 52)],7⟩) (args:=[.ptr 1 0 0,.agg [.iM cGNode r10.Nodes]]) (want1 rfl rfl rfl rfl) (op_call rfl rfl fn9 hb9 rfl rfl) (EvU.st [1,2,3,4] (trail_Heap_Load_s1_0 n r10 r3.1 r3.2 ([]:List Gcell) 0 ([]:List Gchange) ([]:List Gmark) r12 h13 0 0)) rfl rfl ?_
 rintro _ _ ⟨t14,rfl,rfl⟩
 refine go ?_
 refine RS.g ?_
 refine RS.fc rfl (Gh.fzC 7 1) (pC (law12_node_0 n 0 ([0,1]) r16 h17) _) fn13 (RS.cl rfl (EvU.wkA (args':=[.i6 0,.isl false []]) (.cons (.refl _) (.cons (.nil false) .nil)) (pC (law12_node_0 n 0 [] r18 h19)) _) fn13 (RS.w (u:=.sl 8 0 2 2) (σ':=⟨[(8,.row [.i6 r16.Typex,.iM cGArc r16.Arcs,.i6 r18.Typex,.iM cGArc r18.Arcs] 42),(4,.vec (List.map cGmark ([]:List Gmark)).flatten 64 2 0),(3,.vec (List.map cGchange ([]:List Gchange)).flatten 97 4 0),(2,.vec (List.map cGcell r12.2.1).flatten 66 3 r12.2.2),(1,.row [.iM cGType r3.1,.iM cGFeature r3.2,.vl 2 r12.2.2 0 r12.2.1.length,.vl 3 0 0 (([]:List Gchange).length),.vl 4 0 0 (([]:List Gmark).length)] 52)],9⟩) rfl (op_bsl un33.h if42.h rfl rfl rfl rfl rfl rfl rfl) (RS.fc rfl (Gh.fzC 8 2) (pC (law12_of_0 n ([r16,r18]) r20 h21) _) fn12 ?_)))
 refine RS.callx (R:=fun u σ'=>∃ t24:Nat→Nat,u = .i6 r22.1∧σ'=⟨[(4,.vec (List.map cGmark ([]:List Gmark)).flatten 64 2 0),(3,.vec (List.map cGchange ([]:List Gchange)).flatten 97 4 0),(2,.vec (List.map cGcell r22.2.1).flatten 66 3 r22.2.2),(1,.row [.iM cGType r3.1,.iM cGFeature r3.2,.vl 2 r22.2.2 0 r22.2.1.length,.vl 3 0 0 (([]:List Gchange).length),.vl 4 0 0 (([]:List Gmark).length)] 52)],9⟩) (args:=[.ptr 1 0 0,.agg [.iM cGNode r20.Nodes]]) (want1 rfl rfl rfl h15) (op_call rfl rfl fn9 hb9 rfl rfl) (EvU.st [1,2,3,4] (trail_Heap_Load_s1_0 n r20 r3.1 r3.2 r12.2.1 r12.2.2 ([]:List Gchange) ([]:List Gmark) r22 h23 0 0)) rfl rfl ?_
 rintro _ _ ⟨t24,rfl,rfl⟩
 refine go ?_
 refine RS.cl rfl (EvU.wkA (args':=[.i6 2,.isl false []]) (.cons (.refl _) (.cons (.nil false) .nil)) (pC (law12_node_0 n 2 [] r26 h27)) _) fn13 (RS.w (u:=.sl 9 0 1 1) (σ':=⟨[(9,.row (cGNode r26) 42),(4,.vec (List.map cGmark ([]:List Gmark)).flatten 64 2 0),(3,.vec (List.map cGchange ([]:List Gchange)).flatten 97 4 0),(2,.vec (List.map cGcell r22.2.1).flatten 66 3 r22.2.2),(1,.row [.iM cGType r3.1,.iM cGFeature r3.2,.vl 2 r22.2.2 0 r22.2.1.length,.vl 3 0 0 (([]:List Gchange).length),.vl 4 0 0 (([]:List Gmark).length)] 52)],10⟩) rfl (op_bsl un33.h if42.h rfl rfl rfl rfl rfl rfl rfl) (RS.fc rfl (Gh.fzC 9 2) (pC (law12_of_0 n ([r26]) r28 h29) _) fn12 ?_))
 refine RS.callx (R:=fun u σ'=>∃ t32:Nat→Nat,u = .i6 r30.1∧σ'=⟨[(4,.vec (List.map cGmark ([]:List Gmark)).flatten 64 2 0),(3,.vec (List.map cGchange ([]:List Gchange)).flatten 97 4 0),(2,.vec (List.map cGcell r30.2.1).flatten 66 3 r30.2.2),(1,.row [.iM cGType r3.1,.iM cGFeature r3.2,.vl 2 r30.2.2 0 r30.2.1.length,.vl 3 0 0 (([]:List Gchange).length),.vl 4 0 0 (([]:List Gmark).length)] 52)],10⟩) (args:=[.ptr 1 0 0,.agg [.iM cGNode r28.Nodes]]) (want1 rfl rfl rfl h25) (op_call rfl rfl fn9 hb9 rfl rfl) (EvU.st [1,2,3,4] (trail_Heap_Load_s1_0 n r28 r3.1 r3.2 r22.2.1 r22.2.2 ([]:List Gchange) ([]:List Gmark) r30 h31 0 0)) rfl rfl ?_
 rintro _ _ ⟨t32,rfl,rfl⟩
 refine go ?_
 refine WPU.condS (t:=true) rfl (fun _=>?_) (fun hc=>by cases hc)
 exact gx hF
 obtain ⟨r34,h35,hF⟩:=bindO_some hF
 refine go ?_
 refine RS.q (u:=.bool false) rfl (op_nil rfl rfl rfl (nc_pn un24.h rfl rfl)) ?_
 refine go ?_
 refine RS.g ?_
 refine RS.fc rfl (Gh.fzC 5 1) (pC (law12_node_0 n 0 ([0,1]) r6 h7) _) fn13 (RS.cl rfl (EvU.wkA (args':=[.i6 1,.isl false []]) (.cons (.refl _) (.cons (.nil false) .nil)) (pC (law12_node_0 n 1 [] r8 h9)) _) fn13 (RS.w (u:=.sl 6 0 2 2) (σ':=⟨[(6,.row [.i6 r6.Typex,.iM cGArc r6.Arcs,.i6 r8.Typex,.iM cGArc r8.Arcs] 42),(4,.vec (List.map cGmark ([]:List Gmark)).flatten 64 2 0),(3,.vec (List.map cGchange ([]:List Gchange)).flatten 97 4 0),(2,.vec (List.map cGcell ([]:List Gcell)).flatten 66 3 0),(1,.row [.iM cGType r3.1,.iM cGFeature r3.2,.vl 2 0 0 (([]:List Gcell).length),.vl 3 0 0 (([]:List Gchange).length),.vl 4 0 0 (([]:List Gmark).length)] 52)],7⟩) rfl (op_bsl un33.h if42.h rfl rfl rfl rfl rfl rfl rfl) (RS.fc rfl (Gh.fzC 6 2) (pC (law12_of_0 n ([r6,r8]) r10 h11) _) fn12 ?_)))
 refine RS.callx (R:=fun u σ'=>∃ t14:Nat→Nat,u = .i6 r12.1∧σ'=⟨[(4,.vec (List.map cGmark ([]:List Gmark)).flatten 64 2 0),(3,.vec (List.map cGchange ([]:List Gchange)).flatten 97 4 0),(2,.vec (List.map cGcell r12.2.1).flatten 66 3 r12.2.2),(1,.row [.iM cGType r3.1,.iM cGFeature r3.2,.vl 2 r12.2.2 0 r12.2.1.length,.vl 3 0 0 (([]:List Gchange).length),.vl 4 0 0 (([]:List Gmark).length)] 52)],7⟩) (args:=[.ptr 1 0 0,.agg [.iM cGNode r10.Nodes]]) (want1 rfl rfl rfl rfl) (op_call rfl rfl fn9 hb9 rfl rfl) (EvU.st [1,2,3,4] (trail_Heap_Load_s1_0 n r10 r3.1 r3.2 ([]:List Gcell) 0 ([]:List Gchange) ([]:List Gmark) r12 h13 0 0)) rfl rfl ?_
 rintro _ _ ⟨t14,rfl,rfl⟩
 refine go ?_
 refine RS.g ?_
 refine RS.fc rfl (Gh.fzC 7 1) (pC (law12_node_0 n 0 ([0,1]) r16 h17) _) fn13 (RS.cl rfl (EvU.wkA (args':=[.i6 0,.isl false []]) (.cons (.refl _) (.cons (.nil false) .nil)) (pC (law12_node_0 n 0 [] r18 h19)) _) fn13 (RS.w (u:=.sl 8 0 2 2) (σ':=⟨[(8,.row [.i6 r16.Typex,.iM cGArc r16.Arcs,.i6 r18.Typex,.iM cGArc r18.Arcs] 42),(4,.vec (List.map cGmark ([]:List Gmark)).flatten 64 2 0),(3,.vec (List.map cGchange ([]:List Gchange)).flatten 97 4 0),(2,.vec (List.map cGcell r12.2.1).flatten 66 3 r12.2.2),(1,.row [.iM cGType r3.1,.iM cGFeature r3.2,.vl 2 r12.2.2 0 r12.2.1.length,.vl 3 0 0 (([]:List Gchange).length),.vl 4 0 0 (([]:List Gmark).length)] 52)],9⟩) rfl (op_bsl un33.h if42.h rfl rfl rfl rfl rfl rfl rfl) (RS.fc rfl (Gh.fzC 8 2) (pC (law12_of_0 n ([r16,r18]) r20 h21) _) fn12 ?_)))
 refine RS.callx (R:=fun u σ'=>∃ t24:Nat→Nat,u = .i6 r22.1∧σ'=⟨[(4,.vec (List.map cGmark ([]:List Gmark)).flatten 64 2 0),(3,.vec (List.map cGchange ([]:List Gchange)).flatten 97 4 0),(2,.vec (List.map cGcell r22.2.1).flatten 66 3 r22.2.2),(1,.row [.iM cGType r3.1,.iM cGFeature r3.2,.vl 2 r22.2.2 0 r22.2.1.length,.vl 3 0 0 (([]:List Gchange).length),.vl 4 0 0 (([]:List Gmark).length)] 52)],9⟩) (args:=[.ptr 1 0 0,.agg [.iM cGNode r20.Nodes]]) (want1 rfl rfl rfl h15) (op_call rfl rfl fn9 hb9 rfl rfl) (EvU.st [1,2,3,4] (trail_Heap_Load_s1_0 n r20 r3.1 r3.2 r12.2.1 r12.2.2 ([]:List Gchange) ([]:List Gmark) r22 h23 0 0)) rfl rfl ?_
 rintro _ _ ⟨t24,rfl,rfl⟩
 refine go ?_
 refine RS.cl rfl (EvU.wkA (args':=[.i6 2,.isl false []]) (.cons (.refl _) (.cons (.nil false) .nil)) (pC (law12_node_0 n 2 [] r26 h27)) _) fn13 (RS.w (u:=.sl 9 0 1 1) (σ':=⟨[(9,.row (cGNode r26) 42),(4,.vec (List.map cGmark ([]:List Gmark)).flatten 64 2 0),(3,.vec (List.map cGchange ([]:List Gchange)).flatten 97 4 0),(2,.vec (List.map cGcell r22.2.1).flatten 66 3 r22.2.2),(1,.row [.iM cGType r3.1,.iM cGFeature r3.2,.vl 2 r22.2.2 0 r22.2.1.length,.vl 3 0 0 (([]:List Gchange).length),.vl 4 0 0 (([]:List Gmark).length)] 52)],10⟩) rfl (op_bsl un33.h if42.h rfl rfl rfl rfl rfl rfl rfl) (RS.fc rfl (Gh.fzC 9 2) (pC (law12_of_0 n ([r26]) r28 h29) _) fn12 ?_))
 refine RS.callx (R:=fun u σ'=>∃ t32:Nat→Nat,u = .i6 r30.1∧σ'=⟨[(4,.vec (List.map cGmark ([]:List Gmark)).flatten 64 2 0),(3,.vec (List.map cGchange ([]:List Gchange)).flatten 97 4 0),(2,.vec (List.map cGcell r30.2.1).flatten 66 3 r30.2.2),(1,.row [.iM cGType r3.1,.iM cGFeature r3.2,.vl 2 r30.2.2 0 r30.2.1.length,.vl 3 0 0 (([]:List Gchange).length),.vl 4 0 0 (([]:List Gmark).length)] 52)],10⟩) (args:=[.ptr 1 0 0,.agg [.iM cGNode r28.Nodes]]) (want1 rfl rfl rfl h25) (op_call rfl rfl fn9 hb9 rfl rfl) (EvU.st [1,2,3,4] (trail_Heap_Load_s1_0 n r28 r3.1 r3.2 r22.2.1 r22.2.2 ([]:List Gchange) ([]:List Gmark) r30 h31 0 0)) rfl rfl ?_
 rintro _ _ ⟨t32,rfl,rfl⟩
 refine go ?_
 refine RS.callx (R:=fun u σ'=>∃ t36:Nat→Nat,u = .i6 r34∧σ'=⟨[(4,.vec (List.map cGmark ([]:List Gmark)).flatten 64 2 0),(3,.vec (List.map cGchange ([]:List Gchange)).flatten 97 4 0),(2,.vec (List.map cGcell r30.2.1).flatten 66 3 r30.2.2),(1,.row [.iM cGType r3.1,.iM cGFeature r3.2,.vl 2 r30.2.2 0 r30.2.1.length,.vl 3 0 0 (([]:List Gchange).length),.vl 4 0 0 (([]:List Gmark).length)] 52)],10⟩) (args:=[.ptr 1 0 0]) (want1 rfl rfl rfl h33) (op_call rfl rfl fn8 hb8 rfl rfl) (EvU.st [1,2,3,4] (trail_Heap_Len_s1_0 n r3.1 r3.2 r30.2.1 ([]:List Gchange) ([]:List Gmark) r34 h35 r30.2.2 0 0)) rfl rfl ?_
 rintro _ _ ⟨t36,rfl,rfl⟩
 refine go ?_
 refine cF hF (fun h40 hF=>?_) (fun h40 hF=>?_)
 exact gx hF
 obtain ⟨r41,h42,hF⟩:=bindO_some hF
 obtain ⟨r44,h45,hF⟩:=bindO_some hF
 refine go ?_
 refine RS.callx (R:=fun u σ'=>∃ t43:Nat→Nat,u = .i6 r41.1∧σ'=⟨[(4,.vec (List.map cGmark r41.2.1).flatten 64 2 r41.2.2),(3,.vec (List.map cGchange ([]:List Gchange)).flatten 97 4 0),(2,.vec (List.map cGcell r30.2.1).flatten 66 3 r30.2.2),(1,.row [.iM cGType r3.1,.iM cGFeature r3.2,.vl 2 r30.2.2 0 r30.2.1.length,.vl 3 0 0 (([]:List Gchange).length),.vl 4 r41.2.2 0 r41.2.1.length] 52)],10⟩) (args:=[.ptr 1 0 0]) rfl (op_call rfl rfl fn7 hb7 rfl rfl) (EvU.st [1,2,3,4] (trail_Heap_Mark_s1_0 n r3.1 r3.2 r30.2.1 ([]:List Gchange) ([]:List Gmark) 0 r41 h42 r30.2.2 0)) rfl rfl ?_
 rintro _ _ ⟨t43,rfl,rfl⟩
 refine go ?_
 refine RS.callx (R:=fun u σ'=>∃ t46:Nat→Nat,u = .i6 r44.1∧σ'=⟨[(4,.vec (List.map cGmark r44.2.1).flatten 64 2 r44.2.2),(3,.vec (List.map cGchange ([]:List Gchange)).flatten 97 4 0),(2,.vec (List.map cGcell r30.2.1).flatten 66 3 r30.2.2),(1,.row [.iM cGType r3.1,.iM cGFeature r3.2,.vl 2 r30.2.2 0 r30.2.1.length,.vl 3 0 0 (([]:List Gchange).length),.vl 4 r44.2.2 0 r44.2.1.length] 52)],10⟩) (args:=[.ptr 1 0 0]) rfl (op_call rfl rfl fn7 hb7 rfl rfl) (EvU.st [1,2,3,4] (trail_Heap_Mark_s1_0 n r3.1 r3.2 r30.2.1 ([]:List Gchange) r41.2.1 r41.2.2 r44 h45 r30.2.2 0)) rfl rfl ?_
 rintro _ _ ⟨t46,rfl,rfl⟩
 refine go ?_
 rcases gB hF with ⟨h47,hF⟩ | ⟨h47,hF⟩
 refine go ?_
 refine WPU.condS (t:=true) rfl (fun _=>?_) (fun hc=>by cases hc)
 exact gx hF
 rcases gB hF with ⟨h48,hF⟩ | ⟨h48,hF⟩
 refine go ?_
 refine WPU.condS (t:=true) rfl (fun _=>?_) (fun hc=>by cases hc)
 exact gx hF
 obtain ⟨r49,h50,hF⟩:=bindO_some hF
 refine go ?_
 refine RS.callx (R:=fun u σ'=>∃ t51:Nat→Nat,u = .bool r49.1∧σ'=⟨[(4,.vec (List.map cGmark r44.2.1).flatten 64 2 r44.2.2),(3,.vec (List.map cGchange r49.2.2.1).flatten 97 4 r49.2.2.2),(2,.vec (List.map cGcell r49.2.1).flatten 66 3 r30.2.2),(1,.row [.iM cGType r3.1,.iM cGFeature r3.2,.vl 2 r30.2.2 0 r49.2.1.length,.vl 3 r49.2.2.2 0 r49.2.2.1.length,.vl 4 r44.2.2 0 r44.2.1.length] 52)],10⟩) (args:=[.ptr 1 0 0,.i6 0,.i6 2]) (want1 rfl rfl rfl h48) (op_call rfl rfl fn14 hb14 rfl rfl) (EvU.st [1,2,3,4] (trail_Heap_Unify_s1_0 n 0 2 r3.1 r3.2 r30.2.1 ([]:List Gchange) 0 r44.2.1 r49 h50 r30.2.2 r44.2.2)) rfl rfl ?_
 rintro _ _ ⟨t51,rfl,rfl⟩
 refine go ?_
 refine cF hF (fun h56 hF=>?_) (fun h56 hF=>?_)
 exact gx hF
 obtain ⟨r57,h58,hF⟩:=bindO_some hF
 refine go ?_
 refine RS.callx (R:=fun u σ'=>∃ t59:Nat→Nat,u = .tup [.agg [.iM cGNode r57.1.Nodes],.bool r57.2]∧σ'=⟨[(4,.vec (List.map cGmark r44.2.1).flatten 64 2 r44.2.2),(3,.vec (List.map cGchange r49.2.2.1).flatten 97 4 r49.2.2.2),(2,.vec (List.map cGcell r49.2.1).flatten 66 3 r30.2.2),(1,.row [.iM cGType r3.1,.iM cGFeature r3.2,.vl 2 r30.2.2 0 r49.2.1.length,.vl 3 r49.2.2.2 0 r49.2.2.1.length,.vl 4 r44.2.2 0 r44.2.1.length] 52)],10⟩) (args:=[.ptr 1 0 0,.i6 3]) rfl (op_call rfl rfl fn15 hb15 rfl rfl) (EvU.st [1,2,3,4] (trail_Heap_Read_s1_0 n 3 r3.1 r3.2 r49.2.1 r49.2.2.1 r44.2.1 r57 h58 r30.2.2 r49.2.2.2 r44.2.2)) rfl rfl ?_
 rintro _ _ ⟨t59,rfl,rfl⟩
 refine go ?_
 rcases gB hF with ⟨h60,hF⟩ | ⟨h60,hF⟩
 refine WPU.drawE Try.tb_ok [] (by kernel_rfl) ?_
 refine gd ?_
 refine RD.done ⟨by kernel_rfl,trivial,?_⟩
 refine go ?_
 refine WPU.condS (t:=true) rfl (fun _=>?_) (fun hc=>by cases hc)
 exact gx hF
 obtain ⟨r61,h62,hF⟩:=bindO_some hF
 obtain ⟨r63,h64,hF⟩:=bindO_some hF
 rcases gB hF with ⟨h65,hF⟩ | ⟨h65,hF⟩
 refine WPU.drawE Try.tb_ok [] (by kernel_rfl) ?_
 refine gd ?_
 refine RD.fl rfl (pC (ref07_Atom_0 n 1 r61 h62)) fn10 (RD.fl rfl (pC (ref07_Equal_0 n (GFS.mk r57.1.Nodes) r61 r63 h64)) fn16 ?_)
 refine gd ?_
 refine RD.done ⟨by kernel_rfl,trivial,?_⟩
 refine go ?_
 refine WPU.condS (t:=true) rfl (fun _=>?_) (fun hc=>by cases hc)
 exact gx hF
 obtain ⟨r66,h67,hF⟩:=bindO_some hF
 rcases gB hF with ⟨h69,hF⟩ | ⟨h69,hF⟩
 refine WPU.drawE Try.tb_ok [] (by kernel_rfl) ?_
 refine gd ?_
 refine RD.fl rfl (pC (ref07_Atom_0 n 1 r61 h62)) fn10 (RD.fl rfl (pC (ref07_Equal_0 n (GFS.mk r57.1.Nodes) r61 r63 h64)) fn16 ?_)
 refine gd ?_
 refine RD.callm (u:=.bool r66.1) (σ1:=⟨[(10,.row [.iM cGNode r57.1.Nodes] 35),(4,.vec (List.map cGmark r44.2.1).flatten 64 2 r44.2.2),(3,.vec (List.map cGchange r66.2.2.1).flatten 97 4 r66.2.2.2),(2,.vec (List.map cGcell r66.2.1).flatten 66 3 r30.2.2),(1,.row [.iM cGType r3.1,.iM cGFeature r3.2,.vl 2 r30.2.2 0 r66.2.1.length,.vl 3 r66.2.2.2 0 r66.2.2.1.length,.vl 4 r44.2.2 0 r44.2.1.length] 52)],11⟩) (args:=[.ptr 1 0 0,.i6 3,.i6 4]) (want1 rfl rfl rfl h65) (op_call rfl rfl fn14 hb14 rfl rfl) ((EvU.st [1,2,3,4] (trail_Heap_Unify_s1_0 n 3 4 r3.1 r3.2 r49.2.1 r49.2.2.1 r49.2.2.2 r44.2.1 r66 h67 r30.2.2 r44.2.2)).mono fun _ _ ⟨_,h⟩=>h) rfl rfl ?_
 refine gd ?_
 refine RD.done ⟨by kernel_rfl,trivial,?_⟩
 refine go ?_
 refine WPU.condS (t:=true) rfl (fun _=>?_) (fun hc=>by cases hc)
 exact gx hF
 obtain ⟨r70,h71,hF⟩:=bindO_some hF
 rcases gB hF with ⟨h73,hF⟩ | ⟨h73,hF⟩
 refine WPU.drawE Try.tb_ok [] (by kernel_rfl) ?_
 refine gd ?_
 refine RD.fl rfl (pC (ref07_Atom_0 n 1 r61 h62)) fn10 (RD.fl rfl (pC (ref07_Equal_0 n (GFS.mk r57.1.Nodes) r61 r63 h64)) fn16 ?_)
 refine gd ?_
 refine RD.callm (u:=.bool r66.1) (σ1:=⟨[(10,.row [.iM cGNode r57.1.Nodes] 35),(4,.vec (List.map cGmark r44.2.1).flatten 64 2 r44.2.2),(3,.vec (List.map cGchange r66.2.2.1).flatten 97 4 r66.2.2.2),(2,.vec (List.map cGcell r66.2.1).flatten 66 3 r30.2.2),(1,.row [.iM cGType r3.1,.iM cGFeature r3.2,.vl 2 r30.2.2 0 r66.2.1.length,.vl 3 r66.2.2.2 0 r66.2.2.1.length,.vl 4 r44.2.2 0 r44.2.1.length] 52)],11⟩) (args:=[.ptr 1 0 0,.i6 3,.i6 4]) (want1 rfl rfl rfl h65) (op_call rfl rfl fn14 hb14 rfl rfl) ((EvU.st [1,2,3,4] (trail_Heap_Unify_s1_0 n 3 4 r3.1 r3.2 r49.2.1 r49.2.2.1 r49.2.2.2 r44.2.1 r66 h67 r30.2.2 r44.2.2)).mono fun _ _ ⟨_,h⟩=>h) rfl rfl ?_
 refine gd ?_
 refine RD.callm (u:=.bool r70.1) (σ1:=⟨[(10,.row [.iM cGNode r57.1.Nodes] 35),(4,.vec (List.map cGmark r44.2.1).flatten 64 2 r44.2.2),(3,.vec (List.map cGchange r70.2.2.1).flatten 97 4 r70.2.2.2),(2,.vec (List.map cGcell r70.2.1).flatten 66 3 r30.2.2),(1,.row [.iM cGType r3.1,.iM cGFeature r3.2,.vl 2 r30.2.2 0 r70.2.1.length,.vl 3 r70.2.2.2 0 r70.2.2.1.length,.vl 4 r44.2.2 0 r44.2.1.length] 52)],11⟩) (args:=[.ptr 1 0 0,.i6 0,.i6 5]) (want1 rfl rfl rfl h69) (op_call rfl rfl fn14 hb14 rfl rfl) ((EvU.st [1,2,3,4] (trail_Heap_Unify_s1_0 n 0 5 r3.1 r3.2 r66.2.1 r66.2.2.1 r66.2.2.2 r44.2.1 r70 h71 r30.2.2 r44.2.2)).mono fun _ _ ⟨_,h⟩=>h) rfl rfl ?_
 refine gd ?_
 refine RD.done ⟨by kernel_rfl,trivial,?_⟩
 refine go ?_
 refine WPU.condS (t:=true) rfl (fun _=>?_) (fun hc=>by cases hc)
 exact gx hF
 obtain ⟨r74,h75,hF⟩:=bindO_some hF
 refine WPU.drawE Try.tb_ok [] (by kernel_rfl) ?_
 refine gd ?_
 refine RD.fl rfl (pC (ref07_Atom_0 n 1 r61 h62)) fn10 (RD.fl rfl (pC (ref07_Equal_0 n (GFS.mk r57.1.Nodes) r61 r63 h64)) fn16 ?_)
 refine gd ?_
 refine RD.callm (u:=.bool r66.1) (σ1:=⟨[(10,.row [.iM cGNode r57.1.Nodes] 35),(4,.vec (List.map cGmark r44.2.1).flatten 64 2 r44.2.2),(3,.vec (List.map cGchange r66.2.2.1).flatten 97 4 r66.2.2.2),(2,.vec (List.map cGcell r66.2.1).flatten 66 3 r30.2.2),(1,.row [.iM cGType r3.1,.iM cGFeature r3.2,.vl 2 r30.2.2 0 r66.2.1.length,.vl 3 r66.2.2.2 0 r66.2.2.1.length,.vl 4 r44.2.2 0 r44.2.1.length] 52)],11⟩) (args:=[.ptr 1 0 0,.i6 3,.i6 4]) (want1 rfl rfl rfl h65) (op_call rfl rfl fn14 hb14 rfl rfl) ((EvU.st [1,2,3,4] (trail_Heap_Unify_s1_0 n 3 4 r3.1 r3.2 r49.2.1 r49.2.2.1 r49.2.2.2 r44.2.1 r66 h67 r30.2.2 r44.2.2)).mono fun _ _ ⟨_,h⟩=>h) rfl rfl ?_
 refine gd ?_
 refine RD.callm (u:=.bool r70.1) (σ1:=⟨[(10,.row [.iM cGNode r57.1.Nodes] 35),(4,.vec (List.map cGmark r44.2.1).flatten 64 2 r44.2.2),(3,.vec (List.map cGchange r70.2.2.1).flatten 97 4 r70.2.2.2),(2,.vec (List.map cGcell r70.2.1).flatten 66 3 r30.2.2),(1,.row [.iM cGType r3.1,.iM cGFeature r3.2,.vl 2 r30.2.2 0 r70.2.1.length,.vl 3 r70.2.2.2 0 r70.2.2.1.length,.vl 4 r44.2.2 0 r44.2.1.length] 52)],11⟩) (args:=[.ptr 1 0 0,.i6 0,.i6 5]) (want1 rfl rfl rfl h69) (op_call rfl rfl fn14 hb14 rfl rfl) ((EvU.st [1,2,3,4] (trail_Heap_Unify_s1_0 n 0 5 r3.1 r3.2 r66.2.1 r66.2.2.1 r66.2.2.2 r44.2.1 r70 h71 r30.2.2 r44.2.2)).mono fun _ _ ⟨_,h⟩=>h) rfl rfl ?_
 refine gd ?_
 refine RD.callm (u:=.bool r74.1) (σ1:=⟨[(10,.row [.iM cGNode r57.1.Nodes] 35),(4,.vec (List.map cGmark r44.2.1).flatten 64 2 r44.2.2),(3,.vec (List.map cGchange r74.2.2.1).flatten 97 4 r74.2.2.2),(2,.vec (List.map cGcell r74.2.1).flatten 66 3 r30.2.2),(1,.row [.iM cGType r3.1,.iM cGFeature r3.2,.vl 2 r30.2.2 0 r74.2.1.length,.vl 3 r74.2.2.2 0 r74.2.2.1.length,.vl 4 r44.2.2 0 r44.2.1.length] 52)],11⟩) (args:=[.ptr 1 0 0,.i6 (-1),.i6 0]) (want1 rfl rfl rfl h73) (op_call rfl rfl fn14 hb14 rfl rfl) ((EvU.st [1,2,3,4] (trail_Heap_Unify_s1_0 n (-1) 0 r3.1 r3.2 r70.2.1 r70.2.2.1 r70.2.2.2 r44.2.1 r74 h75 r30.2.2 r44.2.2)).mono fun _ _ ⟨_,h⟩=>h) rfl rfl ?_
 refine gd ?_
 refine RD.done ⟨by kernel_rfl,trivial,?_⟩
 refine go ?_
 refine cF hF (fun h81 hF=>?_) (fun h81 hF=>?_)
 exact gx hF
 obtain ⟨r82,h83,hF⟩:=bindO_some hF
 refine go ?_
 refine RS.callx (R:=fun u σ'=>∃ t84:Nat→Nat,u = .tup [.agg [.iM cGNode r82.1.Nodes],.bool r82.2]∧σ'=⟨[(10,.row [.iM cGNode r57.1.Nodes] 35),(4,.vec (List.map cGmark r44.2.1).flatten 64 2 r44.2.2),(3,.vec (List.map cGchange r74.2.2.1).flatten 97 4 r74.2.2.2),(2,.vec (List.map cGcell r74.2.1).flatten 66 3 r30.2.2),(1,.row [.iM cGType r3.1,.iM cGFeature r3.2,.vl 2 r30.2.2 0 r74.2.1.length,.vl 3 r74.2.2.2 0 r74.2.2.1.length,.vl 4 r44.2.2 0 r44.2.1.length] 52)],11⟩) (args:=[.ptr 1 0 0,.i6 4]) rfl (op_call rfl rfl fn15 hb15 rfl rfl) (EvU.st [1,2,3,4] (trail_Heap_Read_s1_0 n 4 r3.1 r3.2 r74.2.1 r74.2.2.1 r44.2.1 r82 h83 r30.2.2 r74.2.2.2 r44.2.2)) rfl rfl ?_
 rintro _ _ ⟨t84,rfl,rfl⟩
 refine go ?_
 rcases gB hF with ⟨h85,hF⟩ | ⟨h85,hF⟩
 refine WPU.drawE Try.tb_ok [] (by kernel_rfl) ?_
 refine gd ?_
 refine RD.done ⟨by kernel_rfl,trivial,?_⟩
 refine go ?_
 refine WPU.condS (t:=true) rfl (fun _=>?_) (fun hc=>by cases hc)
 exact gx hF
 obtain ⟨r86,h87,hF⟩:=bindO_some hF
 obtain ⟨r88,h89,hF⟩:=bindO_some hF
 rcases gB hF with ⟨h90,hF⟩ | ⟨h90,hF⟩
 refine WPU.drawE Try.tb_ok [] (by kernel_rfl) ?_
 refine gd ?_
 refine RD.fl rfl (pC (ref07_Atom_0 n 2 r86 h87)) fn10 (RD.fl rfl (pC (ref07_Equal_0 n (GFS.mk r82.1.Nodes) r86 r88 h89)) fn16 ?_)
 refine gd ?_
 refine RD.done ⟨by kernel_rfl,trivial,?_⟩
 refine go ?_
 refine WPU.condS (t:=true) rfl (fun _=>?_) (fun hc=>by cases hc)
 exact gx hF
 obtain ⟨r91,h92,hF⟩:=bindO_some hF
 rcases gB hF with ⟨h94,hF⟩ | ⟨h94,hF⟩
 refine WPU.drawE Try.tb_ok [] (by kernel_rfl) ?_
 refine gd ?_
 refine RD.fl rfl (pC (ref07_Atom_0 n 2 r86 h87)) fn10 (RD.fl rfl (pC (ref07_Equal_0 n (GFS.mk r82.1.Nodes) r86 r88 h89)) fn16 ?_)
 refine gd ?_
 refine RD.callm (u:=.bool r91.1) (σ1:=⟨[(11,.row [.iM cGNode r82.1.Nodes] 35),(10,.row [.iM cGNode r57.1.Nodes] 35),(4,.vec (List.map cGmark r91.2.2.2).flatten 64 2 r44.2.2),(3,.vec (List.map cGchange r91.2.2.1).flatten 97 4 r74.2.2.2),(2,.vec (List.map cGcell r91.2.1).flatten 66 3 r30.2.2),(1,.row [.iM cGType r3.1,.iM cGFeature r3.2,.vl 2 r30.2.2 0 r91.2.1.length,.vl 3 r74.2.2.2 0 r91.2.2.1.length,.vl 4 r44.2.2 0 r91.2.2.2.length] 52)],12⟩) (args:=[.ptr 1 0 0,.i6 0]) (want1 rfl rfl rfl h90) (op_call rfl rfl fn11 hb11 rfl rfl) ((EvU.st [1,2,3,4] (trail_Heap_Undo_s1_0 n 0 r3.1 r3.2 r74.2.1 r74.2.2.1 r44.2.1 r91 h92 r30.2.2 r74.2.2.2 r44.2.2)).mono fun _ _ ⟨_,h⟩=>h) rfl rfl ?_
 refine gd ?_
 refine RD.done ⟨by kernel_rfl,trivial,?_⟩
 refine go ?_
 refine WPU.condS (t:=true) rfl (fun _=>?_) (fun hc=>by cases hc)
 exact gx hF
 obtain ⟨r95,h96,hF⟩:=bindO_some hF
 rcases gB hF with ⟨h98,hF⟩ | ⟨h98,hF⟩
 refine WPU.drawE Try.tb_ok [] (by kernel_rfl) ?_
 refine gd ?_
 refine RD.fl rfl (pC (ref07_Atom_0 n 2 r86 h87)) fn10 (RD.fl rfl (pC (ref07_Equal_0 n (GFS.mk r82.1.Nodes) r86 r88 h89)) fn16 ?_)
 refine gd ?_
 refine RD.callm (u:=.bool r91.1) (σ1:=⟨[(11,.row [.iM cGNode r82.1.Nodes] 35),(10,.row [.iM cGNode r57.1.Nodes] 35),(4,.vec (List.map cGmark r91.2.2.2).flatten 64 2 r44.2.2),(3,.vec (List.map cGchange r91.2.2.1).flatten 97 4 r74.2.2.2),(2,.vec (List.map cGcell r91.2.1).flatten 66 3 r30.2.2),(1,.row [.iM cGType r3.1,.iM cGFeature r3.2,.vl 2 r30.2.2 0 r91.2.1.length,.vl 3 r74.2.2.2 0 r91.2.2.1.length,.vl 4 r44.2.2 0 r91.2.2.2.length] 52)],12⟩) (args:=[.ptr 1 0 0,.i6 0]) (want1 rfl rfl rfl h90) (op_call rfl rfl fn11 hb11 rfl rfl) ((EvU.st [1,2,3,4] (trail_Heap_Undo_s1_0 n 0 r3.1 r3.2 r74.2.1 r74.2.2.1 r44.2.1 r91 h92 r30.2.2 r74.2.2.2 r44.2.2)).mono fun _ _ ⟨_,h⟩=>h) rfl rfl ?_
 refine gd ?_
 refine RD.callm (u:=.bool r95.1) (σ1:=⟨[(11,.row [.iM cGNode r82.1.Nodes] 35),(10,.row [.iM cGNode r57.1.Nodes] 35),(4,.vec (List.map cGmark r95.2.2.2).flatten 64 2 r44.2.2),(3,.vec (List.map cGchange r95.2.2.1).flatten 97 4 r74.2.2.2),(2,.vec (List.map cGcell r95.2.1).flatten 66 3 r30.2.2),(1,.row [.iM cGType r3.1,.iM cGFeature r3.2,.vl 2 r30.2.2 0 r95.2.1.length,.vl 3 r74.2.2.2 0 r95.2.2.1.length,.vl 4 r44.2.2 0 r95.2.2.2.length] 52)],12⟩) (args:=[.ptr 1 0 0,.i6 1]) (want1 rfl rfl rfl h94) (op_call rfl rfl fn11 hb11 rfl rfl) ((EvU.st [1,2,3,4] (trail_Heap_Undo_s1_0 n 1 r3.1 r3.2 r91.2.1 r91.2.2.1 r91.2.2.2 r95 h96 r30.2.2 r74.2.2.2 r44.2.2)).mono fun _ _ ⟨_,h⟩=>h) rfl rfl ?_
 refine gd ?_
 refine RD.done ⟨by kernel_rfl,trivial,?_⟩
 refine go ?_
 refine WPU.condS (t:=true) rfl (fun _=>?_) (fun hc=>by cases hc)
 exact gx hF
 obtain ⟨r99,h100,hF⟩:=bindO_some hF
 refine WPU.drawE Try.tb_ok [] (by kernel_rfl) ?_
 refine gd ?_
 refine RD.fl rfl (pC (ref07_Atom_0 n 2 r86 h87)) fn10 (RD.fl rfl (pC (ref07_Equal_0 n (GFS.mk r82.1.Nodes) r86 r88 h89)) fn16 ?_)
 refine gd ?_
 refine RD.callm (u:=.bool r91.1) (σ1:=⟨[(11,.row [.iM cGNode r82.1.Nodes] 35),(10,.row [.iM cGNode r57.1.Nodes] 35),(4,.vec (List.map cGmark r91.2.2.2).flatten 64 2 r44.2.2),(3,.vec (List.map cGchange r91.2.2.1).flatten 97 4 r74.2.2.2),(2,.vec (List.map cGcell r91.2.1).flatten 66 3 r30.2.2),(1,.row [.iM cGType r3.1,.iM cGFeature r3.2,.vl 2 r30.2.2 0 r91.2.1.length,.vl 3 r74.2.2.2 0 r91.2.2.1.length,.vl 4 r44.2.2 0 r91.2.2.2.length] 52)],12⟩) (args:=[.ptr 1 0 0,.i6 0]) (want1 rfl rfl rfl h90) (op_call rfl rfl fn11 hb11 rfl rfl) ((EvU.st [1,2,3,4] (trail_Heap_Undo_s1_0 n 0 r3.1 r3.2 r74.2.1 r74.2.2.1 r44.2.1 r91 h92 r30.2.2 r74.2.2.2 r44.2.2)).mono fun _ _ ⟨_,h⟩=>h) rfl rfl ?_
 refine gd ?_
 refine RD.callm (u:=.bool r95.1) (σ1:=⟨[(11,.row [.iM cGNode r82.1.Nodes] 35),(10,.row [.iM cGNode r57.1.Nodes] 35),(4,.vec (List.map cGmark r95.2.2.2).flatten 64 2 r44.2.2),(3,.vec (List.map cGchange r95.2.2.1).flatten 97 4 r74.2.2.2),(2,.vec (List.map cGcell r95.2.1).flatten 66 3 r30.2.2),(1,.row [.iM cGType r3.1,.iM cGFeature r3.2,.vl 2 r30.2.2 0 r95.2.1.length,.vl 3 r74.2.2.2 0 r95.2.2.1.length,.vl 4 r44.2.2 0 r95.2.2.2.length] 52)],12⟩) (args:=[.ptr 1 0 0,.i6 1]) (want1 rfl rfl rfl h94) (op_call rfl rfl fn11 hb11 rfl rfl) ((EvU.st [1,2,3,4] (trail_Heap_Undo_s1_0 n 1 r3.1 r3.2 r91.2.1 r91.2.2.1 r91.2.2.2 r95 h96 r30.2.2 r74.2.2.2 r44.2.2)).mono fun _ _ ⟨_,h⟩=>h) rfl rfl ?_
 refine gd ?_
 refine RD.callm (u:=.i6 r99.1) (σ1:=⟨[(11,.row [.iM cGNode r82.1.Nodes] 35),(10,.row [.iM cGNode r57.1.Nodes] 35),(4,.vec (List.map cGmark r99.2.1).flatten 64 2 r99.2.2),(3,.vec (List.map cGchange r95.2.2.1).flatten 97 4 r74.2.2.2),(2,.vec (List.map cGcell r95.2.1).flatten 66 3 r30.2.2),(1,.row [.iM cGType r3.1,.iM cGFeature r3.2,.vl 2 r30.2.2 0 r95.2.1.length,.vl 3 r74.2.2.2 0 r95.2.2.1.length,.vl 4 r99.2.2 0 r99.2.1.length] 52)],12⟩) (args:=[.ptr 1 0 0]) (want1 rfl rfl rfl h98) (op_call rfl rfl fn7 hb7 rfl rfl) ((EvU.st [1,2,3,4] (trail_Heap_Mark_s1_0 n r3.1 r3.2 r95.2.1 r95.2.2.1 r95.2.2.2 r44.2.2 r99 h100 r30.2.2 r74.2.2.2)).mono fun _ _ ⟨_,h⟩=>h) rfl rfl ?_
 refine gd ?_
 refine RD.done ⟨by kernel_rfl,trivial,?_⟩
 refine go ?_
 refine cF hF (fun h107 hF=>?_) (fun h107 hF=>?_)
 exact gx hF
 obtain ⟨r108,h109,hF⟩:=bindO_some hF
 refine go ?_
 refine RS.callx (R:=fun u σ'=>∃ t110:Nat→Nat,u = .tup [.agg [.iM cGNode r108.1.Nodes],.bool r108.2]∧σ'=⟨[(11,.row [.iM cGNode r82.1.Nodes] 35),(10,.row [.iM cGNode r57.1.Nodes] 35),(4,.vec (List.map cGmark r99.2.1).flatten 64 2 r99.2.2),(3,.vec (List.map cGchange r95.2.2.1).flatten 97 4 r74.2.2.2),(2,.vec (List.map cGcell r95.2.1).flatten 66 3 r30.2.2),(1,.row [.iM cGType r3.1,.iM cGFeature r3.2,.vl 2 r30.2.2 0 r95.2.1.length,.vl 3 r74.2.2.2 0 r95.2.2.1.length,.vl 4 r99.2.2 0 r99.2.1.length] 52)],12⟩) (args:=[.ptr 1 0 0,.i6 3]) rfl (op_call rfl rfl fn15 hb15 rfl rfl) (EvU.st [1,2,3,4] (trail_Heap_Read_s1_0 n 3 r3.1 r3.2 r95.2.1 r95.2.2.1 r99.2.1 r108 h109 r30.2.2 r74.2.2.2 r99.2.2)) rfl rfl ?_
 rintro _ _ ⟨t110,rfl,rfl⟩
 obtain ⟨r111,h112,hF⟩:=bindO_some hF
 refine go ?_
 refine RS.callx (R:=fun u σ'=>∃ t113:Nat→Nat,u = .tup [.agg [.iM cGNode r111.1.Nodes],.bool r111.2]∧σ'=⟨[(12,.row [.iM cGNode r108.1.Nodes] 35),(11,.row [.iM cGNode r82.1.Nodes] 35),(10,.row [.iM cGNode r57.1.Nodes] 35),(4,.vec (List.map cGmark r99.2.1).flatten 64 2 r99.2.2),(3,.vec (List.map cGchange r95.2.2.1).flatten 97 4 r74.2.2.2),(2,.vec (List.map cGcell r95.2.1).flatten 66 3 r30.2.2),(1,.row [.iM cGType r3.1,.iM cGFeature r3.2,.vl 2 r30.2.2 0 r95.2.1.length,.vl 3 r74.2.2.2 0 r95.2.2.1.length,.vl 4 r99.2.2 0 r99.2.1.length] 52)],13⟩) (args:=[.ptr 1 0 0,.i6 5]) rfl (op_call rfl rfl fn15 hb15 rfl rfl) (EvU.st [1,2,3,4] (trail_Heap_Read_s1_0 n 5 r3.1 r3.2 r95.2.1 r95.2.2.1 r99.2.1 r111 h112 r30.2.2 r74.2.2.2 r99.2.2)) rfl rfl ?_
 rintro _ _ ⟨t113,rfl,rfl⟩
 obtain ⟨b120,h121,hF⟩:=bindO_some hF
 refine gn ?_
 refine WPU.joinK (fun tm σ=>tm=fr 136 [(0,.bool b120)]∧σ=⟨[(13,.row [.iM cGNode r111.1.Nodes] 35),(12,.row [.iM cGNode r108.1.Nodes] 35),(11,.row [.iM cGNode r82.1.Nodes] 35),(10,.row [.iM cGNode r57.1.Nodes] 35),(4,.vec (List.map cGmark r99.2.1).flatten 64 2 r99.2.2),(3,.vec (List.map cGchange r95.2.2.1).flatten 97 4 r74.2.2.2),(2,.vec (List.map cGcell r95.2.1).flatten 66 3 r30.2.2),(1,.row [.iM cGType r3.1,.iM cGFeature r3.2,.vl 2 r30.2.2 0 r95.2.1.length,.vl 3 r74.2.2.2 0 r95.2.2.1.length,.vl 4 r99.2.2 0 r99.2.1.length] 52)],14⟩) ?_ ?_
 rintro _ _ ⟨rfl,rfl⟩
 exact gx hF
 rcases gB h121 with ⟨h114,h121⟩ | ⟨h114,h121⟩
 obtain ⟨r115,h116,h121⟩:=bindO_some h121
 obtain ⟨r117,h118,h121⟩:=bindO_some h121
 rcases gB h121 with ⟨h119,h121⟩ | ⟨h119,h121⟩
 obtain rfl:=sI h121
 refine WPU.drawE Try.tb_ok [] (by kernel_rfl) ?_
 refine gd ?_
 refine RD.fl rfl (pC (ref07_Atom_0 n 0 r115 h116)) fn10 (RD.fl rfl (pC (ref07_Equal_0 n (GFS.mk r108.1.Nodes) r115 r117 h118)) fn16 ?_)
 refine gd ?_
 refine RD.done ⟨by kernel_rfl,trivial,?_⟩
 refine go ?_
 exact xC ⟨rfl,rfl⟩
 obtain rfl:=sI h121
 refine WPU.drawE Try.tb_ok [] (by kernel_rfl) ?_
 refine gd ?_
 refine RD.fl rfl (pC (ref07_Atom_0 n 0 r115 h116)) fn10 (RD.fl rfl (pC (ref07_Equal_0 n (GFS.mk r108.1.Nodes) r115 r117 h118)) fn16 ?_)
 refine gd ?_
 refine RD.done ⟨by kernel_rfl,trivial,?_⟩
 refine go ?_
 exact xC ⟨rfl,rfl⟩
 obtain rfl:=sI h121
 refine WPU.drawE Try.tb_ok [] (by kernel_rfl) ?_
 refine gd ?_
 refine RD.done ⟨by kernel_rfl,trivial,?_⟩
 refine go ?_
 exact xC ⟨rfl,rfl⟩
def law12_TrailMarks_J2 (z23:Int) (t25:Nat) (t28:Nat) (t30:Nat) (rc1:Int→(List Gmark)→Nat→(List Gchange)→(List Gcell)→Nat→(List Int)→Nat→Option (Bool)) (r67:Bool×(List Gcell)×(List Gchange)×(List Gmark)) (l72:List Int):Option (Bool) :=
 rc1 (IntKind.i64.wrap (z23+1)) r67.2.2.2 t25 r67.2.2.1 r67.2.1 t28 l72 t30
def law12_TrailMarks_K1 (n:Nat) (r7:(List GType)×(List GFeature)) (l31:List Gmark) (t32:Nat) (l33:List Gchange) (l34:List Gcell) (t35:Nat) (l36:List Int) (t37:Nat):Option (Bool) :=
 bindO (bindO (trail_Heap_Undo_s1 n (-1) r7.1 r7.2 l34 l33 l31) fun r38 =>
 cond (!r38.1)
  (bindO (law12_exampleHolds n) fun r42 =>
  some (r42,r38.2.2.2,r38.2.2.1,r38.2.1))
  (some (false,r38.2.2.2,r38.2.2.1,r38.2.1))) fun j49 =>
 some j49.1
def law12_TrailMarks_L1 (p1:List Int) (n:Nat) (r7:(List GType)×(List GFeature)):Nat→Int→(List Gmark)→Nat→(List Gchange)→(List Gcell)→Nat→(List Int)→Nat→Option (Bool)
 | 0,_,_,_,_,_,_,_,_=>none
 | m1+1,z23,l24,t25,l26,l27,t28,l29,t30 =>
  cond (decide (z23<(p1.length:Int)))
   (bindO (idxO p1 z23) fun x51 =>
   cond (decide (x51<0))
    (bindO (trail_Heap_Mark_s1 n r7.1 r7.2 l27 l26 l24 t25) fun r54 =>
    cond (r54.1 != (l29.length:Int))
     (some false)
     (bindO (trail_Heap_Len_s1 n r7.1 r7.2 l27 l26 r54.2.1) fun r58 =>
     needO ((l29.length+1)*8≤140737488355328∧l29.length+1≤140737488355328) (
     bindO (ref07_Atom n 0) fun r62 =>
     bindO (trail_Heap_Load_s1 n r62 r7.1 r7.2 l27 t28 l26 r54.2.1) fun r64 =>
     (law12_TrailMarks_L1 p1 n r7 m1) (IntKind.i64.wrap (z23+1)) r54.2.1 r54.2.2 l26 r64.2.1 r64.2.2 (l29++[r58]) (t30+1))))
    (bindO (trail_Heap_Undo_s1 n x51 r7.1 r7.2 l27 l26 l24) fun r67 =>
    cond (!(r67.1 == (decide (x51<(l29.length:Int)))))
     (some false)
     (cond (decide (x51<(l29.length:Int)))
      (needO ((0:Int)≤(IntKind.i64.wrap (x51+1))∧(IntKind.i64.wrap (x51+1))≤((l29.length:Nat):Int)) (
      needO (((IntKind.i64.wrap (x51+1)).toNat)≤l29.length) (
      bindO (trail_Heap_Len_s1 n r7.1 r7.2 r67.2.1 r67.2.2.1 r67.2.2.2) fun r75 =>
      bindO (idxO (l29.take ((IntKind.i64.wrap (x51+1)).toNat)) x51) fun x78 =>
      cond (r75 != x78)
       (some false)
       (law12_TrailMarks_J2 z23 t25 t28 t30 (law12_TrailMarks_L1 p1 n r7 m1) r67 (l29.take ((IntKind.i64.wrap (x51+1)).toNat))))))
      (law12_TrailMarks_J2 z23 t25 t28 t30 (law12_TrailMarks_L1 p1 n r7 m1) r67 l29))))
   (law12_TrailMarks_K1 n r7 l24 t25 l26 l27 t28 l29 t30)
def law12_TrailMarks (n:Nat) (p1:List Int):Option (Bool) :=
 cond (decide ((p1.length:Int) > 60))
  (bindO (law12_exampleHolds n) fun r3 =>
  some r3)
  (bindO (law12_small n) fun r5 =>
  bindO (trail_New_s1 n r5) fun r7 =>
  law12_TrailMarks_L1 p1 n r7 n 0 ([]:List Gmark) 0 ([]:List Gchange) ([]:List Gcell) 0 ([]:List Int) 0)
theorem law12_TrailMarks_0 (n:Nat) (p1:List Int) (r:Bool) (hF:law12_TrailMarks n p1=some r):EvU Try.prog 3 [.isl false (List.map (cI .i64) p1)] ⟨[],0⟩ (fun u _=>u = .bool r∧Bel 0 u):=by
 unfold law12_TrailMarks at hF
 refine bg1 64 fn3 ?_
 refine go ?_
 refine cF hF (fun h2 hF=>?_) (fun h2 hF=>?_)
 obtain ⟨r3,h4,hF⟩:=bindO_some hF
 refine go ?_
 refine RS.cl rfl (pC (law12_exampleHolds_0 n r3 h4) _) fn4 ?_
 exact gx hF
 obtain ⟨r5,h6,hF⟩:=bindO_some hF
 obtain ⟨r7,h8,hF⟩:=bindO_some hF
 refine go ?_
 refine RS.cl rfl (pC (law12_small_0 n r5 h6) _) fn6 ?_
 refine RS.callx (R:=fun u σ'=>∃ t9:Nat→Nat,u = .ptr 1 0 0∧σ'=⟨[(1,.row [.iM cGType r7.1,.iM cGFeature r7.2,.nils,.nils,.nils] 52)],2⟩) (args:=[.agg (cGHierarchy r5)]) rfl (op_call rfl rfl fn5 hb5 rfl rfl) (EvU.st [] (trail_New_s1_0 n r5 r7 h8 )) rfl rfl ?_
 rintro _ _ ⟨t9,rfl,rfl⟩
 refine gr ?_
 refine gr ?_
 refine WPU.ghost (tm':=fr 64 [(3,.ptr 1 0 0),(4,.vl 2 0 0 (([]:List Int).length)),(14,.iM (cI .i64) p1),(15,.i6 (p1.length:Int)),(16,.i6 0)]) (σ':=⟨[(2,.vec (List.map (cI .i64) ([]:List Int)).flatten 3 1 0),(1,.row [.iM cGType r7.1,.iM cGFeature r7.2,.nils,.nils,.nils] 52)],3⟩) (Gh.trans (Gh.nilS 4 3 1 (by decide) NZ rfl rfl) (Gh.eqS ⟨rfl,rfl,rfl,rfl,rfl,trivial⟩ rfl)) NZ ?_
 refine WPU.ghost (tm':=fr 64 [(3,.ptr 1 0 0),(4,.vl 2 0 0 (([]:List Int).length)),(14,.iM (cI .i64) p1),(15,.i6 (p1.length:Int)),(16,.i6 0)]) (σ':=⟨[(3,.vec (List.map cGcell ([]:List Gcell)).flatten 66 3 0),(2,.vec (List.map (cI .i64) ([]:List Int)).flatten 3 1 0),(1,.row [.iM cGType r7.1,.iM cGFeature r7.2,.vl 3 0 0 (([]:List Gcell).length),.nils,.nils] 52)],4⟩) (Gh.trans (Gh.nilC 1 2 66 3 (by decide) NZ rfl rfl) (Gh.eqS ⟨rfl,rfl,rfl,rfl,rfl,trivial⟩ rfl)) NZ ?_
 refine WPU.ghost (tm':=fr 64 [(3,.ptr 1 0 0),(4,.vl 2 0 0 (([]:List Int).length)),(14,.iM (cI .i64) p1),(15,.i6 (p1.length:Int)),(16,.i6 0)]) (σ':=⟨[(4,.vec (List.map cGchange ([]:List Gchange)).flatten 97 4 0),(3,.vec (List.map cGcell ([]:List Gcell)).flatten 66 3 0),(2,.vec (List.map (cI .i64) ([]:List Int)).flatten 3 1 0),(1,.row [.iM cGType r7.1,.iM cGFeature r7.2,.vl 3 0 0 (([]:List Gcell).length),.vl 4 0 0 (([]:List Gchange).length),.nils] 52)],5⟩) (Gh.trans (Gh.nilC 1 3 97 4 (by decide) NZ rfl rfl) (Gh.eqS ⟨rfl,rfl,rfl,rfl,rfl,trivial⟩ rfl)) NZ ?_
 refine WPU.ghost (tm':=fr 64 [(3,.ptr 1 0 0),(4,.vl 2 0 0 (([]:List Int).length)),(14,.iM (cI .i64) p1),(15,.i6 (p1.length:Int)),(16,.i6 0)]) (σ':=⟨[(5,.vec (List.map cGmark ([]:List Gmark)).flatten 64 2 0),(4,.vec (List.map cGchange ([]:List Gchange)).flatten 97 4 0),(3,.vec (List.map cGcell ([]:List Gcell)).flatten 66 3 0),(2,.vec (List.map (cI .i64) ([]:List Int)).flatten 3 1 0),(1,.row [.iM cGType r7.1,.iM cGFeature r7.2,.vl 3 0 0 (([]:List Gcell).length),.vl 4 0 0 (([]:List Gchange).length),.vl 5 0 0 (([]:List Gmark).length)] 52)],6⟩) (Gh.trans (Gh.nilC 1 4 64 2 (by decide) NZ rfl rfl) (Gh.eqS ⟨rfl,rfl,rfl,rfl,rfl,trivial⟩ rfl)) NZ ?_
 refine gS (l':=[(3,_),(4,_),(14,_),(15,_),(16,_)]) ?_
 refine WPU.loopK (fun m tm σ=>∃ z23:Int,∃ l24:List Gmark,∃ t25:Nat,∃ l26:List Gchange,∃ l27:List Gcell,∃ t28:Nat,∃ l29:List Int,∃ t30:Nat,law12_TrailMarks_L1 p1 n r7 m z23 l24 t25 l26 l27 t28 l29 t30=some r∧tm=fr 64 [(3,.ptr 1 0 0),(4,.vl 2 t30 0 l29.length),(14,.iM (cI .i64) p1),(15,.i6 (p1.length:Int)),(16,.i6 z23)]∧σ=⟨[(5,.vec (List.map cGmark l24).flatten 64 2 t25),(4,.vec (List.map cGchange l26).flatten 97 4 0),(3,.vec (List.map cGcell l27).flatten 66 3 t28),(2,.vec (List.map (cI .i64) l29).flatten 3 1 t30),(1,.row [.iM cGType r7.1,.iM cGFeature r7.2,.vl 3 t28 0 l27.length,.vl 4 0 0 l26.length,.vl 5 t25 0 l24.length] 52)],6⟩) (fun tm σ=>∃ l31:List Gmark,∃ t32:Nat,∃ l33:List Gchange,∃ l34:List Gcell,∃ t35:Nat,∃ l36:List Int,∃ t37:Nat,law12_TrailMarks_K1 n r7 l31 t32 l33 l34 t35 l36 t37=some r∧tm=fr 64 [(3,.ptr 1 0 0)]∧σ=⟨[(5,.vec (List.map cGmark l31).flatten 64 2 t32),(4,.vec (List.map cGchange l33).flatten 97 4 0),(3,.vec (List.map cGcell l34).flatten 66 3 t35),(2,.vec (List.map (cI .i64) l36).flatten 3 1 t37),(1,.row [.iM cGType r7.1,.iM cGFeature r7.2,.vl 3 t35 0 l34.length,.vl 4 0 0 l33.length,.vl 5 t32 0 l31.length] 52)],6⟩) n ⟨0,([]:List Gmark),0,([]:List Gchange),([]:List Gcell),0,([]:List Int),0,hF,rfl,rfl⟩ ?_ ?_
 rintro _ _ ⟨l31,t32,l33,l34,t35,l36,t37,hF,rfl,rfl⟩
 unfold law12_TrailMarks_K1 at hF
 obtain ⟨j49,h48,hF⟩:=bindO_some hF
 refine gn ?_
 refine WPU.joinK (fun tm σ=>tm=fr 64 [(2,.bool j49.1)]∧σ=⟨[(5,.vec (List.map cGmark j49.2.1).flatten 64 2 t32),(4,.vec (List.map cGchange j49.2.2.1).flatten 97 4 0),(3,.vec (List.map cGcell j49.2.2.2).flatten 66 3 t35),(2,.vec (List.map (cI .i64) l36).flatten 3 1 t37),(1,.row [.iM cGType r7.1,.iM cGFeature r7.2,.vl 3 t35 0 j49.2.2.2.length,.vl 4 0 0 j49.2.2.1.length,.vl 5 t32 0 j49.2.1.length] 52)],6⟩) ?_ ?_
 rintro _ _ ⟨rfl,rfl⟩
 exact gx hF
 obtain ⟨r38,h39,h48⟩:=bindO_some h48
 rcases gB h48 with ⟨h41,h48⟩ | ⟨h41,h48⟩
 obtain ⟨r42,h43,h48⟩:=bindO_some h48
 obtain rfl:=sI h48
 refine go ?_
 refine RS.callx (R:=fun u σ'=>∃ t40:Nat→Nat,u = .bool r38.1∧σ'=⟨[(5,.vec (List.map cGmark r38.2.2.2).flatten 64 2 t32),(4,.vec (List.map cGchange r38.2.2.1).flatten 97 4 0),(3,.vec (List.map cGcell r38.2.1).flatten 66 3 t35),(2,.vec (List.map (cI .i64) l36).flatten 3 1 t37),(1,.row [.iM cGType r7.1,.iM cGFeature r7.2,.vl 3 t35 0 r38.2.1.length,.vl 4 0 0 r38.2.2.1.length,.vl 5 t32 0 r38.2.2.2.length] 52)],6⟩) (args:=[.ptr 1 0 0,.i6 (-1)]) rfl (op_call rfl rfl fn11 hb11 rfl rfl) (EvU.st [1,3,4,5] (trail_Heap_Undo_s1_0 n (-1) r7.1 r7.2 l34 l33 l31 r38 h39 t35 0 t32)) rfl rfl ?_
 rintro _ _ ⟨t40,rfl,rfl⟩
 refine go ?_
 refine RS.cl rfl (pC (law12_exampleHolds_0 n r42 h43) _) fn4 ?_
 refine go ?_
 exact xC ⟨rfl,rfl⟩
 obtain rfl:=sI h48
 refine go ?_
 refine RS.callx (R:=fun u σ'=>∃ t40:Nat→Nat,u = .bool r38.1∧σ'=⟨[(5,.vec (List.map cGmark r38.2.2.2).flatten 64 2 t32),(4,.vec (List.map cGchange r38.2.2.1).flatten 97 4 0),(3,.vec (List.map cGcell r38.2.1).flatten 66 3 t35),(2,.vec (List.map (cI .i64) l36).flatten 3 1 t37),(1,.row [.iM cGType r7.1,.iM cGFeature r7.2,.vl 3 t35 0 r38.2.1.length,.vl 4 0 0 r38.2.2.1.length,.vl 5 t32 0 r38.2.2.2.length] 52)],6⟩) (args:=[.ptr 1 0 0,.i6 (-1)]) rfl (op_call rfl rfl fn11 hb11 rfl rfl) (EvU.st [1,3,4,5] (trail_Heap_Undo_s1_0 n (-1) r7.1 r7.2 l34 l33 l31 r38 h39 t35 0 t32)) rfl rfl ?_
 rintro _ _ ⟨t40,rfl,rfl⟩
 refine go ?_
 exact xC ⟨rfl,rfl⟩
 rintro (_|m1) _ _ ⟨z23,l24,t25,l26,l27,t28,l29,t30,hF,rfl,rfl⟩
 cases hF
 unfold law12_TrailMarks_L1 at hF
 refine go ?_
 refine cF hF (fun h50 hF=>?_) (fun h50 hF=>?_)
 refine go ?_
 refine WPU.block ?_
 obtain ⟨x51,h52,hF⟩:=bindO_some hF
 refine go ?_
 refine RS.ix h52 ?_
 refine go ?_
 refine cF hF (fun h53 hF=>?_) (fun h53 hF=>?_)
 obtain ⟨r54,h55,hF⟩:=bindO_some hF
 refine go ?_
 refine RS.callx (R:=fun u σ'=>∃ t56:Nat→Nat,u = .i6 r54.1∧σ'=⟨[(5,.vec (List.map cGmark r54.2.1).flatten 64 2 r54.2.2),(4,.vec (List.map cGchange l26).flatten 97 4 0),(3,.vec (List.map cGcell l27).flatten 66 3 t28),(2,.vec (List.map (cI .i64) l29).flatten 3 1 t30),(1,.row [.iM cGType r7.1,.iM cGFeature r7.2,.vl 3 t28 0 l27.length,.vl 4 0 0 l26.length,.vl 5 r54.2.2 0 r54.2.1.length] 52)],6⟩) (args:=[.ptr 1 0 0]) rfl (op_call rfl rfl fn7 hb7 rfl rfl) (EvU.st [1,3,4,5] (trail_Heap_Mark_s1_0 n r7.1 r7.2 l27 l26 l24 t25 r54 h55 t28 0)) rfl rfl ?_
 rintro _ _ ⟨t56,rfl,rfl⟩
 refine go ?_
 refine cF hF (fun h57 hF=>?_) (fun h57 hF=>?_)
 exact gx hF
 obtain ⟨r58,h59,hF⟩:=bindO_some hF
 obtain ⟨h61,hF⟩:=needO_some hF
 refine go ?_
 refine RS.callx (R:=fun u σ'=>∃ t60:Nat→Nat,u = .i6 r58∧σ'=⟨[(5,.vec (List.map cGmark r54.2.1).flatten 64 2 r54.2.2),(4,.vec (List.map cGchange l26).flatten 97 4 0),(3,.vec (List.map cGcell l27).flatten 66 3 t28),(2,.vec (List.map (cI .i64) l29).flatten 3 1 t30),(1,.row [.iM cGType r7.1,.iM cGFeature r7.2,.vl 3 t28 0 l27.length,.vl 4 0 0 l26.length,.vl 5 r54.2.2 0 r54.2.1.length] 52)],6⟩) (args:=[.ptr 1 0 0]) rfl (op_call rfl rfl fn8 hb8 rfl rfl) (EvU.st [1,3,4,5] (trail_Heap_Len_s1_0 n r7.1 r7.2 l27 l26 r54.2.1 r58 h59 t28 0 r54.2.2)) rfl rfl ?_
 rintro _ _ ⟨t60,rfl,rfl⟩
 refine RS.g ?_
 refine RS.g ?_
 obtain ⟨r62,h63,hF⟩:=bindO_some hF
 obtain ⟨r64,h65,hF⟩:=bindO_some hF
 refine go ?_
 refine RS.cl rfl (pC (ref07_Atom_0 n 0 r62 h63) _) fn10 ?_
 refine RS.callx (R:=fun u σ'=>∃ t66:Nat→Nat,u = .i6 r64.1∧σ'=⟨[(6,.row [.i6 r58] 3),(5,.vec (List.map cGmark r54.2.1).flatten 64 2 r54.2.2),(4,.vec (List.map cGchange l26).flatten 97 4 0),(3,.vec (List.map cGcell r64.2.1).flatten 66 3 r64.2.2),(2,.vec (List.map (cI .i64) (l29++[r58])).flatten 3 1 (t30+1)),(1,.row [.iM cGType r7.1,.iM cGFeature r7.2,.vl 3 r64.2.2 0 r64.2.1.length,.vl 4 0 0 l26.length,.vl 5 r54.2.2 0 r54.2.1.length] 52)],7⟩) (args:=[.ptr 1 0 0,.agg [.iM cGNode r62.Nodes]]) rfl (op_call rfl rfl fn9 hb9 rfl rfl) (EvU.st [1,3,4,5] (trail_Heap_Load_s1_0 n r62 r7.1 r7.2 l27 t28 l26 r54.2.1 r64 h65 0 r54.2.2)) rfl rfl ?_
 rintro _ _ ⟨t66,rfl,rfl⟩
 refine go ?_
 exact lC ⟨_,r54.2.1,r54.2.2,l26,r64.2.1,r64.2.2,(l29++[r58]),(t30+1),hF,rfl,rfl⟩
 obtain ⟨r67,h68,hF⟩:=bindO_some hF
 refine go ?_
 refine RS.callx (R:=fun u σ'=>∃ t69:Nat→Nat,u = .bool r67.1∧σ'=⟨[(5,.vec (List.map cGmark r67.2.2.2).flatten 64 2 t25),(4,.vec (List.map cGchange r67.2.2.1).flatten 97 4 0),(3,.vec (List.map cGcell r67.2.1).flatten 66 3 t28),(2,.vec (List.map (cI .i64) l29).flatten 3 1 t30),(1,.row [.iM cGType r7.1,.iM cGFeature r7.2,.vl 3 t28 0 r67.2.1.length,.vl 4 0 0 r67.2.2.1.length,.vl 5 t25 0 r67.2.2.2.length] 52)],6⟩) (args:=[.ptr 1 0 0,.i6 x51]) rfl (op_call rfl rfl fn11 hb11 rfl rfl) (EvU.st [1,3,4,5] (trail_Heap_Undo_s1_0 n x51 r7.1 r7.2 l27 l26 l24 r67 h68 t28 0 t25)) rfl rfl ?_
 rintro _ _ ⟨t69,rfl,rfl⟩
 refine go ?_
 refine RS.q (u:=.bool (!(r67.1 == (decide (x51<(l29.length:Int)))))) rfl (op_bin rfl rfl (by simp only [g2,toV,binX,guardX,eqv,cond_true,ofV,un4.h])) ?_
 refine go ?_
 refine cF hF (fun h70 hF=>?_) (fun h70 hF=>?_)
 exact gx hF
 refine gr ?_
 refine WPU.joinK (fun tm σ=>∃ l72:List Int,law12_TrailMarks_J2 z23 t25 t28 t30 (law12_TrailMarks_L1 p1 n r7 m1) r67 l72=some r∧tm=fr 64 [(3,.ptr 1 0 0),(4,.vl 2 t30 0 l72.length),(14,.iM (cI .i64) p1),(15,.i6 (p1.length:Int)),(16,.i6 z23)]∧σ=⟨[(5,.vec (List.map cGmark r67.2.2.2).flatten 64 2 t25),(4,.vec (List.map cGchange r67.2.2.1).flatten 97 4 0),(3,.vec (List.map cGcell r67.2.1).flatten 66 3 t28),(2,.vec (List.map (cI .i64) l72).flatten 3 1 t30),(1,.row [.iM cGType r7.1,.iM cGFeature r7.2,.vl 3 t28 0 r67.2.1.length,.vl 4 0 0 r67.2.2.1.length,.vl 5 t25 0 r67.2.2.2.length] 52)],6⟩) ?_ ?_
 rintro _ _ ⟨l72,hF,rfl,rfl⟩
 unfold law12_TrailMarks_J2 at hF
 refine go ?_
 exact lC ⟨_,r67.2.2.2,t25,r67.2.2.1,r67.2.1,t28,l72,t30,hF,rfl,rfl⟩
 refine cF hF (fun h71 hF=>?_) (fun h71 hF=>?_)
 obtain ⟨h73,hF⟩:=needO_some hF
 obtain ⟨h74,hF⟩:=needO_some hF
 refine gn ?_
 refine WPU.joinK (fun tm σ=>tm=fr 64 [(3,.ptr 1 0 0),(4,.vl 2 t30 0 ((l29.take ((IntKind.i64.wrap (x51+1)).toNat)).length)),(6,.i6 x51),(14,.iM (cI .i64) p1),(15,.i6 (p1.length:Int)),(16,.i6 z23)]∧σ=⟨[(5,.vec (List.map cGmark r67.2.2.2).flatten 64 2 t25),(4,.vec (List.map cGchange r67.2.2.1).flatten 97 4 0),(3,.vec (List.map cGcell r67.2.1).flatten 66 3 t28),(2,.vec (List.map (cI .i64) (l29.take ((IntKind.i64.wrap (x51+1)).toNat))).flatten 3 1 t30),(1,.row [.iM cGType r7.1,.iM cGFeature r7.2,.vl 3 t28 0 r67.2.1.length,.vl 4 0 0 r67.2.2.1.length,.vl 5 t25 0 r67.2.2.2.length] 52)],6⟩) ?_ ?_
 rintro _ _ ⟨rfl,rfl⟩
 obtain ⟨r75,h76,hF⟩:=bindO_some hF
 obtain ⟨x78,h79,hF⟩:=bindO_some hF
 refine go ?_
 refine WPU.drawE Try.tb_ok [(2,1),(3,1),(4,1),(5,1)] (by kernel_rfl) ?_
 refine gd ?_
 refine RD.callm (u:=.i6 r75) (σ1:=⟨[(5,.vec (List.map cGmark r67.2.2.2).flatten 64 2 t25),(4,.vec (List.map cGchange r67.2.2.1).flatten 97 4 0),(3,.vec (List.map cGcell r67.2.1).flatten 66 3 t28),(2,.vec (List.map (cI .i64) (l29.take ((IntKind.i64.wrap (x51+1)).toNat))).flatten 3 1 t30),(1,.row [.iM cGType r7.1,.iM cGFeature r7.2,.vl 3 t28 0 r67.2.1.length,.vl 4 0 0 r67.2.2.1.length,.vl 5 t25 0 r67.2.2.2.length] 52)],6⟩) (args:=[.ptr 1 0 0]) rfl (op_call rfl rfl fn8 hb8 rfl rfl) ((EvU.st [1,3,4,5] (trail_Heap_Len_s1_0 n r7.1 r7.2 r67.2.1 r67.2.2.1 r67.2.2.2 r75 h76 t28 0 t25)).mono fun _ _ ⟨_,h⟩=>h) rfl rfl ?_
 refine gd ?_
 refine RD.q rfl (op_ia rfl rfl (ia_vl (cI .i64) un22.h (sz_of if3.h) (by decide) (len_cI .i64) (vo rfl) h79)) ?_
 refine RD.q rfl (ld_vec1 (cI .i64) (fun x=>.i6 x) un3.h rfl (fun _=>rfl) rfl rfl h79) ?_
 refine gd ?_
 refine RD.done ⟨by kernel_rfl,⟨op_move rfl,⟨op_move rfl,⟨op_ia rfl rfl (ia_vl (cI .i64) un22.h (sz_of if3.h) (by decide) (len_cI .i64) (vo rfl) h79),⟨ld_vec1 (cI .i64) (fun x=>.i6 x) un3.h rfl (fun _=>rfl) rfl rfl h79,trivial⟩⟩⟩⟩,?_⟩
 refine go ?_
 refine cF hF (fun h80 hF=>?_) (fun h80 hF=>?_)
 exact gx hF
 refine go ?_
 exact xC ⟨(l29.take ((IntKind.i64.wrap (x51+1)).toNat)),hF,rfl,rfl⟩
 refine go ?_
 refine RS.q (u:=.vl 2 t30 0 ((IntKind.i64.wrap (x51+1)).toNat)) rfl (op_slice rfl em_n (em_s rfl) em_n (sl_vp (cI .i64) un22.h (sz_of if3.h) (len_cI .i64) (vo rfl) (Nat.le_of_eq (Nat.zero_add _)) (bnd_hi h73.1 h73.2))) ?_
 refine go ?_
 exact ⟨_,_,⟨rfl,rfl⟩,NZ,Gh.truncE (K:=2) (cI .i64) (len_cI .i64) rfl ((IntKind.i64.wrap (x51+1)).toNat) ⟨rfl,(by rw [List.length_take_of_le h74]<;>rfl),rfl,rfl,rfl,rfl,trivial⟩ (by first | (rw [List.length_take_of_le h74]<;>rfl) | rfl)⟩
 refine go ?_
 exact xC ⟨l29,hF,rfl,rfl⟩
 refine go ?_
 exact xC ⟨l24,t25,l26,l27,t28,l29,t30,hF,rfl,rfl⟩
end Go.Proofs
end
