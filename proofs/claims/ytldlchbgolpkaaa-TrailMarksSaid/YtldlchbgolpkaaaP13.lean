/-
  Texts of the walk: M3.
-/
import Derived.Test.YtldlchbgolpkaaaP12
set_option linter.unusedSimpArgs false
set_option linter.unusedVariables false
section
namespace Go.Proofs
open Go Go.Rx Go.Vx Try
instance:TbP Try.prog Try.tb:=⟨Try.tb_ok⟩
set_option maxRecDepth 20000
set_option maxHeartbeats 4000000
set_option synthInstance.maxSize 4000
set_option synthInstance.maxHeartbeats 200000
structure GApprop where
 Feat:Int
 Value:Int
def cGApprop (x:GApprop):List U:=[.int .i64 x.Feat,.int .i64 x.Value]
instance {a0:Int} {a1:Int}:DeC cGApprop [.int .i64 a0,.int .i64 a1] (GApprop.mk a0 a1):=⟨rfl⟩
theorem bel_cGApprop (n:Nat) (x:GApprop):BelL n (cGApprop x):=by
 simp only [cGApprop,BelL,Bel,true_and,and_true]
theorem len_cGApprop (x:GApprop):(cGApprop x).length=2:=rfl
instance:LenC cGApprop 2:=⟨len_cGApprop⟩
instance:BF cGApprop:=⟨bel_cGApprop⟩
structure GType where
 Name:List UInt8
 Code:List Int
 Supers:List Int
 Feats:List GApprop
def cGType (x:GType):List U:=[.str x.Name,.isl false (List.map (cI .u64) x.Code),.isl false (List.map (cI .i64) x.Supers),.isl false (List.map cGApprop x.Feats)]
instance {a0:List UInt8} {a1:List Int} {a2:List Int} {a3:List GApprop}:DeC cGType [.str a0,.isl false (List.map (cI .u64) a1),.isl false (List.map (cI .i64) a2),.isl false (List.map cGApprop a3)] (GType.mk a0 a1 a2 a3):=⟨rfl⟩
theorem bel_cGType (n:Nat) (x:GType):BelL n (cGType x):=by
 simp only [cGType,BelL,Bel,true_and,and_true]
 exact ⟨belR_map _ (fun q=>bel_cI _ .u64 q) _,belR_map _ (fun q=>bel_cI _ .i64 q) _,belR_map _ (fun q=>bel_cGApprop _ q) _⟩
theorem len_cGType (x:GType):(cGType x).length=4:=rfl
instance:LenC cGType 4:=⟨len_cGType⟩
instance:BF cGType:=⟨bel_cGType⟩
instance (n:Nat) (x:GType):BUL n (cGType x):=⟨bel_cGType n x⟩
structure GFeature where
 Name:List UInt8
 Intro:Int
def cGFeature (x:GFeature):List U:=[.str x.Name,.int .i64 x.Intro]
instance {a0:List UInt8} {a1:Int}:DeC cGFeature [.str a0,.int .i64 a1] (GFeature.mk a0 a1):=⟨rfl⟩
theorem bel_cGFeature (n:Nat) (x:GFeature):BelL n (cGFeature x):=by
 simp only [cGFeature,BelL,Bel,true_and,and_true]
theorem len_cGFeature (x:GFeature):(cGFeature x).length=2:=rfl
instance:LenC cGFeature 2:=⟨len_cGFeature⟩
instance:BF cGFeature:=⟨bel_cGFeature⟩
structure GHierarchy where
 Types:List GType
 Feats:List GFeature
def cGHierarchy (x:GHierarchy):List U:=[.isl false (List.map cGType x.Types),.isl false (List.map cGFeature x.Feats)]
theorem bel_cGHierarchy (n:Nat) (x:GHierarchy):BelL n (cGHierarchy x):=by
 simp only [cGHierarchy,BelL,Bel,true_and,and_true]
 exact ⟨belR_map _ (fun q=>bel_cGType _ q) _,belR_map _ (fun q=>bel_cGFeature _ q) _⟩
theorem len_cGHierarchy (x:GHierarchy):(cGHierarchy x).length=2:=rfl
instance:LenC cGHierarchy 2:=⟨len_cGHierarchy⟩
instance (n:Nat) (x:GHierarchy):BUL n (cGHierarchy x):=⟨bel_cGHierarchy n x⟩
structure GFeatDecl where
 Feat:List UInt8
 Value:List UInt8
def cGFeatDecl (x:GFeatDecl):List U:=[.str x.Feat,.str x.Value]
theorem bel_cGFeatDecl (n:Nat) (x:GFeatDecl):BelL n (cGFeatDecl x):=by
 simp only [cGFeatDecl,BelL,Bel,true_and,and_true]
theorem len_cGFeatDecl (x:GFeatDecl):(cGFeatDecl x).length=2:=rfl
instance:LenC cGFeatDecl 2:=⟨len_cGFeatDecl⟩
instance:BF cGFeatDecl:=⟨bel_cGFeatDecl⟩
structure GTypeDecl where
 Name:List UInt8
 Supers:List (List UInt8)
 Feats:List GFeatDecl
def cGTypeDecl (x:GTypeDecl):List U:=[.str x.Name,.isl false (List.map cS x.Supers),.isl false (List.map cGFeatDecl x.Feats)]
theorem bel_cGTypeDecl (n:Nat) (x:GTypeDecl):BelL n (cGTypeDecl x):=by
 simp only [cGTypeDecl,BelL,Bel,true_and,and_true]
 exact ⟨belR_map _ (fun q=>bel_cS _ q) _,belR_map _ (fun q=>bel_cGFeatDecl _ q) _⟩
theorem len_cGTypeDecl (x:GTypeDecl):(cGTypeDecl x).length=3:=rfl
instance:LenC cGTypeDecl 3:=⟨len_cGTypeDecl⟩
instance:BF cGTypeDecl:=⟨bel_cGTypeDecl⟩
instance (n:Nat) (x:GTypeDecl):BUL n (cGTypeDecl x):=⟨bel_cGTypeDecl n x⟩
structure GCoded where
 Name:List UInt8
 Code:List Int
def cGCoded (x:GCoded):List U:=[.str x.Name,.isl false (List.map (cI .u64) x.Code)]
instance {a0:List UInt8} {a1:List Int}:DeC cGCoded [.str a0,.isl false (List.map (cI .u64) a1)] (GCoded.mk a0 a1):=⟨rfl⟩
theorem bel_cGCoded (n:Nat) (x:GCoded):BelL n (cGCoded x):=by
 simp only [cGCoded,BelL,Bel,true_and,and_true]
 exact belR_map _ (fun q=>bel_cI _ .u64 q) _
theorem len_cGCoded (x:GCoded):(cGCoded x).length=2:=rfl
instance:LenC cGCoded 2:=⟨len_cGCoded⟩
instance:BF cGCoded:=⟨bel_cGCoded⟩
instance (n:Nat) (x:GCoded):BUL n (cGCoded x):=⟨bel_cGCoded n x⟩
structure GArc where
 Feat:Int
 To:Int
def cGArc (x:GArc):List U:=[.int .i64 x.Feat,.int .i64 x.To]
instance {a0:Int} {a1:Int}:DeC cGArc [.int .i64 a0,.int .i64 a1] (GArc.mk a0 a1):=⟨rfl⟩
theorem bel_cGArc (n:Nat) (x:GArc):BelL n (cGArc x):=by
 simp only [cGArc,BelL,Bel,true_and,and_true]
theorem len_cGArc (x:GArc):(cGArc x).length=2:=rfl
instance:LenC cGArc 2:=⟨len_cGArc⟩
instance:BF cGArc:=⟨bel_cGArc⟩
instance (n:Nat) (x:GArc):BUL n (cGArc x):=⟨bel_cGArc n x⟩
structure GNode where
 Typex:Int
 Arcs:List GArc
def cGNode (x:GNode):List U:=[.int .i64 x.Typex,.isl false (List.map cGArc x.Arcs)]
instance {a0:Int}:DeC cGNode [.int .i64 a0,.isl false []] (GNode.mk a0 []):=⟨rfl⟩
theorem bel_cGNode (n:Nat) (x:GNode):BelL n (cGNode x):=by
 simp only [cGNode,BelL,Bel,true_and,and_true]
 exact belR_map _ (fun q=>bel_cGArc _ q) _
theorem len_cGNode (x:GNode):(cGNode x).length=2:=rfl
instance:LenC cGNode 2:=⟨len_cGNode⟩
instance:BF cGNode:=⟨bel_cGNode⟩
instance (n:Nat) (x:GNode):BUL n (cGNode x):=⟨bel_cGNode n x⟩
structure GFS where
 Nodes:List GNode
instance Try.bd29:BdC Try.tb 29 [.nils,.nils] [(0,1),(1,1)]:=⟨bdT un29.h if29.h rfl (by kernel_rfl)⟩
instance Try.bd35:BdC Try.tb 35 [.nils] [(0,1)]:=⟨bdT un35.h if35.h rfl (by kernel_rfl)⟩
instance Try.bd42:BdC Try.tb 42 [.int .i64 0,.nils] [(0,1),(1,1)]:=⟨bdT un42.h if42.h rfl (by kernel_rfl)⟩
instance Try.bd57:BdC Try.tb 57 [.str [],.str []] [(0,1),(1,1)]:=⟨bdT un57.h if57.h rfl (by kernel_rfl)⟩
instance Try.bd61:BdC Try.tb 61 [.str [],.nils,.nils] [(0,1),(1,1),(2,1)]:=⟨bdT un61.h if61.h rfl (by kernel_rfl)⟩
instance Try.bd68:BdC Try.tb 68 [.int .i64 0,.int .i64 0] [(0,1),(1,1)]:=⟨bdT un68.h if68.h rfl (by kernel_rfl)⟩
instance Try.bd89:BdC Try.tb 89 [.str [],.nils] [(0,1),(1,1)]:=⟨bdT un89.h if89.h rfl (by kernel_rfl)⟩
instance Try.bd93:BdC Try.tb 93 [.str [],.nils,.nils,.nils] [(0,1),(1,1),(2,1),(3,1)]:=⟨bdT un93.h if93.h rfl (by kernel_rfl)⟩
instance Try.bd113:BdC Try.tb 113 [.int .i64 0,.int .i64 0] [(0,1),(1,1)]:=⟨bdT un113.h if113.h rfl (by kernel_rfl)⟩
instance Try.bd124:BdC Try.tb 124 [.str [],.int .i64 0] [(0,1),(1,1)]:=⟨bdT un124.h if124.h rfl (by kernel_rfl)⟩
def ref03_sizes_K1   : Option (Int) :=
 some 0
def ref03_sizes_L1 (p1:List GTypeDecl):Nat→Int→Option (Int)
 | 0,_=>none
 | m1+1,z5 =>
  cond (decide (z5<(p1.length:Int)))
   (bindO (bindO (idxO p1 z5) fun x7 =>
   cond (decide ((x7.Supers.length:Int) > 256))
    (some true)
    (bindO (idxO p1 z5) fun x10 =>
    some (decide ((x10.Feats.length:Int) > 256)))) fun b12 =>
   cond b12
    (some 7)
    ((ref03_sizes_L1 p1 m1) (IntKind.i64.wrap (z5+1))))
   (ref03_sizes_K1)
def ref03_sizes (n:Nat) (p1:List GTypeDecl):Option (Int) :=
 cond (decide ((p1.length:Int) > 256))
  (some 7)
  (ref03_sizes_L1 p1 n 0)
theorem ref03_sizes_0 (n:Nat) (p1:List GTypeDecl) (r:Int) (hF:ref03_sizes n p1=some r):EvU Try.prog 62 [.isl false (List.map cGTypeDecl p1)] ⟨[],0⟩ (fun u _=>u = .int .i64 r∧Bel 0 u):=by
 unfold ref03_sizes at hF
 refine bg1 29 fn62 ?_
 refine go ?_
 refine cF hF (fun h2 hF=>?_) (fun h2 hF=>?_)
 exact gx hF
 refine go ?_
 refine gS (l':=[(0,_),(3,_)]) ?_
 refine WPU.loopK (fun m tm σ=>∃ z5:Int,ref03_sizes_L1 p1 m z5=some r∧tm=fr 29 [(0,.iM cGTypeDecl p1),(3,.i6 z5)]∧σ=⟨[],0⟩) (fun tm σ=>ref03_sizes_K1=some r∧tm=fr 29 []∧σ=⟨[],0⟩) n ⟨0,hF,rfl,rfl⟩ ?_ ?_
 rintro _ _ ⟨hF,rfl,rfl⟩
 unfold ref03_sizes_K1 at hF
 exact gx hF
 rintro (_|m1) _ _ ⟨z5,hF,rfl,rfl⟩
 cases hF
 unfold ref03_sizes_L1 at hF
 refine go ?_
 refine cF hF (fun h6 hF=>?_) (fun h6 hF=>?_)
 refine go ?_
 refine WPU.block ?_
 obtain ⟨b12,h13,hF⟩:=bindO_some hF
 refine gn ?_
 refine WPU.joinK (fun tm σ=>tm=fr 29 [(0,.iM cGTypeDecl p1),(3,.i6 z5),(28,.bool b12)]∧σ=⟨[],0⟩) ?_ ?_
 rintro _ _ ⟨rfl,rfl⟩
 refine go ?_
 refine cF hF (fun h14 hF=>?_) (fun h14 hF=>?_)
 exact gx hF
 refine go ?_
 exact lC ⟨_,hF,rfl,rfl⟩
 obtain ⟨x7,h8,h13⟩:=bindO_some h13
 rcases gB h13 with ⟨h9,h13⟩ | ⟨h9,h13⟩
 obtain rfl:=sI h13
 refine go ?_
 refine RS.ix h8 ?_
 refine go ?_
 exact xC ⟨rfl,rfl⟩
 obtain ⟨x10,h11,h13⟩:=bindO_some h13
 obtain rfl:=sI h13
 refine go ?_
 refine RS.ix h8 ?_
 refine go ?_
 refine RS.ix h11 ?_
 refine go ?_
 exact xC ⟨rfl,rfl⟩
 refine go ?_
 exact xC ⟨hF,rfl,rfl⟩
def ref01_digit (n:Nat) (p1:Int):Option (Bool) :=
 bindO (cond (decide (p1 ≥ 48))
  (some (decide (p1≤57)))
  (some false)) fun b3 =>
 some b3
theorem ref01_digit_0 (n:Nat) (p1:Int) (r:Bool) (hF:ref01_digit n p1=some r):EvU Try.prog 88 [.int .u8 p1] ⟨[],0⟩ (fun u _=>u = .bool r∧Bel 0 u):=by
 unfold ref01_digit at hF
 refine bg1 9 fn88 ?_
 obtain ⟨b3,h4,hF⟩:=bindO_some hF
 refine gr ?_
 refine WPU.joinK (fun tm σ=>tm=fr 9 [(2,.bool b3)]∧σ=⟨[],0⟩) ?_ ?_
 rintro _ _ ⟨rfl,rfl⟩
 exact gx hF
 rcases gB h4 with ⟨h2,h4⟩ | ⟨h2,h4⟩
 exact gy h4
 exact gy h4
def ref01_upper (n:Nat) (p1:Int):Option (Bool) :=
 bindO (cond (decide (p1 ≥ 65))
  (some (decide (p1≤90)))
  (some false)) fun b3 =>
 some b3
theorem ref01_upper_0 (n:Nat) (p1:Int) (r:Bool) (hF:ref01_upper n p1=some r):EvU Try.prog 90 [.int .u8 p1] ⟨[],0⟩ (fun u _=>u = .bool r∧Bel 0 u):=by
 unfold ref01_upper at hF
 refine bg1 9 fn90 ?_
 obtain ⟨b3,h4,hF⟩:=bindO_some hF
 refine gr ?_
 refine WPU.joinK (fun tm σ=>tm=fr 9 [(2,.bool b3)]∧σ=⟨[],0⟩) ?_ ?_
 rintro _ _ ⟨rfl,rfl⟩
 exact gx hF
 rcases gB h4 with ⟨h2,h4⟩ | ⟨h2,h4⟩
 exact gy h4
 exact gy h4
def ref01_lower (n:Nat) (p1:Int):Option (Bool) :=
 bindO (cond (decide (p1 ≥ 97))
  (some (decide (p1≤122)))
  (some false)) fun b3 =>
 some b3
theorem ref01_lower_0 (n:Nat) (p1:Int) (r:Bool) (hF:ref01_lower n p1=some r):EvU Try.prog 91 [.int .u8 p1] ⟨[],0⟩ (fun u _=>u = .bool r∧Bel 0 u):=by
 unfold ref01_lower at hF
 refine bg1 9 fn91 ?_
 obtain ⟨b3,h4,hF⟩:=bindO_some hF
 refine gr ?_
 refine WPU.joinK (fun tm σ=>tm=fr 9 [(2,.bool b3)]∧σ=⟨[],0⟩) ?_ ?_
 rintro _ _ ⟨rfl,rfl⟩
 exact gx hF
 rcases gB h4 with ⟨h2,h4⟩ | ⟨h2,h4⟩
 exact gy h4
 exact gy h4
def ref01_part (n:Nat) (p1:Int) (p2:Bool):Option (Bool) :=
 bindO (bindO (ref01_digit n p1) fun r3 =>
 cond r3
  (some true)
  (cond (p1 == 45)
   (some true)
   (cond p2
    (bindO (ref01_upper n p1) fun r8 =>
    cond r8
     (some true)
     (cond (!p2)
      (bindO (ref01_lower n p1) fun r12 =>
      some r12)
      (some false)))
    (cond (!p2)
     (bindO (ref01_lower n p1) fun r15 =>
     some r15)
     (some false))))) fun b17 =>
 some b17
theorem ref01_part_0 (n:Nat) (p1:Int) (p2:Bool) (r:Bool) (hF:ref01_part n p1 p2=some r):EvU Try.prog 89 [.int .u8 p1,.bool p2] ⟨[],0⟩ (fun u _=>u = .bool r∧Bel 0 u):=by
 unfold ref01_part at hF
 refine bg2 26 fn89 ?_
 obtain ⟨b17,h18,hF⟩:=bindO_some hF
 refine gr ?_
 refine WPU.joinK (fun tm σ=>tm=fr 26 [(4,.bool b17)]∧σ=⟨[],0⟩) ?_ ?_
 rintro _ _ ⟨rfl,rfl⟩
 exact gx hF
 obtain ⟨r3,h4,h18⟩:=bindO_some h18
 rcases gB h18 with ⟨h5,h18⟩ | ⟨h5,h18⟩
 obtain rfl:=sI h18
 refine go ?_
 refine RS.cl rfl (pC (ref01_digit_0 n p1 r3 h4) _) fn88 ?_
 refine go ?_
 repeat refine RS.no (wantT rfl rfl rfl) rfl rfl ?_
 refine go ?_
 repeat refine RS.no (wantT rfl rfl rfl) rfl rfl ?_
 refine go ?_
 exact xC ⟨rfl,rfl⟩
 rcases gB h18 with ⟨h6,h18⟩ | ⟨h6,h18⟩
 obtain rfl:=sI h18
 refine go ?_
 refine RS.cl rfl (pC (ref01_digit_0 n p1 r3 h4) _) fn88 ?_
 refine go ?_
 repeat refine RS.no (wantT rfl rfl rfl) rfl rfl ?_
 refine go ?_
 repeat refine RS.no (wantT rfl rfl rfl) rfl rfl ?_
 refine go ?_
 exact xC ⟨rfl,rfl⟩
 rcases gB h18 with ⟨h7,h18⟩ | ⟨h7,h18⟩
 obtain ⟨r8,h9,h18⟩:=bindO_some h18
 rcases gB h18 with ⟨h10,h18⟩ | ⟨h10,h18⟩
 obtain rfl:=sI h18
 refine go ?_
 refine RS.cl rfl (pC (ref01_digit_0 n p1 r3 h4) _) fn88 ?_
 refine go ?_
 refine RS.cl rfl (pC (ref01_upper_0 n p1 r8 h9) _) fn90 ?_
 refine go ?_
 repeat refine RS.no (wantT rfl rfl rfl) rfl rfl ?_
 refine go ?_
 exact xC ⟨rfl,rfl⟩
 rcases gB h18 with ⟨h11,h18⟩ | ⟨h11,h18⟩
 obtain ⟨r12,h13,h18⟩:=bindO_some h18
 obtain rfl:=sI h18
 refine go ?_
 refine RS.cl rfl (pC (ref01_digit_0 n p1 r3 h4) _) fn88 ?_
 refine go ?_
 refine RS.cl rfl (pC (ref01_upper_0 n p1 r8 h9) _) fn90 ?_
 refine go ?_
 refine RS.cl rfl (pC (ref01_lower_0 n p1 r12 h13) _) fn91 ?_
 refine go ?_
 exact xC ⟨rfl,rfl⟩
 obtain rfl:=sI h18
 refine go ?_
 refine RS.cl rfl (pC (ref01_digit_0 n p1 r3 h4) _) fn88 ?_
 refine go ?_
 refine RS.cl rfl (pC (ref01_upper_0 n p1 r8 h9) _) fn90 ?_
 refine go ?_
 exact xC ⟨rfl,rfl⟩
 rcases gB h18 with ⟨h14,h18⟩ | ⟨h14,h18⟩
 obtain ⟨r15,h16,h18⟩:=bindO_some h18
 obtain rfl:=sI h18
 refine go ?_
 refine RS.cl rfl (pC (ref01_digit_0 n p1 r3 h4) _) fn88 ?_
 refine go ?_
 refine RS.cl rfl (pC (ref01_lower_0 n p1 r15 h16) _) fn91 ?_
 refine go ?_
 exact xC ⟨rfl,rfl⟩
 obtain rfl:=sI h18
 refine go ?_
 refine RS.cl rfl (pC (ref01_digit_0 n p1 r3 h4) _) fn88 ?_
 refine go ?_
 exact xC ⟨rfl,rfl⟩
def ref01_named_K1   : Option (Bool) :=
 some true
def ref01_named_L1 (p1:List UInt8) (p2:Bool) (n:Nat):Nat→Int→Option (Bool)
 | 0,_=>none
 | m1+1,z18 =>
  cond (decide (z18<(p1.length:Int)))
   (bindO (strAt p1 z18) fun x20 =>
   bindO (ref01_part n x20 p2) fun r22 =>
   cond (!r22)
    (some false)
    ((ref01_named_L1 p1 p2 n m1) (IntKind.i64.wrap (z18+1))))
   (ref01_named_K1)
def ref01_named (n:Nat) (p1:List UInt8) (p2:Bool):Option (Bool) :=
 bindO (cond (decide ((p1.length:Int)<1))
  (some true)
  (cond (decide ((p1.length:Int) > 32))
   (some true)
   (bindO (strAt p1 0) fun x5 =>
   bindO (ref01_digit n x5) fun r7 =>
   cond r7
    (some true)
    (bindO (strAt p1 0) fun x10 =>
    some (x10 == 45))))) fun b12 =>
 cond b12
  (some false)
  (ref01_named_L1 p1 p2 n n 0)
theorem ref01_named_0 (n:Nat) (p1:List UInt8) (p2:Bool) (r:Bool) (hF:ref01_named n p1 p2=some r):EvU Try.prog 87 [.str p1,.bool p2] ⟨[],0⟩ (fun u _=>u = .bool r∧Bel 0 u):=by
 unfold ref01_named at hF
 refine bg2 36 fn87 ?_
 obtain ⟨b12,h13,hF⟩:=bindO_some hF
 refine gr ?_
 refine WPU.joinK (fun tm σ=>tm=fr 36 [(0,.str p1),(1,.bool p2),(23,.bool b12)]∧σ=⟨[],0⟩) ?_ ?_
 rintro _ _ ⟨rfl,rfl⟩
 refine go ?_
 refine cF hF (fun h14 hF=>?_) (fun h14 hF=>?_)
 exact gx hF
 refine go ?_
 refine gS (l':=[(0,_),(1,_),(5,_)]) ?_
 refine WPU.loopK (fun m tm σ=>∃ z18:Int,ref01_named_L1 p1 p2 n m z18=some r∧tm=fr 36 [(0,.str p1),(1,.bool p2),(5,.i6 z18)]∧σ=⟨[],0⟩) (fun tm σ=>ref01_named_K1=some r∧tm=fr 36 []∧σ=⟨[],0⟩) n ⟨0,hF,rfl,rfl⟩ ?_ ?_
 rintro _ _ ⟨hF,rfl,rfl⟩
 unfold ref01_named_K1 at hF
 exact gx hF
 rintro (_|m1) _ _ ⟨z18,hF,rfl,rfl⟩
 cases hF
 unfold ref01_named_L1 at hF
 refine go ?_
 refine RS.q (u:=.i6 (p1.length:Int)) rfl (op_len rfl rfl rfl (by simp only [lenU,un9.h])) ?_
 refine go ?_
 refine cF hF (fun h19 hF=>?_) (fun h19 hF=>?_)
 refine go ?_
 refine WPU.block ?_
 obtain ⟨x20,h21,hF⟩:=bindO_some hF
 obtain ⟨r22,h23,hF⟩:=bindO_some hF
 refine go ?_
 refine RS.q (u:=.int .u8 x20) rfl (op_sidx un9.h rfl rfl h21) ?_
 refine go ?_
 refine RS.cl rfl (pC (ref01_part_0 n x20 p2 r22 h23) _) fn89 ?_
 refine go ?_
 refine cF hF (fun h24 hF=>?_) (fun h24 hF=>?_)
 exact gx hF
 refine go ?_
 exact lC ⟨_,hF,rfl,rfl⟩
 refine go ?_
 exact xC ⟨hF,rfl,rfl⟩
 rcases gB h13 with ⟨h3,h13⟩ | ⟨h3,h13⟩
 obtain rfl:=sI h13
 refine go ?_
 refine RS.q (u:=.i6 (p1.length:Int)) rfl (op_len rfl rfl rfl (by simp only [lenU,un9.h])) ?_
 refine go ?_
 exact xC ⟨rfl,rfl⟩
 rcases gB h13 with ⟨h4,h13⟩ | ⟨h4,h13⟩
 obtain rfl:=sI h13
 refine go ?_
 refine RS.q (u:=.i6 (p1.length:Int)) rfl (op_len rfl rfl rfl (by simp only [lenU,un9.h])) ?_
 refine go ?_
 refine RS.w (u:=.i6 (p1.length:Int)) rfl (op_len rfl rfl rfl (by simp only [lenU,un9.h])) ?_
 refine go ?_
 exact xC ⟨rfl,rfl⟩
 obtain ⟨x5,h6,h13⟩:=bindO_some h13
 obtain ⟨r7,h8,h13⟩:=bindO_some h13
 rcases gB h13 with ⟨h9,h13⟩ | ⟨h9,h13⟩
 obtain rfl:=sI h13
 refine go ?_
 refine RS.q (u:=.i6 (p1.length:Int)) rfl (op_len rfl rfl rfl (by simp only [lenU,un9.h])) ?_
 refine go ?_
 refine RS.w (u:=.i6 (p1.length:Int)) rfl (op_len rfl rfl rfl (by simp only [lenU,un9.h])) ?_
 refine go ?_
 refine RS.w (u:=.int .u8 x5) rfl (op_sidx un9.h rfl rfl h6) (RS.cl rfl (pC (ref01_digit_0 n x5 r7 h8) _) fn88 ?_)
 refine go ?_
 exact xC ⟨rfl,rfl⟩
 obtain ⟨x10,h11,h13⟩:=bindO_some h13
 obtain rfl:=sI h13
 refine go ?_
 refine RS.q (u:=.i6 (p1.length:Int)) rfl (op_len rfl rfl rfl (by simp only [lenU,un9.h])) ?_
 refine go ?_
 refine RS.w (u:=.i6 (p1.length:Int)) rfl (op_len rfl rfl rfl (by simp only [lenU,un9.h])) ?_
 refine go ?_
 refine RS.w (u:=.int .u8 x5) rfl (op_sidx un9.h rfl rfl h6) (RS.cl rfl (pC (ref01_digit_0 n x5 r7 h8) _) fn88 ?_)
 refine go ?_
 refine RS.w (u:=.int .u8 x10) rfl (op_sidx un9.h rfl rfl h11) ?_
 refine go ?_
 exact xC ⟨rfl,rfl⟩
def ref01_Name (n:Nat) (p1:List UInt8):Option (Bool) :=
 bindO (ref01_named n p1 false) fun r2 =>
 some r2
theorem ref01_Name_0 (n:Nat) (p1:List UInt8) (r:Bool) (hF:ref01_Name n p1=some r):EvU Try.prog 79 [.str p1] ⟨[],0⟩ (fun u _=>u = .bool r∧Bel 0 u):=by
 unfold ref01_Name at hF
 refine bg1 5 fn79 ?_
 obtain ⟨r2,h3,hF⟩:=bindO_some hF
 refine go ?_
 refine RS.cl rfl (pC (ref01_named_0 n p1 false r2 h3) _) fn87 ?_
 exact gx hF
def ref03_find_K1   : Option (Int) :=
 some (-1)
def ref03_find_L1 (p1:List GTypeDecl) (p2:List UInt8):Nat→Int→Option (Int)
 | 0,_=>none
 | m1+1,z6 =>
  cond (decide (z6<(p1.length:Int)))
   (bindO (idxO p1 z6) fun x8 =>
   cond (bytesEq x8.Name p2)
    (some z6)
    ((ref03_find_L1 p1 p2 m1) (IntKind.i64.wrap (z6+1))))
   (ref03_find_K1)
def ref03_find (n:Nat) (p1:List GTypeDecl) (p2:List UInt8):Option (Int) :=
 ref03_find_L1 p1 p2 n 0
theorem ref03_find_0 (n:Nat) (p1:List GTypeDecl) (p2:List UInt8) (r:Int) (hF:ref03_find n p1 p2=some r):EvU Try.prog 80 [.isl false (List.map cGTypeDecl p1),.str p2] ⟨[],0⟩ (fun u _=>u = .int .i64 r∧Bel 0 u):=by
 unfold ref03_find at hF
 refine bg2 20 fn80 ?_
 refine go ?_
 refine gS (l':=[(0,_),(1,_),(5,_)]) ?_
 refine WPU.loopK (fun m tm σ=>∃ z6:Int,ref03_find_L1 p1 p2 m z6=some r∧tm=fr 20 [(0,.iM cGTypeDecl p1),(1,.str p2),(5,.i6 z6)]∧σ=⟨[],0⟩) (fun tm σ=>ref03_find_K1=some r∧tm=fr 20 []∧σ=⟨[],0⟩) n ⟨0,hF,rfl,rfl⟩ ?_ ?_
 rintro _ _ ⟨hF,rfl,rfl⟩
 unfold ref03_find_K1 at hF
 exact gx hF
 rintro (_|m1) _ _ ⟨z6,hF,rfl,rfl⟩
 cases hF
 unfold ref03_find_L1 at hF
 refine go ?_
 refine cF hF (fun h7 hF=>?_) (fun h7 hF=>?_)
 refine go ?_
 refine WPU.block ?_
 obtain ⟨x8,h9,hF⟩:=bindO_some hF
 refine go ?_
 refine RS.ix h9 ?_
 refine go ?_
 refine RS.q (u:=.bool (bytesEq x8.Name p2)) rfl (op_str rfl rfl rfl rfl) ?_
 refine go ?_
 refine cF hF (fun h10 hF=>?_) (fun h10 hF=>?_)
 exact gx hF
 refine go ?_
 exact lC ⟨_,hF,rfl,rfl⟩
 refine go ?_
 exact xC ⟨hF,rfl,rfl⟩
def ref03_names_K1   : Option (Int) :=
 some 0
def ref03_names_L1 (p1:List GTypeDecl) (n:Nat):Nat→Int→Option (Int)
 | 0,_=>none
 | m1+1,z4 =>
  cond (decide (z4<(p1.length:Int)))
   (bindO (idxO p1 z4) fun x6 =>
   bindO (ref01_Name n x6.Name) fun r8 =>
   cond (!r8)
    (some 1)
    (bindO (idxO p1 z4) fun x11 =>
    bindO (ref03_find n p1 x11.Name) fun r13 =>
    cond (decide (r13<z4))
     (some 4)
     ((ref03_names_L1 p1 n m1) (IntKind.i64.wrap (z4+1)))))
   (ref03_names_K1)
def ref03_names (n:Nat) (p1:List GTypeDecl):Option (Int) :=
 ref03_names_L1 p1 n n 0
theorem ref03_names_0 (n:Nat) (p1:List GTypeDecl) (r:Int) (hF:ref03_names n p1=some r):EvU Try.prog 63 [.isl false (List.map cGTypeDecl p1)] ⟨[],0⟩ (fun u _=>u = .int .i64 r∧Bel 0 u):=by
 unfold ref03_names at hF
 refine bg1 26 fn63 ?_
 refine go ?_
 refine gS (l':=[(0,_),(3,_)]) ?_
 refine WPU.loopK (fun m tm σ=>∃ z4:Int,ref03_names_L1 p1 n m z4=some r∧tm=fr 26 [(0,.iM cGTypeDecl p1),(3,.i6 z4)]∧σ=⟨[],0⟩) (fun tm σ=>ref03_names_K1=some r∧tm=fr 26 []∧σ=⟨[],0⟩) n ⟨0,hF,rfl,rfl⟩ ?_ ?_
 rintro _ _ ⟨hF,rfl,rfl⟩
 unfold ref03_names_K1 at hF
 exact gx hF
 rintro (_|m1) _ _ ⟨z4,hF,rfl,rfl⟩
 cases hF
 unfold ref03_names_L1 at hF
 refine go ?_
 refine cF hF (fun h5 hF=>?_) (fun h5 hF=>?_)
 refine go ?_
 refine WPU.block ?_
 obtain ⟨x6,h7,hF⟩:=bindO_some hF
 obtain ⟨r8,h9,hF⟩:=bindO_some hF
 refine go ?_
 refine RS.ix h7 ?_
 refine go ?_
 refine RS.cl rfl (pC (ref01_Name_0 n x6.Name r8 h9) _) fn79 ?_
 refine go ?_
 refine cF hF (fun h10 hF=>?_) (fun h10 hF=>?_)
 exact gx hF
 obtain ⟨x11,h12,hF⟩:=bindO_some hF
 obtain ⟨r13,h14,hF⟩:=bindO_some hF
 refine go ?_
 refine RS.ix h12 ?_
 refine go ?_
 refine RS.cl rfl (pC (ref03_find_0 n p1 x11.Name r13 h14) _) fn80 ?_
 refine go ?_
 refine cF hF (fun h15 hF=>?_) (fun h15 hF=>?_)
 exact gx hF
 refine go ?_
 exact lC ⟨_,hF,rfl,rfl⟩
 refine go ?_
 exact xC ⟨hF,rfl,rfl⟩
def ref03_Among_K1   : Option (Bool) :=
 some false
def ref03_Among_L1 (p1:List (List UInt8)) (p2:List UInt8):Nat→Int→Option (Bool)
 | 0,_=>none
 | m1+1,z6 =>
  cond (decide (z6<(p1.length:Int)))
   (bindO (idxO p1 z6) fun x8 =>
   cond (bytesEq x8 p2)
    (some true)
    ((ref03_Among_L1 p1 p2 m1) (IntKind.i64.wrap (z6+1))))
   (ref03_Among_K1)
def ref03_Among (n:Nat) (p1:List (List UInt8)) (p2:List UInt8):Option (Bool) :=
 ref03_Among_L1 p1 p2 n 0
theorem ref03_Among_0 (n:Nat) (p1:List (List UInt8)) (p2:List UInt8) (r:Bool) (hF:ref03_Among n p1 p2=some r):EvU Try.prog 67 [.isl false (List.map cS p1),.str p2] ⟨[],0⟩ (fun u _=>u = .bool r∧Bel 0 u):=by
 unfold ref03_Among at hF
 refine bg2 18 fn67 ?_
 refine go ?_
 refine gS (l':=[(0,_),(1,_),(5,_)]) ?_
 refine WPU.loopK (fun m tm σ=>∃ z6:Int,ref03_Among_L1 p1 p2 m z6=some r∧tm=fr 18 [(0,.iM cS p1),(1,.str p2),(5,.i6 z6)]∧σ=⟨[],0⟩) (fun tm σ=>ref03_Among_K1=some r∧tm=fr 18 []∧σ=⟨[],0⟩) n ⟨0,hF,rfl,rfl⟩ ?_ ?_
 rintro _ _ ⟨hF,rfl,rfl⟩
 unfold ref03_Among_K1 at hF
 exact gx hF
 rintro (_|m1) _ _ ⟨z6,hF,rfl,rfl⟩
 cases hF
 unfold ref03_Among_L1 at hF
 refine go ?_
 refine cF hF (fun h7 hF=>?_) (fun h7 hF=>?_)
 refine go ?_
 refine WPU.block ?_
 obtain ⟨x8,h9,hF⟩:=bindO_some hF
 refine go ?_
 refine RS.ix h9 ?_
 refine go ?_
 refine RS.q (u:=.bool (bytesEq x8 p2)) rfl (op_str rfl rfl rfl rfl) ?_
 refine go ?_
 refine cF hF (fun h10 hF=>?_) (fun h10 hF=>?_)
 exact gx hF
 refine go ?_
 exact lC ⟨_,hF,rfl,rfl⟩
 refine go ?_
 exact xC ⟨hF,rfl,rfl⟩
def ref03_supers_K2 (z4:Int) (rc1:Int→Option (Int))  : Option (Int) :=
 rc1 (IntKind.i64.wrap (z4+1))
def ref03_supers_L2 (p1:List GTypeDecl) (n:Nat) (z4:Int) (rc1:Int→Option (Int)) (x6:GTypeDecl):Nat→Int→Option (Int)
 | 0,_=>none
 | m2+1,z12 =>
  cond (decide (z12<(x6.Supers.length:Int)))
   (bindO (idxO x6.Supers z12) fun x14 =>
   bindO (ref03_find n p1 x14) fun r16 =>
   cond (decide (r16<0))
    (some 5)
    (bindO (cutO x6.Supers 0 z12) fun l19 =>
    bindO (idxO x6.Supers z12) fun x23 =>
    bindO (ref03_Among n l19 x23) fun r25 =>
    cond r25
     (some 4)
     ((ref03_supers_L2 p1 n z4 rc1 x6 m2) (IntKind.i64.wrap (z12+1)))))
   (ref03_supers_K2 z4 rc1)
def ref03_supers_K1   : Option (Int) :=
 some 0
def ref03_supers_L1 (p1:List GTypeDecl) (n:Nat):Nat→Int→Option (Int)
 | 0,_=>none
 | m1+1,z4 =>
  cond (decide (z4<(p1.length:Int)))
   (bindO (idxO p1 z4) fun x6 =>
   ref03_supers_L2 p1 n z4 (ref03_supers_L1 p1 n m1) x6 n 0)
   (ref03_supers_K1)
def ref03_supers (n:Nat) (p1:List GTypeDecl):Option (Int) :=
 ref03_supers_L1 p1 n n 0
theorem ref03_supers_0 (n:Nat) (p1:List GTypeDecl) (r:Int) (hF:ref03_supers n p1=some r):EvU Try.prog 64 [.isl false (List.map cGTypeDecl p1)] ⟨[],0⟩ (fun u _=>u = .int .i64 r∧Bel 0 u):=by
 unfold ref03_supers at hF
 refine bg1 38 fn64 ?_
 refine go ?_
 refine gS (l':=[(0,_),(3,_)]) ?_
 refine WPU.loopK (fun m tm σ=>∃ z4:Int,ref03_supers_L1 p1 n m z4=some r∧tm=fr 38 [(0,.iM cGTypeDecl p1),(3,.i6 z4)]∧σ=⟨[],0⟩) (fun tm σ=>ref03_supers_K1=some r∧tm=fr 38 []∧σ=⟨[],0⟩) n ⟨0,hF,rfl,rfl⟩ ?_ ?_
 rintro _ _ ⟨hF,rfl,rfl⟩
 unfold ref03_supers_K1 at hF
 exact gx hF
 rintro (_|m1) _ _ ⟨z4,hF,rfl,rfl⟩
 cases hF
 unfold ref03_supers_L1 at hF
 refine go ?_
 refine cF hF (fun h5 hF=>?_) (fun h5 hF=>?_)
 refine go ?_
 refine WPU.block ?_
 obtain ⟨x6,h7,hF⟩:=bindO_some hF
 refine go ?_
 refine RS.ix h7 ?_
 refine go ?_
 refine gS (l':=[(0,_),(3,_),(4,_),(5,_)]) ?_
 refine WPU.loopK (fun m tm σ=>∃ z12:Int,ref03_supers_L2 p1 n z4 (ref03_supers_L1 p1 n m1) x6 m z12=some r∧tm=fr 38 [(0,.iM cGTypeDecl p1),(3,.i6 z4),(4,.iM cS x6.Supers),(5,.i6 z12)]∧σ=⟨[],0⟩) (fun tm σ=>ref03_supers_K2 z4 (ref03_supers_L1 p1 n m1)=some r∧tm=fr 38 [(0,.iM cGTypeDecl p1),(3,.i6 z4)]∧σ=⟨[],0⟩) n ⟨0,hF,rfl,rfl⟩ ?_ ?_
 rintro _ _ ⟨hF,rfl,rfl⟩
 unfold ref03_supers_K2 at hF
 refine go ?_
 exact lC ⟨_,hF,rfl,rfl⟩
 rintro (_|m2) _ _ ⟨z12,hF,rfl,rfl⟩
 cases hF
 unfold ref03_supers_L2 at hF
 refine go ?_
 refine cF hF (fun h13 hF=>?_) (fun h13 hF=>?_)
 refine go ?_
 refine WPU.block ?_
 obtain ⟨x14,h15,hF⟩:=bindO_some hF
 obtain ⟨r16,h17,hF⟩:=bindO_some hF
 refine go ?_
 refine RS.ix h15 ?_
 refine go ?_
 refine RS.cl rfl (pC (ref03_find_0 n p1 x14 r16 h17) _) fn80 ?_
 refine go ?_
 refine cF hF (fun h18 hF=>?_) (fun h18 hF=>?_)
 exact gx hF
 obtain ⟨l19,h20,hF⟩:=bindO_some hF
 obtain ⟨h21,h22⟩:=cut_hi cS .i64 h20
 obtain ⟨x23,h24,hF⟩:=bindO_some hF
 obtain ⟨r25,h26,hF⟩:=bindO_some hF
 refine go ?_
 refine WPU.drawE Try.tb_ok [] (by kernel_rfl) ?_
 refine gd ?_
 refine RD.q (u:=.iM cS l19) rfl (op_slice rfl em_n (em_s rfl) em_n (sl_isl cS un59.h (sz_of if9.h) len_cS h21 h22)) ?_
 refine gd ?_
 refine RD.ix h24 ?_
 refine gd ?_
 refine RD.fl rfl (pC (ref03_Among_0 n l19 x23 r25 h26)) fn67 ?_
 refine RD.done ⟨by kernel_rfl,trivial,?_⟩
 refine go ?_
 refine cF hF (fun h27 hF=>?_) (fun h27 hF=>?_)
 exact gx hF
 refine go ?_
 exact lC ⟨_,hF,rfl,rfl⟩
 refine go ?_
 exact xC ⟨hF,rfl,rfl⟩
 refine go ?_
 exact xC ⟨hF,rfl,rfl⟩
def ref03_ready_K1   : Option (Bool) :=
 some true
def ref03_ready_L1 (p1:GTypeDecl) (p2:List (List UInt8)) (n:Nat):Nat→Int→Option (Bool)
 | 0,_=>none
 | m1+1,z8 =>
  cond (decide (z8<(p1.Supers.length:Int)))
   (bindO (idxO p1.Supers z8) fun x10 =>
   bindO (ref03_Among n p2 x10) fun r12 =>
   cond (!r12)
    (some false)
    ((ref03_ready_L1 p1 p2 n m1) (IntKind.i64.wrap (z8+1))))
   (ref03_ready_K1)
def ref03_ready (n:Nat) (p1:GTypeDecl) (p2:List (List UInt8)):Option (Bool) :=
 ref03_ready_L1 p1 p2 n n 0
theorem ref03_ready_0 (n:Nat) (p1:GTypeDecl) (p2:List (List UInt8)) (r:Bool) (hF:ref03_ready n p1 p2=some r):EvU Try.prog 81 [.agg (cGTypeDecl p1),.isl false (List.map cS p2)] ⟨[],0⟩ (fun u _=>u = .bool r∧Bel 0 u):=by
 unfold ref03_ready at hF
 refine bg2 21 fn81 ?_
 refine go ?_
 refine gS (l':=[(1,_),(2,_),(5,_)]) ?_
 refine WPU.loopK (fun m tm σ=>∃ z8:Int,ref03_ready_L1 p1 p2 n m z8=some r∧tm=fr 21 [(1,.iM cS p2),(2,.ptr 0 0 0),(5,.i6 z8)]∧σ=⟨[(0,.row (cGTypeDecl p1) 61)],1⟩) (fun tm σ=>ref03_ready_K1=some r∧tm=fr 21 []∧σ=⟨[(0,.row (cGTypeDecl p1) 61)],1⟩) n ⟨0,hF,rfl,rfl⟩ ?_ ?_
 rintro _ _ ⟨hF,rfl,rfl⟩
 unfold ref03_ready_K1 at hF
 exact gx hF
 rintro (_|m1) _ _ ⟨z8,hF,rfl,rfl⟩
 cases hF
 unfold ref03_ready_L1 at hF
 refine go ?_
 refine cF hF (fun h9 hF=>?_) (fun h9 hF=>?_)
 refine go ?_
 refine WPU.block ?_
 obtain ⟨x10,h11,hF⟩:=bindO_some hF
 obtain ⟨r12,h13,hF⟩:=bindO_some hF
 refine go ?_
 refine RS.ix h11 ?_
 refine go ?_
 refine RS.cl rfl (pC (ref03_Among_0 n p2 x10 r12 h13) _) fn67 ?_
 refine go ?_
 refine cF hF (fun h14 hF=>?_) (fun h14 hF=>?_)
 exact gx hF
 refine go ?_
 exact lC ⟨_,hF,rfl,rfl⟩
 refine go ?_
 exact xC ⟨hF,rfl,rfl⟩
def ref03_placed_J3 (rc1:Bool→(List (List UInt8))→Option ((List (List UInt8)))) (b21:Bool) (l24:List (List UInt8)):Option ((List (List UInt8))) :=
 rc1 b21 l24
def ref03_placed_J4 (z20:Int) (rc2:Bool→(List UInt8)→Int→Option ((List (List UInt8)))) (s46:List UInt8):Option ((List (List UInt8))) :=
 rc2 true s46 (IntKind.i64.wrap (z20+1))
def ref03_placed_K2 (l7:List (List UInt8)) (rc1:Bool→(List (List UInt8))→Option ((List (List UInt8)))) (b21:Bool) (s22:List UInt8):Option ((List (List UInt8))) :=
 cond b21
  (needO ((l7.length+1)*16≤140737488355328∧l7.length+1≤140737488355328) (
  ref03_placed_J3 rc1 b21 (l7++[s22])))
  (ref03_placed_J3 rc1 b21 l7)
def ref03_placed_L2 (p1:List GTypeDecl) (n:Nat) (l7:List (List UInt8)) (rc1:Bool→(List (List UInt8))→Option ((List (List UInt8)))):Nat→Bool→(List UInt8)→Int→Option ((List (List UInt8)))
 | 0,_,_,_=>none
 | m2+1,b18,s19,z20 =>
  cond (decide (z20<(p1.length:Int)))
   (bindO (bindO (idxO p1 z20) fun x28 =>
   bindO (ref03_Among n l7 x28.Name) fun r30 =>
   cond r30
    (some true)
    (bindO (idxO p1 z20) fun x33 =>
    bindO (ref03_ready n x33 l7) fun r35 =>
    some (!r35))) fun b37 =>
   cond b37
    ((ref03_placed_L2 p1 n l7 rc1 m2) b18 s19 (IntKind.i64.wrap (z20+1)))
    (bindO (cond (!b18)
     (some true)
     (bindO (idxO p1 z20) fun x41 =>
     some (bytesLt x41.Name s19))) fun b43 =>
    cond b43
     (bindO (idxO p1 z20) fun x47 =>
     ref03_placed_J4 z20 (ref03_placed_L2 p1 n l7 rc1 m2) x47.Name)
     (ref03_placed_J4 z20 (ref03_placed_L2 p1 n l7 rc1 m2) s19)))
   (ref03_placed_K2 l7 rc1 b18 s19)
def ref03_placed_K1  (l9:List (List UInt8)):Option ((List (List UInt8))) :=
 some l9
def ref03_placed_L1 (p1:List GTypeDecl) (n:Nat):Nat→Bool→(List (List UInt8))→Option ((List (List UInt8)))
 | 0,_,_=>none
 | m1+1,b6,l7 =>
  cond b6
   (ref03_placed_L2 p1 n l7 (ref03_placed_L1 p1 n m1) n false [] 0)
   (ref03_placed_K1 l7)
def ref03_placed (n:Nat) (p1:List GTypeDecl):Option ((List (List UInt8))) :=
 ref03_placed_L1 p1 n n true ([]:List (List UInt8))
theorem ref03_placed_0 (n:Nat) (p1:List GTypeDecl) (r:(List (List UInt8))) (hF:ref03_placed n p1=some r):EvU Try.prog 65 [.isl false (List.map cGTypeDecl p1)] ⟨[],0⟩ (fun u _=>u = .isl false (List.map cS r)∧Bel 0 u):=by
 unfold ref03_placed at hF
 refine bg1 52 fn65 ?_
 refine gr ?_
 refine gr ?_
 refine gr ?_
 refine WPU.ghost (tm':=fr 52 [(0,.iM cGTypeDecl p1),(3,.vl 0 0 0 (([]:List (List UInt8)).length)),(4,.bool true)]) (σ':=⟨[(0,.vec (List.map cS ([]:List (List UInt8))).flatten 9 1 0)],1⟩) (Gh.trans (Gh.nilS 3 9 1 (by decide) NZ rfl rfl) (Gh.eqS ⟨rfl,rfl,rfl,trivial⟩ rfl)) NZ ?_
 refine gS (l':=[(0,_),(3,_),(4,_)]) ?_
 refine WPU.loopK (fun m tm σ=>∃ b6:Bool,∃ l7:List (List UInt8),∃ t8:Nat,ref03_placed_L1 p1 n m b6 l7=some r∧tm=fr 52 [(0,.iM cGTypeDecl p1),(3,.vl 0 t8 0 l7.length),(4,.bool b6)]∧σ=⟨[(0,.vec (List.map cS l7).flatten 9 1 t8)],1⟩) (fun tm σ=>∃ l9:List (List UInt8),∃ t10:Nat,ref03_placed_K1 l9=some r∧tm=fr 52 [(3,.vl 0 t10 0 l9.length)]∧σ=⟨[(0,.vec (List.map cS l9).flatten 9 1 t10)],1⟩) n ⟨true,([]:List (List UInt8)),0,hF,rfl,rfl⟩ ?_ ?_
 rintro _ _ ⟨l9,t10,hF,rfl,rfl⟩
 unfold ref03_placed_K1 at hF
 refine go ?_
 obtain rfl:=sI hF
 exact rT (us:=[.vl 0 t10 0 l9.length]) (u:=.iM cS l9) (res_t rfl (res_n)) (fR 0 1)
 rintro (_|m1) _ _ ⟨b6,l7,t8,hF,rfl,rfl⟩
 cases hF
 unfold ref03_placed_L1 at hF
 refine go ?_
 refine cF hF (fun h11 hF=>?_) (fun h11 hF=>?_)
 refine go ?_
 refine WPU.block ?_
 refine go ?_
 refine gS (l':=[(0,_),(3,_),(4,_),(5,_),(6,_)]) ?_
 refine WPU.loopK (fun m tm σ=>∃ b18:Bool,∃ s19:List UInt8,∃ z20:Int,ref03_placed_L2 p1 n l7 (ref03_placed_L1 p1 n m1) m b18 s19 z20=some r∧tm=fr 52 [(0,.iM cGTypeDecl p1),(3,.vl 0 t8 0 l7.length),(4,.bool b18),(5,.str s19),(6,.i6 z20)]∧σ=⟨[(0,.vec (List.map cS l7).flatten 9 1 t8)],1⟩) (fun tm σ=>∃ b21:Bool,∃ s22:List UInt8,ref03_placed_K2 l7 (ref03_placed_L1 p1 n m1) b21 s22=some r∧tm=fr 52 [(0,.iM cGTypeDecl p1),(3,.vl 0 t8 0 l7.length),(4,.bool b21),(5,.str s22)]∧σ=⟨[(0,.vec (List.map cS l7).flatten 9 1 t8)],1⟩) n ⟨false,[],0,hF,rfl,rfl⟩ ?_ ?_
 rintro _ _ ⟨b21,s22,hF,rfl,rfl⟩
 unfold ref03_placed_K2 at hF
 refine gr ?_
 refine WPU.joinK (fun tm σ=>∃ l24:List (List UInt8),∃ t25:Nat,ref03_placed_J3 (ref03_placed_L1 p1 n m1) b21 l24=some r∧tm=fr 52 [(0,.iM cGTypeDecl p1),(3,.vl 0 t25 0 l24.length),(4,.bool b21)]∧σ=⟨[(0,.vec (List.map cS l24).flatten 9 1 t25)],1⟩) ?_ ?_
 rintro _ _ ⟨l24,t25,hF,rfl,rfl⟩
 unfold ref03_placed_J3 at hF
 refine go ?_
 exact lC ⟨b21,l24,t25,hF,rfl,rfl⟩
 refine cF hF (fun h23 hF=>?_) (fun h23 hF=>?_)
 obtain ⟨h26,hF⟩:=needO_some hF
 refine go ?_
 refine RS.g ?_
 refine RS.g ?_
 refine go ?_
 exact xC ⟨(l7++[s22]),(t8+1),hF,rfl,rfl⟩
 refine go ?_
 exact xC ⟨l7,t8,hF,rfl,rfl⟩
 rintro (_|m2) _ _ ⟨b18,s19,z20,hF,rfl,rfl⟩
 cases hF
 unfold ref03_placed_L2 at hF
 refine go ?_
 refine cF hF (fun h27 hF=>?_) (fun h27 hF=>?_)
 refine go ?_
 refine WPU.block ?_
 obtain ⟨b37,h38,hF⟩:=bindO_some hF
 refine gn ?_
 refine WPU.joinK (fun tm σ=>tm=fr 52 [(0,.iM cGTypeDecl p1),(3,.vl 0 t8 0 l7.length),(4,.bool b18),(5,.str s19),(6,.i6 z20),(29,.bool b37)]∧σ=⟨[(0,.vec (List.map cS l7).flatten 9 1 t8)],1⟩) ?_ ?_
 rintro _ _ ⟨rfl,rfl⟩
 refine go ?_
 refine cF hF (fun h39 hF=>?_) (fun h39 hF=>?_)
 refine go ?_
 exact lC ⟨b18,s19,(IntKind.i64.wrap (z20+1)),hF,rfl,rfl⟩
 obtain ⟨b43,h44,hF⟩:=bindO_some hF
 refine gn ?_
 refine WPU.joinK (fun tm σ=>tm=fr 52 [(0,.iM cGTypeDecl p1),(3,.vl 0 t8 0 l7.length),(5,.str s19),(6,.i6 z20),(40,.bool b43)]∧σ=⟨[(0,.vec (List.map cS l7).flatten 9 1 t8)],1⟩) ?_ ?_
 rintro _ _ ⟨rfl,rfl⟩
 refine gn ?_
 refine WPU.joinK (fun tm σ=>∃ s46:List UInt8,ref03_placed_J4 z20 (ref03_placed_L2 p1 n l7 (ref03_placed_L1 p1 n m1) m2) s46=some r∧tm=fr 52 [(0,.iM cGTypeDecl p1),(3,.vl 0 t8 0 l7.length),(5,.str s46),(6,.i6 z20)]∧σ=⟨[(0,.vec (List.map cS l7).flatten 9 1 t8)],1⟩) ?_ ?_
 rintro _ _ ⟨s46,hF,rfl,rfl⟩
 unfold ref03_placed_J4 at hF
 refine go ?_
 exact lC ⟨true,s46,(IntKind.i64.wrap (z20+1)),hF,rfl,rfl⟩
 refine cF hF (fun h45 hF=>?_) (fun h45 hF=>?_)
 obtain ⟨x47,h48,hF⟩:=bindO_some hF
 refine go ?_
 refine RS.ix h48 ?_
 refine go ?_
 exact xC ⟨x47.Name,hF,rfl,rfl⟩
 refine go ?_
 exact xC ⟨s19,hF,rfl,rfl⟩
 rcases gB h44 with ⟨h40,h44⟩ | ⟨h40,h44⟩
 exact gy h44
 obtain ⟨x41,h42,h44⟩:=bindO_some h44
 obtain rfl:=sI h44
 refine go ?_
 refine RS.ix h42 ?_
 refine go ?_
 refine RS.w (u:=.bool (bytesLt x41.Name s19)) rfl (op_str rfl rfl rfl rfl) ?_
 refine go ?_
 exact xC ⟨rfl,rfl⟩
 obtain ⟨x28,h29,h38⟩:=bindO_some h38
 obtain ⟨r30,h31,h38⟩:=bindO_some h38
 rcases gB h38 with ⟨h32,h38⟩ | ⟨h32,h38⟩
 obtain rfl:=sI h38
 refine go ?_
 refine RS.ix h29 ?_
 refine go ?_
 refine RS.cl rfl (vw (ref03_Among_0 n l7 x28.Name r30 h31) (Gh.fzC 0 1)) fn67 ?_
 refine go ?_
 exact xC ⟨rfl,rfl⟩
 obtain ⟨x33,h34,h38⟩:=bindO_some h38
 obtain ⟨r35,h36,h38⟩:=bindO_some h38
 obtain rfl:=sI h38
 refine go ?_
 refine RS.ix h29 ?_
 refine go ?_
 refine RS.cl rfl (vw (ref03_Among_0 n l7 x28.Name r30 h31) (Gh.fzC 0 1)) fn67 ?_
 refine go ?_
 refine RS.ix h34 ?_
 refine go ?_
 refine RS.cl rfl (vw (ref03_ready_0 n x33 l7 r35 h36) (Gh.fzC 0 1)) fn81 ?_
 refine go ?_
 exact xC ⟨rfl,rfl⟩
 refine go ?_
 exact xC ⟨b18,s19,hF,rfl,rfl⟩
 refine go ?_
 exact xC ⟨l7,t8,hF,rfl,rfl⟩
def ref03_Check_J2 (z15:Int) (rc1:Int→Int→Option (Int)) (z25:Int):Option (Int) :=
 rc1 z25 (IntKind.i64.wrap (z15+1))
def ref03_Check_K1 (p1:List GTypeDecl) (n:Nat) (z16:Int):Option (Int) :=
 cond (z16 != 1)
  (some 1)
  (bindO (ref03_placed n p1) fun r18 =>
  cond (decide ((r18.length:Int)<(p1.length:Int)))
   (some 6)
   (some 0))
def ref03_Check_L1 (p1:List GTypeDecl) (n:Nat):Nat→Int→Int→Option (Int)
 | 0,_,_=>none
 | m1+1,z14,z15 =>
  cond (decide (z15<(p1.length:Int)))
   (bindO (idxO p1 z15) fun x22 =>
   cond ((x22.Supers.length:Int) == 0)
    (ref03_Check_J2 z15 (ref03_Check_L1 p1 n m1) (IntKind.i64.wrap (z14+1)))
    (ref03_Check_J2 z15 (ref03_Check_L1 p1 n m1) z14))
   (ref03_Check_K1 p1 n z14)
def ref03_Check (n:Nat) (p1:List GTypeDecl):Option (Int) :=
 bindO (ref03_sizes n p1) fun r2 =>
 cond (r2 != 0)
  (some r2)
  (bindO (ref03_names n p1) fun r5 =>
  cond (r5 != 0)
   (some r5)
   (bindO (ref03_supers n p1) fun r8 =>
   cond (r8 != 0)
    (some r8)
    (ref03_Check_L1 p1 n n 0 0)))
theorem ref03_Check_0 (n:Nat) (p1:List GTypeDecl) (r:Int) (hF:ref03_Check n p1=some r):EvU Try.prog 43 [.isl false (List.map cGTypeDecl p1)] ⟨[],0⟩ (fun u _=>u = .int .i64 r∧Bel 0 u):=by
 unfold ref03_Check at hF
 refine bg1 46 fn43 ?_
 obtain ⟨r2,h3,hF⟩:=bindO_some hF
 refine go ?_
 refine RS.cl rfl (pC (ref03_sizes_0 n p1 r2 h3) _) fn62 ?_
 refine go ?_
 refine cF hF (fun h4 hF=>?_) (fun h4 hF=>?_)
 exact gx hF
 obtain ⟨r5,h6,hF⟩:=bindO_some hF
 refine go ?_
 refine RS.cl rfl (pC (ref03_names_0 n p1 r5 h6) _) fn63 ?_
 refine go ?_
 refine cF hF (fun h7 hF=>?_) (fun h7 hF=>?_)
 exact gx hF
 obtain ⟨r8,h9,hF⟩:=bindO_some hF
 refine go ?_
 refine RS.cl rfl (pC (ref03_supers_0 n p1 r8 h9) _) fn64 ?_
 refine go ?_
 refine cF hF (fun h10 hF=>?_) (fun h10 hF=>?_)
 exact gx hF
 refine go ?_
 refine gS (l':=[(0,_),(6,_),(7,_)]) ?_
 refine WPU.loopK (fun m tm σ=>∃ z14:Int,∃ z15:Int,ref03_Check_L1 p1 n m z14 z15=some r∧tm=fr 46 [(0,.iM cGTypeDecl p1),(6,.i6 z14),(7,.i6 z15)]∧σ=⟨[],0⟩) (fun tm σ=>∃ z16:Int,ref03_Check_K1 p1 n z16=some r∧tm=fr 46 [(0,.iM cGTypeDecl p1),(6,.i6 z16)]∧σ=⟨[],0⟩) n ⟨0,0,hF,rfl,rfl⟩ ?_ ?_
 rintro _ _ ⟨z16,hF,rfl,rfl⟩
 unfold ref03_Check_K1 at hF
 refine go ?_
 refine cF hF (fun h17 hF=>?_) (fun h17 hF=>?_)
 exact gx hF
 obtain ⟨r18,h19,hF⟩:=bindO_some hF
 refine go ?_
 refine RS.cl rfl (pC (ref03_placed_0 n p1 r18 h19) _) fn65 ?_
 refine go ?_
 refine cF hF (fun h20 hF=>?_) (fun h20 hF=>?_)
 exact gx hF
 exact gx hF
 rintro (_|m1) _ _ ⟨z14,z15,hF,rfl,rfl⟩
 cases hF
 unfold ref03_Check_L1 at hF
 refine go ?_
 refine cF hF (fun h21 hF=>?_) (fun h21 hF=>?_)
 refine go ?_
 refine WPU.block ?_
 obtain ⟨x22,h23,hF⟩:=bindO_some hF
 refine go ?_
 refine RS.ix h23 ?_
 refine gn ?_
 refine WPU.joinK (fun tm σ=>∃ z25:Int,ref03_Check_J2 z15 (ref03_Check_L1 p1 n m1) z25=some r∧tm=fr 46 [(0,.iM cGTypeDecl p1),(6,.i6 z25),(7,.i6 z15)]∧σ=⟨[],0⟩) ?_ ?_
 rintro _ _ ⟨z25,hF,rfl,rfl⟩
 unfold ref03_Check_J2 at hF
 refine go ?_
 exact lC ⟨z25,(IntKind.i64.wrap (z15+1)),hF,rfl,rfl⟩
 refine cF hF (fun h24 hF=>?_) (fun h24 hF=>?_)
 refine go ?_
 exact xC ⟨(IntKind.i64.wrap (z14+1)),hF,rfl,rfl⟩
 refine go ?_
 exact xC ⟨z14,hF,rfl,rfl⟩
 refine go ?_
 exact xC ⟨z14,hF,rfl,rfl⟩
def ref03_Put_K1 (p1:List (List UInt8)) (p2:List UInt8) (z7:Int):Option ((List (List UInt8))) :=
 bindO (cond (decide (z7<(p1.length:Int)))
  (bindO (idxO p1 z7) fun x9 =>
  some (bytesEq x9 p2))
  (some false)) fun b11 =>
 cond b11
  (some p1)
  (bindO (cutO p1 0 z7) fun l14 =>
  needO (l14.length*16≤140737488355328∧l14.length≤140737488355328) (
  needO ((l14.length+1)*16≤140737488355328∧l14.length+1≤140737488355328) (
  bindO (cutO p1 z7 (p1.length:Int)) fun l20 =>
  needO (((l14++[p2]).length+l20.length)*16≤140737488355328∧(l14++[p2]).length+l20.length≤140737488355328) (
  some ((l14++[p2])++l20)))))
def ref03_Put_L1 (p1:List (List UInt8)) (p2:List UInt8):Nat→Int→Option ((List (List UInt8)))
 | 0,_=>none
 | m1+1,z6 =>
  bindO (cond (decide (z6<(p1.length:Int)))
   (bindO (idxO p1 z6) fun x26 =>
   some (bytesLt x26 p2))
   (some false)) fun b28 =>
  cond b28
   ((ref03_Put_L1 p1 p2 m1) (IntKind.i64.wrap (z6+1)))
   (ref03_Put_K1 p1 p2 z6)
def ref03_Put (n:Nat) (p1:List (List UInt8)) (p2:List UInt8):Option ((List (List UInt8))) :=
 ref03_Put_L1 p1 p2 n 0
theorem ref03_Put_0 (n:Nat) (p1:List (List UInt8)) (p2:List UInt8) (r:(List (List UInt8))) (hF:ref03_Put n p1 p2=some r):EvU Try.prog 57 [.isl false (List.map cS p1),.str p2] ⟨[],0⟩ (fun u _=>u = .isl false (List.map cS r)∧Bel 0 u):=by
 unfold ref03_Put at hF
 refine bg2 48 fn57 ?_
 refine go ?_
 refine gS (l':=[(0,_),(1,_),(5,_),(6,_)]) ?_
 refine WPU.loopK (fun m tm σ=>∃ z6:Int,ref03_Put_L1 p1 p2 m z6=some r∧tm=fr 48 [(0,.iM cS p1),(1,.str p2),(5,.nils),(6,.i6 z6)]∧σ=⟨[],0⟩) (fun tm σ=>∃ z7:Int,ref03_Put_K1 p1 p2 z7=some r∧tm=fr 48 [(0,.iM cS p1),(1,.str p2),(5,.nils),(6,.i6 z7)]∧σ=⟨[],0⟩) n ⟨0,hF,rfl,rfl⟩ ?_ ?_
 rintro _ _ ⟨z7,hF,rfl,rfl⟩
 unfold ref03_Put_K1 at hF
 obtain ⟨b11,h12,hF⟩:=bindO_some hF
 refine gn ?_
 refine WPU.joinK (fun tm σ=>tm=fr 48 [(0,.iM cS p1),(1,.str p2),(5,.nils),(6,.i6 z7),(32,.bool b11)]∧σ=⟨[],0⟩) ?_ ?_
 rintro _ _ ⟨rfl,rfl⟩
 refine go ?_
 refine cF hF (fun h13 hF=>?_) (fun h13 hF=>?_)
 exact gx hF
 obtain ⟨l14,h15,hF⟩:=bindO_some hF
 obtain ⟨h16,h17⟩:=cut_hi cS .i64 h15
 obtain ⟨h18,hF⟩:=needO_some hF
 refine go ?_
 refine RS.q (u:=.iM cS l14) rfl (op_slice rfl em_n (em_s rfl) em_n (sl_isl cS un59.h (sz_of if9.h) len_cS h16 h17)) (RS.q (u:=.vl 0 0 0 l14.length) (σ':=⟨[(0,.vec (List.map cS l14).flatten 9 1 0)],1⟩) rfl (op_app rfl rfl rfl rfl (app_new cS l14 un59.h un59.h if9.h rfl (src_isl cS len_cS) h18)) ?_)
 obtain ⟨h19,hF⟩:=needO_some hF
 refine go ?_
 refine RS.g ?_
 refine RS.g ?_
 obtain ⟨l20,h21,hF⟩:=bindO_some hF
 obtain ⟨h22,h23⟩:=cut_lo cS .i64 h21
 obtain ⟨h24,hF⟩:=needO_some hF
 refine go ?_
 refine RS.q (u:=.iM cS l20) rfl (op_slice rfl (em_s rfl) em_n em_n (sl_isl cS un59.h (sz_of if9.h) len_cS h22 h23)) ?_
 refine RS.g ?_
 refine go ?_
 obtain rfl:=sI hF
 exact rT (us:=[.vl 0 2 0 (((l14++[p2])++l20).length)]) (u:=.iM cS ((l14++[p2])++l20)) (res_t rfl (res_n)) (fR 0 1)
 rcases gB h12 with ⟨h8,h12⟩ | ⟨h8,h12⟩
 obtain ⟨x9,h10,h12⟩:=bindO_some h12
 obtain rfl:=sI h12
 refine go ?_
 refine RS.ix h10 ?_
 refine go ?_
 refine RS.w (u:=.bool (bytesEq x9 p2)) rfl (op_str rfl rfl rfl rfl) ?_
 refine go ?_
 exact xC ⟨rfl,rfl⟩
 exact gy h12
 rintro (_|m1) _ _ ⟨z6,hF,rfl,rfl⟩
 cases hF
 unfold ref03_Put_L1 at hF
 obtain ⟨b28,h29,hF⟩:=bindO_some hF
 refine gn ?_
 refine WPU.joinK (fun tm σ=>tm=fr 48 [(0,.iM cS p1),(1,.str p2),(5,.nils),(6,.i6 z6),(18,.bool b28)]∧σ=⟨[],0⟩) ?_ ?_
 rintro _ _ ⟨rfl,rfl⟩
 refine go ?_
 refine cF hF (fun h30 hF=>?_) (fun h30 hF=>?_)
 refine go ?_
 refine WPU.block ?_
 refine go ?_
 exact lC ⟨_,hF,rfl,rfl⟩
 refine go ?_
 exact xC ⟨z6,hF,rfl,rfl⟩
 rcases gB h29 with ⟨h25,h29⟩ | ⟨h25,h29⟩
 obtain ⟨x26,h27,h29⟩:=bindO_some h29
 obtain rfl:=sI h29
 refine go ?_
 refine RS.ix h27 ?_
 refine go ?_
 refine RS.w (u:=.bool (bytesLt x26 p2)) rfl (op_str rfl rfl rfl rfl) ?_
 refine go ?_
 exact xC ⟨rfl,rfl⟩
 exact gy h29
def ref03_Names_K1  (l7:List (List UInt8)):Option ((List (List UInt8))) :=
 some l7
def ref03_Names_L1 (p1:List GTypeDecl) (n:Nat):Nat→(List (List UInt8))→Int→Option ((List (List UInt8)))
 | 0,_,_=>none
 | m1+1,l5,z6 =>
  cond (decide (z6<(p1.length:Int)))
   (bindO (idxO p1 z6) fun x9 =>
   bindO (ref03_Put n l5 x9.Name) fun r11 =>
   (ref03_Names_L1 p1 n m1) r11 (IntKind.i64.wrap (z6+1)))
   (ref03_Names_K1 l5)
def ref03_Names (n:Nat) (p1:List GTypeDecl):Option ((List (List UInt8))) :=
 ref03_Names_L1 p1 n n [] 0
theorem ref03_Names_0 (n:Nat) (p1:List GTypeDecl) (r:(List (List UInt8))) (hF:ref03_Names n p1=some r):EvU Try.prog 44 [.isl false (List.map cGTypeDecl p1)] ⟨[],0⟩ (fun u _=>u = .isl false (List.map cS r)∧Bel 0 u):=by
 unfold ref03_Names at hF
 refine bg1 19 fn44 ?_
 refine gr ?_
 refine gr ?_
 refine gr ?_
 refine WPU.ghost (tm':=fr 19 [(0,.iM cGTypeDecl p1),(3,.iM cS []),(4,.i6 0)]) (Gh.trans (Gh.sub (l':=[(0,.iM cGTypeDecl p1),(3,.nils),(4,.i6 0)]) ⟨rfl,rfl,rfl,trivial⟩) (Gh.wkS (l':=[(0,.iM cGTypeDecl p1),(3,.iM cS []),(4,.i6 0)]) (.cons (.refl _) (.cons (.nil false) (.cons (.refl _) .nil))))) NZ ?_
 refine gS (l':=[(0,_),(3,_),(4,_)]) ?_
 refine WPU.loopK (fun m tm σ=>∃ l5:List (List UInt8),∃ z6:Int,ref03_Names_L1 p1 n m l5 z6=some r∧tm=fr 19 [(0,.iM cGTypeDecl p1),(3,.iM cS l5),(4,.i6 z6)]∧σ=⟨[],0⟩) (fun tm σ=>∃ l7:List (List UInt8),ref03_Names_K1 l7=some r∧tm=fr 19 [(3,.iM cS l7)]∧σ=⟨[],0⟩) n ⟨[],0,hF,rfl,rfl⟩ ?_ ?_
 rintro _ _ ⟨l7,hF,rfl,rfl⟩
 unfold ref03_Names_K1 at hF
 exact gx hF
 rintro (_|m1) _ _ ⟨l5,z6,hF,rfl,rfl⟩
 cases hF
 unfold ref03_Names_L1 at hF
 refine go ?_
 refine cF hF (fun h8 hF=>?_) (fun h8 hF=>?_)
 refine go ?_
 refine WPU.block ?_
 obtain ⟨x9,h10,hF⟩:=bindO_some hF
 obtain ⟨r11,h12,hF⟩:=bindO_some hF
 refine go ?_
 refine RS.ix h10 ?_
 refine go ?_
 refine RS.cl rfl (pC (ref03_Put_0 n l5 x9.Name r11 h12) _) fn57 ?_
 refine go ?_
 exact lC ⟨r11,(IntKind.i64.wrap (z6+1)),hF,rfl,rfl⟩
 refine go ?_
 exact xC ⟨l5,hF,rfl,rfl⟩
def ref03_Below_K2  (l21:List (List UInt8)):Option ((List (List UInt8))) :=
 some l21
def ref03_Below_L2 (n:Nat) (l13:List (List UInt8)):Nat→(List (List UInt8))→Int→Option ((List (List UInt8)))
 | 0,_,_=>none
 | m2+1,l19,z20 =>
  cond (decide (z20<(l13.length:Int)))
   (bindO (idxO l13 z20) fun x23 =>
   bindO (ref03_Put n l19 x23) fun r25 =>
   (ref03_Below_L2 n l13 m2) r25 (IntKind.i64.wrap (z20+1)))
   (ref03_Below_K2 l19)
def ref03_Below_J4 (z33:Int) (rc3:Int→(List (List UInt8))→Option ((List (List UInt8)))) (l53:List (List UInt8)):Option ((List (List UInt8))) :=
 rc3 (IntKind.i64.wrap (z33+1)) l53
def ref03_Below_K3 (z10:Int) (rc1:Int→(List (List UInt8))→Option ((List (List UInt8)))) (l36:List (List UInt8)):Option ((List (List UInt8))) :=
 rc1 (IntKind.i64.wrap (z10+1)) l36
def ref03_Below_L3 (p1:List GTypeDecl) (n:Nat) (z10:Int) (rc1:Int→(List (List UInt8))→Option ((List (List UInt8)))):Nat→Int→(List (List UInt8))→Option ((List (List UInt8)))
 | 0,_,_=>none
 | m3+1,z33,l34 =>
  cond (decide (z33<(p1.length:Int)))
   (bindO (bindO (idxO p1 z33) fun x39 =>
   bindO (idxO l34 z10) fun x41 =>
   bindO (ref03_Among n x39.Supers x41) fun r43 =>
   cond r43
    (bindO (idxO p1 z33) fun x46 =>
    bindO (ref03_Among n l34 x46.Name) fun r48 =>
    some (!r48))
    (some false)) fun b50 =>
   cond b50
    (bindO (idxO p1 z33) fun x55 =>
    needO ((l34.length+1)*16≤140737488355328∧l34.length+1≤140737488355328) (
    ref03_Below_J4 z33 (ref03_Below_L3 p1 n z10 rc1 m3) (l34++[x55.Name])))
    (ref03_Below_J4 z33 (ref03_Below_L3 p1 n z10 rc1 m3) l34))
   (ref03_Below_K3 z10 rc1 l34)
def ref03_Below_K1 (n:Nat) (l13:List (List UInt8)):Option ((List (List UInt8))) :=
 ref03_Below_L2 n l13 n [] 0
def ref03_Below_L1 (p1:List GTypeDecl) (n:Nat):Nat→Int→(List (List UInt8))→Option ((List (List UInt8)))
 | 0,_,_=>none
 | m1+1,z10,l11 =>
  cond (decide (z10<(l11.length:Int)))
   (ref03_Below_L3 p1 n z10 (ref03_Below_L1 p1 n m1) n 0 l11)
   (ref03_Below_K1 n l11)
def ref03_Below (n:Nat) (p1:List GTypeDecl) (p2:List UInt8):Option ((List (List UInt8))) :=
 bindO (ref03_find n p1 p2) fun r3 =>
 cond (decide (r3<0))
  (some [])
  (ref03_Below_L1 p1 n n 0 ([p2]))
theorem ref03_Below_0 (n:Nat) (p1:List GTypeDecl) (p2:List UInt8) (r:(List (List UInt8))) (hF:ref03_Below n p1 p2=some r):EvU Try.prog 66 [.isl false (List.map cGTypeDecl p1),.str p2] ⟨[],0⟩ (fun u _=>u = .isl false (List.map cS r)∧Bel 0 u):=by
 unfold ref03_Below at hF
 refine bg2 69 fn66 ?_
 obtain ⟨r3,h4,hF⟩:=bindO_some hF
 refine go ?_
 refine RS.cl rfl (pC (ref03_find_0 n p1 p2 r3 h4) _) fn80 ?_
 refine go ?_
 refine cF hF (fun h5 hF=>?_) (fun h5 hF=>?_)
 refine go ?_
 obtain rfl:=sI hF
 exact rT (us:=[.nils]) (u:=.isl false []) (res_t rfl (res_n)) wR
 refine go ?_
 refine RS.step (u:=.vl 0 0 0 ([p2].length)) (σ':=⟨[(0,.vec (List.map cS ([p2])).flatten 9 1 0)],1⟩) rfl (StepU.bslv (cs:=(List.map cS [p2]).flatten) Try.tb_ok rfl un59.h if9.h rfl rfl rfl rfl rfl rfl rfl rfl) rfl rfl ?_
 refine go ?_
 refine gS (l':=[(0,_),(5,_),(6,_)]) ?_
 refine WPU.loopK (fun m tm σ=>∃ z10:Int,∃ l11:List (List UInt8),∃ t12:Nat,ref03_Below_L1 p1 n m z10 l11=some r∧tm=fr 69 [(0,.iM cGTypeDecl p1),(5,.vl 0 t12 0 l11.length),(6,.i6 z10)]∧σ=⟨[(0,.vec (List.map cS l11).flatten 9 1 t12)],1⟩) (fun tm σ=>∃ l13:List (List UInt8),∃ t14:Nat,ref03_Below_K1 n l13=some r∧tm=fr 69 [(5,.vl 0 t14 0 l13.length)]∧σ=⟨[(0,.vec (List.map cS l13).flatten 9 1 t14)],1⟩) n ⟨0,[p2],0,hF,rfl,rfl⟩ ?_ ?_
 rintro _ _ ⟨l13,t14,hF,rfl,rfl⟩
 unfold ref03_Below_K1 at hF
 refine gr ?_
 refine gr ?_
 refine WPU.ghost (tm':=fr 69 [(5,.vl 0 t14 0 l13.length),(8,.iM cS []),(9,.i6 0)]) (Gh.trans (Gh.sub (l':=[(5,.vl 0 t14 0 l13.length),(8,.nils),(9,.i6 0)]) ⟨rfl,rfl,rfl,trivial⟩) (Gh.wkS (l':=[(5,.vl 0 t14 0 l13.length),(8,.iM cS []),(9,.i6 0)]) (.cons (.refl _) (.cons (.nil false) (.cons (.refl _) .nil))))) NZ ?_
 refine gS (l':=[(5,_),(8,_),(9,_)]) ?_
 refine WPU.loopK (fun m tm σ=>∃ l19:List (List UInt8),∃ z20:Int,ref03_Below_L2 n l13 m l19 z20=some r∧tm=fr 69 [(5,.vl 0 t14 0 l13.length),(8,.iM cS l19),(9,.i6 z20)]∧σ=⟨[(0,.vec (List.map cS l13).flatten 9 1 t14)],1⟩) (fun tm σ=>∃ l21:List (List UInt8),ref03_Below_K2 l21=some r∧tm=fr 69 [(8,.iM cS l21)]∧σ=⟨[(0,.vec (List.map cS l13).flatten 9 1 t14)],1⟩) n ⟨[],0,hF,rfl,rfl⟩ ?_ ?_
 rintro _ _ ⟨l21,hF,rfl,rfl⟩
 unfold ref03_Below_K2 at hF
 exact gx hF
 rintro (_|m2) _ _ ⟨l19,z20,hF,rfl,rfl⟩
 cases hF
 unfold ref03_Below_L2 at hF
 refine go ?_
 refine cF hF (fun h22 hF=>?_) (fun h22 hF=>?_)
 refine go ?_
 refine WPU.block ?_
 obtain ⟨x23,h24,hF⟩:=bindO_some hF
 obtain ⟨r25,h26,hF⟩:=bindO_some hF
 refine go ?_
 refine RS.q rfl (op_ia rfl rfl (ia_vl cS un59.h (sz_of if9.h) (by decide) len_cS (vo rfl) h24)) ?_
 refine RS.q rfl (ld_vec1 cS (fun x=>.str x) un9.h rfl (fun _=>rfl) rfl rfl h24) (RS.cl rfl (pC (ref03_Put_0 n l19 x23 r25 h26) _) fn57 ?_)
 refine go ?_
 exact lC ⟨r25,(IntKind.i64.wrap (z20+1)),hF,rfl,rfl⟩
 refine go ?_
 exact xC ⟨l19,hF,rfl,rfl⟩
 rintro (_|m1) _ _ ⟨z10,l11,t12,hF,rfl,rfl⟩
 cases hF
 unfold ref03_Below_L1 at hF
 refine go ?_
 refine cF hF (fun h27 hF=>?_) (fun h27 hF=>?_)
 refine go ?_
 refine WPU.block ?_
 refine go ?_
 refine gS (l':=[(0,_),(5,_),(6,_),(7,_)]) ?_
 refine WPU.loopK (fun m tm σ=>∃ z33:Int,∃ l34:List (List UInt8),∃ t35:Nat,ref03_Below_L3 p1 n z10 (ref03_Below_L1 p1 n m1) m z33 l34=some r∧tm=fr 69 [(0,.iM cGTypeDecl p1),(5,.vl 0 t35 0 l34.length),(6,.i6 z10),(7,.i6 z33)]∧σ=⟨[(0,.vec (List.map cS l34).flatten 9 1 t35)],1⟩) (fun tm σ=>∃ l36:List (List UInt8),∃ t37:Nat,ref03_Below_K3 z10 (ref03_Below_L1 p1 n m1) l36=some r∧tm=fr 69 [(0,.iM cGTypeDecl p1),(5,.vl 0 t37 0 l36.length),(6,.i6 z10)]∧σ=⟨[(0,.vec (List.map cS l36).flatten 9 1 t37)],1⟩) n ⟨0,l11,t12,hF,rfl,rfl⟩ ?_ ?_
 rintro _ _ ⟨l36,t37,hF,rfl,rfl⟩
 unfold ref03_Below_K3 at hF
 refine go ?_
 exact lC ⟨_,l36,t37,hF,rfl,rfl⟩
 rintro (_|m3) _ _ ⟨z33,l34,t35,hF,rfl,rfl⟩
 cases hF
 unfold ref03_Below_L3 at hF
 refine go ?_
 refine cF hF (fun h38 hF=>?_) (fun h38 hF=>?_)
 refine go ?_
 refine WPU.block ?_
 obtain ⟨b50,h51,hF⟩:=bindO_some hF
 refine gn ?_
 refine WPU.joinK (fun tm σ=>tm=fr 69 [(0,.iM cGTypeDecl p1),(5,.vl 0 t35 0 l34.length),(6,.i6 z10),(7,.i6 z33),(47,.bool b50)]∧σ=⟨[(0,.vec (List.map cS l34).flatten 9 1 t35)],1⟩) ?_ ?_
 rintro _ _ ⟨rfl,rfl⟩
 refine gn ?_
 refine WPU.joinK (fun tm σ=>∃ l53:List (List UInt8),∃ t54:Nat,ref03_Below_J4 z33 (ref03_Below_L3 p1 n z10 (ref03_Below_L1 p1 n m1) m3) l53=some r∧tm=fr 69 [(0,.iM cGTypeDecl p1),(5,.vl 0 t54 0 l53.length),(6,.i6 z10),(7,.i6 z33)]∧σ=⟨[(0,.vec (List.map cS l53).flatten 9 1 t54)],1⟩) ?_ ?_
 rintro _ _ ⟨l53,t54,hF,rfl,rfl⟩
 unfold ref03_Below_J4 at hF
 refine go ?_
 exact lC ⟨_,l53,t54,hF,rfl,rfl⟩
 refine cF hF (fun h52 hF=>?_) (fun h52 hF=>?_)
 obtain ⟨x55,h56,hF⟩:=bindO_some hF
 obtain ⟨h57,hF⟩:=needO_some hF
 refine go ?_
 refine RS.ix h56 ?_
 refine go ?_
 refine RS.g ?_
 refine RS.g ?_
 refine go ?_
 exact xC ⟨(l34++[x55.Name]),(t35+1),hF,rfl,rfl⟩
 refine go ?_
 exact xC ⟨l34,t35,hF,rfl,rfl⟩
 obtain ⟨x39,h40,h51⟩:=bindO_some h51
 obtain ⟨x41,h42,h51⟩:=bindO_some h51
 obtain ⟨r43,h44,h51⟩:=bindO_some h51
 rcases gB h51 with ⟨h45,h51⟩ | ⟨h45,h51⟩
 obtain ⟨x46,h47,h51⟩:=bindO_some h51
 obtain ⟨r48,h49,h51⟩:=bindO_some h51
 obtain rfl:=sI h51
 refine WPU.drawE Try.tb_ok [] (by kernel_rfl) ?_
 refine gd ?_
 refine RD.ix h40 ?_
 refine gd ?_
 refine RD.q rfl (op_ia rfl rfl (ia_vl cS un59.h (sz_of if9.h) (by decide) len_cS (vo rfl) h42)) ?_
 refine RD.q rfl (ld_vec1 cS (fun x=>.str x) un9.h rfl (fun _=>rfl) rfl rfl h42) (RD.fl rfl (pC (ref03_Among_0 n x39.Supers x41 r43 h44)) fn67 ?_)
 refine gd ?_
 refine RD.ix h47 ?_
 refine gd ?_
 refine RD.call (u:=.bool r48) (args:=[.vl 0 t35 0 l34.length,.str x46.Name]) (want1 rfl rfl rfl h45) (op_call rfl rfl fn67 hb67 rfl rfl) (vw (ref03_Among_0 n l34 x46.Name r48 h49) (Gh.fzC 0 1)) rfl rfl ?_
 refine gd ?_
 refine RD.done ⟨by kernel_rfl,trivial,?_⟩
 refine go ?_
 exact xC ⟨rfl,rfl⟩
 obtain rfl:=sI h51
 refine WPU.drawE Try.tb_ok [] (by kernel_rfl) ?_
 refine gd ?_
 refine RD.ix h40 ?_
 refine gd ?_
 refine RD.q rfl (op_ia rfl rfl (ia_vl cS un59.h (sz_of if9.h) (by decide) len_cS (vo rfl) h42)) ?_
 refine RD.q rfl (ld_vec1 cS (fun x=>.str x) un9.h rfl (fun _=>rfl) rfl rfl h42) (RD.fl rfl (pC (ref03_Among_0 n x39.Supers x41 r43 h44)) fn67 ?_)
 refine gd ?_
 refine RD.done ⟨by kernel_rfl,trivial,?_⟩
 refine go ?_
 exact xC ⟨rfl,rfl⟩
 refine go ?_
 exact xC ⟨l34,t35,hF,rfl,rfl⟩
 refine go ?_
 exact xC ⟨l11,t12,hF,rfl,rfl⟩
def ref02_Normal_K1 (p1:List Int) (z5:Int):Option ((List Int)) :=
 bindO (cutO p1 0 z5) fun l6 =>
 needO (l6.length*8≤140737488355328∧l6.length≤140737488355328) (
 some l6)
def ref02_Normal_L1 (p1:List Int):Nat→Int→Option ((List Int))
 | 0,_=>none
 | m1+1,z4 =>
  bindO (cond (decide (z4 > 0))
   (bindO (idxO p1 (IntKind.i64.wrap (z4 - 1))) fun x12 =>
   some (x12 == 0))
   (some false)) fun b14 =>
  cond b14
   ((ref02_Normal_L1 p1 m1) (IntKind.i64.wrap (z4 - 1)))
   (ref02_Normal_K1 p1 z4)
def ref02_Normal (n:Nat) (p1:List Int):Option ((List Int)) :=
 ref02_Normal_L1 p1 n (p1.length:Int)
theorem ref02_Normal_0 (n:Nat) (p1:List Int) (r:(List Int)) (hF:ref02_Normal n p1=some r):EvU Try.prog 60 [.isl false (List.map (cI .u64) p1)] ⟨[],0⟩ (fun u _=>u = .isl false (List.map (cI .u64) r)∧Bel 0 u):=by
 unfold ref02_Normal at hF
 refine bg1 23 fn60 ?_
 refine go ?_
 refine gS (l':=[(0,_),(3,_)]) ?_
 refine WPU.loopK (fun m tm σ=>∃ z4:Int,ref02_Normal_L1 p1 m z4=some r∧tm=fr 23 [(0,.iM (cI .u64) p1),(3,.i6 z4)]∧σ=⟨[],0⟩) (fun tm σ=>∃ z5:Int,ref02_Normal_K1 p1 z5=some r∧tm=fr 23 [(0,.iM (cI .u64) p1),(3,.i6 z5)]∧σ=⟨[],0⟩) n ⟨(p1.length:Int),hF,rfl,rfl⟩ ?_ ?_
 rintro _ _ ⟨z5,hF,rfl,rfl⟩
 unfold ref02_Normal_K1 at hF
 obtain ⟨l6,h7,hF⟩:=bindO_some hF
 obtain ⟨h8,h9⟩:=cut_hi (cI .u64) .i64 h7
 obtain ⟨h10,hF⟩:=needO_some hF
 refine go ?_
 refine RS.q (u:=.sl 0 0 0 0) (σ':=⟨[(0,.row [] 125)],1⟩) rfl (op_bsl un87.h if125.h rfl rfl rfl rfl rfl rfl rfl) ?_
 refine go ?_
 refine RS.q (u:=.iM (cI .u64) l6) rfl (op_slice rfl em_n (em_s rfl) em_n (sl_isl (cI .u64) un87.h (sz_of if125.h) (len_cI .u64) h8 h9)) (RS.q (u:=.vl 1 0 0 l6.length) (σ':=⟨[(1,.vec (List.map (cI .u64) l6).flatten 125 1 0),(0,.row [] 125)],2⟩) rfl (op_app rfl rfl rfl rfl (app_emp (cI .u64) l6 un87.h un87.h if125.h rfl rfl rfl (src_isl (cI .u64) (len_cI .u64)) h10)) ?_)
 refine go ?_
 obtain rfl:=sI hF
 exact rT (us:=[.vl 1 0 0 l6.length]) (u:=.iM (cI .u64) l6) (res_t rfl (res_n)) (fR 1 1)
 rintro (_|m1) _ _ ⟨z4,hF,rfl,rfl⟩
 cases hF
 unfold ref02_Normal_L1 at hF
 obtain ⟨b14,h15,hF⟩:=bindO_some hF
 refine gn ?_
 refine WPU.joinK (fun tm σ=>tm=fr 23 [(0,.iM (cI .u64) p1),(3,.i6 z4),(15,.bool b14)]∧σ=⟨[],0⟩) ?_ ?_
 rintro _ _ ⟨rfl,rfl⟩
 refine go ?_
 refine cF hF (fun h16 hF=>?_) (fun h16 hF=>?_)
 refine go ?_
 refine WPU.block ?_
 refine go ?_
 exact lC ⟨_,hF,rfl,rfl⟩
 refine go ?_
 exact xC ⟨z4,hF,rfl,rfl⟩
 rcases gB h15 with ⟨h11,h15⟩ | ⟨h11,h15⟩
 obtain ⟨x12,h13,h15⟩:=bindO_some h15
 obtain rfl:=sI h15
 refine go ?_
 refine RS.ix h13 ?_
 refine go ?_
 exact xC ⟨rfl,rfl⟩
 exact gy h15
def ref02_Of_K1 (n:Nat) (l8:List Int):Option ((List Int)×Int) :=
 needO ((64:Int).toNat=l8.length) (
 bindO (ref02_Normal n l8) fun r10 =>
 some (r10,0))
def ref02_Of_L1 (p1:List Int) (n:Nat):Nat→Int→(List Int)→Option ((List Int)×Int)
 | 0,_,_=>none
 | m1+1,z6,l7 =>
  cond (decide (z6<(p1.length:Int)))
   (bindO (bindO (idxO p1 z6) fun x13 =>
   cond (decide (x13<0))
    (some true)
    (bindO (idxO p1 z6) fun x16 =>
    some (decide (x16 > 4095)))) fun b18 =>
   cond b18
    (some ([],2))
    (bindO (idxO p1 z6) fun x21 =>
    bindO (idxO p1 z6) fun x24 =>
    bindO (idxV l7 0 ((64:Int).toNat) (IntKind.i64.wrap (x24.tdiv 64))) fun x27 =>
    bindO (idxO p1 z6) fun x29 =>
    needO (¬ (IntKind.u64.wrap (x29.tmod 64))<0) (
    bindO (idxV l7 0 ((64:Int).toNat) (IntKind.i64.wrap (x21.tdiv 64))) fun x33 =>
    (ref02_Of_L1 p1 n m1) (IntKind.i64.wrap (z6+1)) (l7.set (IntKind.i64.wrap (x21.tdiv 64)).toNat (orI .u64 x27 (IntKind.u64.wrap (1*(2 ^ (min (IntKind.u64.wrap (x29.tmod 64)).toNat IntKind.u64.bits)))))))))
   (ref02_Of_K1 n l7)
def ref02_Of (n:Nat) (p1:List Int):Option ((List Int)×Int) :=
 needO (0≤(64:Int)∧8*(64:Int).toNat≤281474976710656∧(64:Int)≤281474976710656) (
 ref02_Of_L1 p1 n n 0 (List.replicate (64:Int).toNat 0))
theorem ref02_Of_0 (n:Nat) (p1:List Int) (r:(List Int)×Int) (hF:ref02_Of n p1=some r):EvU Try.prog 68 [.isl false (List.map (cI .i64) p1)] ⟨[],0⟩ (fun u _=>u = .tup [.isl false (List.map (cI .u64) r.1),.int .i64 r.2]∧Bel 0 u):=by
 unfold ref02_Of at hF
 refine bg1 50 fn68 ?_
 obtain ⟨h2,hF⟩:=needO_some hF
 refine go ?_
 refine RS.q (u:=.sl 0 0 ((64:Int).toNat) ((64:Int).toNat)) (σ':=⟨[(0,.row (List.map (cI .u64) (List.replicate (64:Int).toNat 0)).flatten 125)],1⟩) rfl (op_mks (cI .u64) 0 rfl rfl un87.h if125.h rfl rfl rfl rfl h2) ?_
 refine go ?_
 refine gS (l':=[(0,_),(4,_),(5,_)]) ?_
 refine WPU.loopK (fun m tm σ=>∃ z6:Int,∃ l7:List Int,ref02_Of_L1 p1 n m z6 l7=some r∧tm=fr 50 [(0,.iM (cI .i64) p1),(4,.sl 0 0 ((64:Int).toNat) ((64:Int).toNat)),(5,.i6 z6)]∧σ=⟨[(0,.row (List.map (cI .u64) l7).flatten 125)],1⟩) (fun tm σ=>∃ l8:List Int,ref02_Of_K1 n l8=some r∧tm=fr 50 [(4,.sl 0 0 ((64:Int).toNat) ((64:Int).toNat))]∧σ=⟨[(0,.row (List.map (cI .u64) l8).flatten 125)],1⟩) n ⟨0,(List.replicate (64:Int).toNat 0),hF,rfl,rfl⟩ ?_ ?_
 rintro _ _ ⟨l8,hF,rfl,rfl⟩
 unfold ref02_Of_K1 at hF
 obtain ⟨h9,hF⟩:=needO_some hF
 refine gn ?_
 refine WPU.ghost (tm':=fr 50 [(4,.iM (cI .u64) l8)]) (σ':=⟨[],1⟩) (Gh.trans (Gh.sub (l':=[(4,.sl 0 0 ((64:Int).toNat) ((64:Int).toNat))]) ⟨rfl,trivial⟩) (Gh.fzS (l':=[(4,.iM (cI .u64) l8)]) (h':=[]) 0 (.row (List.map (cI .u64) l8).flatten 125) 1 rfl (by simp) (by simp only [fzS,oneU,fzL_nil,fzL_cons,fz_int,fz_bool,fz_str,fz_nils,fz_nilp,fz_nilm,fz_nilf,fz_junk,fz_isl,fz_map,fz_agg,fz_tup,fz_fn,junkT,fz_rl (len_cI .u64) h9]) (by simp only [fzH,fzB,ug,Nat.beq,cond_true,cond_false,oneU,fzL_nil,fzL_cons,fz_int,fz_bool,fz_str,fz_nils,fz_nilp,fz_nilm,fz_nilf,fz_junk,fz_isl,fz_map,fz_agg,fz_tup,fz_fn,junkT,fz_rl (len_cI .u64) h9]))) NZ ?_
 obtain ⟨r10,h11,hF⟩:=bindO_some hF
 refine go ?_
 refine RS.cl rfl (pC (ref02_Normal_0 n l8 r10 h11) _) fn60 ?_
 refine go ?_
 obtain rfl:=sI hF
 exact rt2 rfl rfl rfl rfl rfl
 rintro (_|m1) _ _ ⟨z6,l7,hF,rfl,rfl⟩
 cases hF
 unfold ref02_Of_L1 at hF
 refine go ?_
 refine cF hF (fun h12 hF=>?_) (fun h12 hF=>?_)
 refine go ?_
 refine WPU.block ?_
 obtain ⟨b18,h19,hF⟩:=bindO_some hF
 refine gn ?_
 refine WPU.joinK (fun tm σ=>tm=fr 50 [(0,.iM (cI .i64) p1),(4,.sl 0 0 ((64:Int).toNat) ((64:Int).toNat)),(5,.i6 z6),(24,.bool b18)]∧σ=⟨[(0,.row (List.map (cI .u64) l7).flatten 125)],1⟩) ?_ ?_
 rintro _ _ ⟨rfl,rfl⟩
 refine go ?_
 refine cF hF (fun h20 hF=>?_) (fun h20 hF=>?_)
 refine go ?_
 obtain rfl:=sI hF
 exact rT (us:=[.nils,.i6 2]) (u:=.tup [.isl false [],.i6 2]) (res_t rfl (res_t rfl (res_n))) wR
 obtain ⟨x21,h22,hF⟩:=bindO_some hF
 obtain ⟨x24,h25,hF⟩:=bindO_some hF
 obtain ⟨x27,h28,hF⟩:=bindO_some hF
 obtain ⟨x29,h30,hF⟩:=bindO_some hF
 obtain ⟨h32,hF⟩:=needO_some hF
 obtain ⟨x33,h34,hF⟩:=bindO_some hF
 refine go ?_
 refine WPU.drawE Try.tb_ok [] (by kernel_rfl) ?_
 refine gd ?_
 refine RD.ix h22 ?_
 refine gd ?_
 refine RD.q rfl (op_int rfl rfl (ix_quo _ (by decide)) rfl) ?_
 refine gd ?_
 refine RD.ix h25 ?_
 refine gd ?_
 refine RD.q rfl (op_int rfl rfl (ix_quo _ (by decide)) rfl) ?_
 refine RD.q rfl (op_ia rfl rfl (ia_rl un87.h (sz_of if125.h) rfl h28)) (RD.q (u:=.int .u64 x27) rfl (ld_rl1 (cI .u64) (fun x=>.int .u64 x) un125.h rfl (fun _=>rfl) rfl rfl h28) ?_)
 refine gd ?_
 refine RD.ix h30 ?_
 refine gd ?_
 refine RD.q rfl (op_int rfl rfl (ix_rem _ (by decide)) rfl) ?_
 refine RD.q (u:=.int .u64 (IntKind.u64.wrap (x29.tmod 64))) rfl (op_conv rfl rfl (by simp only [convX,un3.h,un127.h]<;>rfl) rfl) ?_
 refine RD.q rfl (op_int rfl rfl (ix_shl _ h32) rfl) (RD.q rfl (op_int rfl rfl (ix_or _ _ _) rfl) (RD.q rfl (op_ia rfl rfl (ia_rl un87.h (sz_of if125.h) rfl h34)) (RD.actn (u:=.junk) (σ':=⟨[(0,.row (List.map (cI .u64) (l7.set (IntKind.i64.wrap (x21.tdiv 64)).toNat (orI .u64 x27 (IntKind.u64.wrap (1*(2 ^ (min (IntKind.u64.wrap (x29.tmod 64)).toNat IntKind.u64.bits))))))).flatten 125)],1⟩) rfl (st_rl (cI .u64) (sz_of if125.h) (len_cI .u64) rfl rfl rfl rfl rfl rfl h34 rfl) rfl ?_)))
 refine RD.done ⟨by kernel_rfl,trivial,?_⟩
 refine go ?_
 exact lC ⟨_,(l7.set (IntKind.i64.wrap (x21.tdiv 64)).toNat (orI .u64 x27 (IntKind.u64.wrap (1*(2 ^ (min (IntKind.u64.wrap (x29.tmod 64)).toNat IntKind.u64.bits)))))),hF,rfl,rfl⟩
 obtain ⟨x13,h14,h19⟩:=bindO_some h19
 rcases gB h19 with ⟨h15,h19⟩ | ⟨h15,h19⟩
 obtain rfl:=sI h19
 refine go ?_
 refine RS.ix h14 ?_
 refine go ?_
 exact xC ⟨rfl,rfl⟩
 obtain ⟨x16,h17,h19⟩:=bindO_some h19
 obtain rfl:=sI h19
 refine go ?_
 refine RS.ix h14 ?_
 refine go ?_
 refine RS.ix h17 ?_
 refine go ?_
 exact xC ⟨rfl,rfl⟩
 refine go ?_
 exact xC ⟨l7,hF,rfl,rfl⟩
def ref04_code_J2 (z11:Int) (rc1:Int→(List Int)→Option ((List Int))) (l24:List Int):Option ((List Int)) :=
 rc1 (IntKind.i64.wrap (z11+1)) l24
def ref04_code_K1 (n:Nat) (l14:List Int):Option ((List Int)) :=
 bindO (ref02_Of n l14) fun r16 =>
 some r16.1
def ref04_code_L1 (p2:List (List UInt8)) (n:Nat) (r4:(List (List UInt8))):Nat→Int→(List Int)→Option ((List Int))
 | 0,_,_=>none
 | m1+1,z11,l12 =>
  cond (decide (z11<(p2.length:Int)))
   (bindO (idxO p2 z11) fun x19 =>
   bindO (ref03_Among n r4 x19) fun r21 =>
   cond r21
    (needO ((l12.length+1)*8≤140737488355328∧l12.length+1≤140737488355328) (
    ref04_code_J2 z11 (ref04_code_L1 p2 n r4 m1) (l12++[z11])))
    (ref04_code_J2 z11 (ref04_code_L1 p2 n r4 m1) l12))
   (ref04_code_K1 n l12)
def ref04_code (n:Nat) (p1:List GTypeDecl) (p2:List (List UInt8)) (p3:List UInt8):Option ((List Int)) :=
 bindO (ref03_Below n p1 p3) fun r4 =>
 ref04_code_L1 p2 n r4 n 0 ([]:List Int)
theorem ref04_code_0 (n:Nat) (p1:List GTypeDecl) (p2:List (List UInt8)) (p3:List UInt8) (r:(List Int)) (hF:ref04_code n p1 p2 p3=some r):EvU Try.prog 45 [.isl false (List.map cGTypeDecl p1),.isl false (List.map cS p2),.str p3] ⟨[],0⟩ (fun u _=>u = .isl false (List.map (cI .u64) r)∧Bel 0 u):=by
 unfold ref04_code at hF
 refine bg3 37 fn45 ?_
 obtain ⟨r4,h5,hF⟩:=bindO_some hF
 refine go ?_
 refine RS.cl rfl (pC (ref03_Below_0 n p1 p3 r4 h5) _) fn66 ?_
 refine gr ?_
 refine gr ?_
 refine WPU.ghost (tm':=fr 37 [(1,.iM cS p2),(7,.iM cS r4),(8,.vl 0 0 0 (([]:List Int).length)),(9,.i6 0)]) (σ':=⟨[(0,.vec (List.map (cI .i64) ([]:List Int)).flatten 3 1 0)],1⟩) (Gh.trans (Gh.nilS 8 3 1 (by decide) NZ rfl rfl) (Gh.eqS ⟨rfl,rfl,rfl,rfl,trivial⟩ rfl)) NZ ?_
 refine gS (l':=[(1,_),(7,_),(8,_),(9,_)]) ?_
 refine WPU.loopK (fun m tm σ=>∃ z11:Int,∃ l12:List Int,∃ t13:Nat,ref04_code_L1 p2 n r4 m z11 l12=some r∧tm=fr 37 [(1,.iM cS p2),(7,.iM cS r4),(8,.vl 0 t13 0 l12.length),(9,.i6 z11)]∧σ=⟨[(0,.vec (List.map (cI .i64) l12).flatten 3 1 t13)],1⟩) (fun tm σ=>∃ l14:List Int,∃ t15:Nat,ref04_code_K1 n l14=some r∧tm=fr 37 [(8,.vl 0 t15 0 l14.length)]∧σ=⟨[(0,.vec (List.map (cI .i64) l14).flatten 3 1 t15)],1⟩) n ⟨0,([]:List Int),0,hF,rfl,rfl⟩ ?_ ?_
 rintro _ _ ⟨l14,t15,hF,rfl,rfl⟩
 unfold ref04_code_K1 at hF
 refine gn ?_
 refine WPU.ghost (tm':=fr 37 [(8,.iM (cI .i64) l14)]) (σ':=⟨[],1⟩) (Gh.trans (Gh.sub (l':=[(8,.vl 0 t15 0 l14.length)]) ⟨rfl,trivial⟩) (Gh.fzD 0 1)) NZ ?_
 obtain ⟨r16,h17,hF⟩:=bindO_some hF
 refine go ?_
 refine RS.cl rfl (pC (ref02_Of_0 n l14 r16 h17) _) fn68 ?_
 exact gx hF
 rintro (_|m1) _ _ ⟨z11,l12,t13,hF,rfl,rfl⟩
 cases hF
 unfold ref04_code_L1 at hF
 refine go ?_
 refine cF hF (fun h18 hF=>?_) (fun h18 hF=>?_)
 refine go ?_
 refine WPU.block ?_
 obtain ⟨x19,h20,hF⟩:=bindO_some hF
 obtain ⟨r21,h22,hF⟩:=bindO_some hF
 refine go ?_
 refine RS.ix h20 ?_
 refine go ?_
 refine RS.cl rfl (pC (ref03_Among_0 n r4 x19 r21 h22) _) fn67 ?_
 refine gn ?_
 refine WPU.joinK (fun tm σ=>∃ l24:List Int,∃ t25:Nat,ref04_code_J2 z11 (ref04_code_L1 p2 n r4 m1) l24=some r∧tm=fr 37 [(1,.iM cS p2),(7,.iM cS r4),(8,.vl 0 t25 0 l24.length),(9,.i6 z11)]∧σ=⟨[(0,.vec (List.map (cI .i64) l24).flatten 3 1 t25)],1⟩) ?_ ?_
 rintro _ _ ⟨l24,t25,hF,rfl,rfl⟩
 unfold ref04_code_J2 at hF
 refine go ?_
 exact lC ⟨_,l24,t25,hF,rfl,rfl⟩
 refine cF hF (fun h23 hF=>?_) (fun h23 hF=>?_)
 obtain ⟨h26,hF⟩:=needO_some hF
 refine go ?_
 refine RS.g ?_
 refine RS.g ?_
 refine go ?_
 exact xC ⟨(l12++[z11]),(t13+1),hF,rfl,rfl⟩
 refine go ?_
 exact xC ⟨l12,t13,hF,rfl,rfl⟩
 refine go ?_
 exact xC ⟨l12,t13,hF,rfl,rfl⟩
def ref02_word (n:Nat) (p1:List Int) (p2:Int):Option (Int) :=
 cond (decide (p2<(p1.length:Int)))
  (bindO (idxO p1 p2) fun x4 =>
  some x4)
  (some 0)
theorem ref02_word_0 (n:Nat) (p1:List Int) (p2:Int) (r:Int) (hF:ref02_word n p1 p2=some r):EvU Try.prog 78 [.isl false (List.map (cI .u64) p1),.int .i64 p2] ⟨[],0⟩ (fun u _=>u = .int .u64 r∧Bel 0 u):=by
 unfold ref02_word at hF
 refine bg2 13 fn78 ?_
 refine go ?_
 refine cF hF (fun h3 hF=>?_) (fun h3 hF=>?_)
 obtain ⟨x4,h5,hF⟩:=bindO_some hF
 refine go ?_
 refine RS.ix h5 ?_
 exact gx hF
 exact gx hF
def ref02_And_K1 (n:Nat) (l11:List Int):Option ((List Int)) :=
 bindO (ref02_Normal n l11) fun r13 =>
 some r13
def ref02_And_L1 (p1:List Int) (p2:List Int) (n:Nat):Nat→Int→(List Int)→Option ((List Int))
 | 0,_,_=>none
 | m1+1,z8,l9 =>
  cond (decide (z8<(p1.length:Int)))
   (bindO (idxO p1 z8) fun x16 =>
   bindO (ref02_word n p2 z8) fun r18 =>
   needO ((l9.length+1)*8≤140737488355328∧l9.length+1≤140737488355328) (
   (ref02_And_L1 p1 p2 n m1) (IntKind.i64.wrap (z8+1)) (l9++[(andI .u64 x16 r18)])))
   (ref02_And_K1 n l9)
def ref02_And (n:Nat) (p1:List Int) (p2:List Int):Option ((List Int)) :=
 ref02_And_L1 p1 p2 n n 0 ([]:List Int)
theorem ref02_And_0 (n:Nat) (p1:List Int) (p2:List Int) (r:(List Int)) (hF:ref02_And n p1 p2=some r):EvU Try.prog 59 [.isl false (List.map (cI .u64) p1),.isl false (List.map (cI .u64) p2)] ⟨[],0⟩ (fun u _=>u = .isl false (List.map (cI .u64) r)∧Bel 0 u):=by
 unfold ref02_And at hF
 refine bg2 26 fn59 ?_
 refine gr ?_
 refine gr ?_
 refine gr ?_
 refine WPU.ghost (tm':=fr 26 [(0,.iM (cI .u64) p1),(1,.iM (cI .u64) p2),(5,.vl 0 0 0 (([]:List Int).length)),(6,.i6 0)]) (σ':=⟨[(0,.vec (List.map (cI .u64) ([]:List Int)).flatten 125 1 0)],1⟩) (Gh.trans (Gh.nilS 5 125 1 (by decide) NZ rfl rfl) (Gh.eqS ⟨rfl,rfl,rfl,rfl,trivial⟩ rfl)) NZ ?_
 refine gS (l':=[(0,_),(1,_),(5,_),(6,_)]) ?_
 refine WPU.loopK (fun m tm σ=>∃ z8:Int,∃ l9:List Int,∃ t10:Nat,ref02_And_L1 p1 p2 n m z8 l9=some r∧tm=fr 26 [(0,.iM (cI .u64) p1),(1,.iM (cI .u64) p2),(5,.vl 0 t10 0 l9.length),(6,.i6 z8)]∧σ=⟨[(0,.vec (List.map (cI .u64) l9).flatten 125 1 t10)],1⟩) (fun tm σ=>∃ l11:List Int,∃ t12:Nat,ref02_And_K1 n l11=some r∧tm=fr 26 [(5,.vl 0 t12 0 l11.length)]∧σ=⟨[(0,.vec (List.map (cI .u64) l11).flatten 125 1 t12)],1⟩) n ⟨0,([]:List Int),0,hF,rfl,rfl⟩ ?_ ?_
 rintro _ _ ⟨l11,t12,hF,rfl,rfl⟩
 unfold ref02_And_K1 at hF
 refine gn ?_
 refine WPU.ghost (tm':=fr 26 [(5,.iM (cI .u64) l11)]) (σ':=⟨[],1⟩) (Gh.trans (Gh.sub (l':=[(5,.vl 0 t12 0 l11.length)]) ⟨rfl,trivial⟩) (Gh.fzD 0 1)) NZ ?_
 obtain ⟨r13,h14,hF⟩:=bindO_some hF
 refine go ?_
 refine RS.cl rfl (pC (ref02_Normal_0 n l11 r13 h14) _) fn60 ?_
 exact gx hF
 rintro (_|m1) _ _ ⟨z8,l9,t10,hF,rfl,rfl⟩
 cases hF
 unfold ref02_And_L1 at hF
 refine go ?_
 refine cF hF (fun h15 hF=>?_) (fun h15 hF=>?_)
 refine go ?_
 refine WPU.block ?_
 obtain ⟨x16,h17,hF⟩:=bindO_some hF
 obtain ⟨r18,h19,hF⟩:=bindO_some hF
 obtain ⟨h20,hF⟩:=needO_some hF
 refine go ?_
 refine WPU.drawE Try.tb_ok [(0,9)] (by kernel_rfl) ?_
 refine gd ?_
 refine RD.ix h17 ?_
 refine gd ?_
 refine RD.fl rfl (pC (ref02_word_0 n p2 z8 r18 h19)) fn78 (RD.q rfl (op_int rfl rfl (ix_and _ _ _) rfl) ?_)
 refine RD.g ?_
 refine RD.g ?_
 refine gd ?_
 refine RD.done ⟨by kernel_rfl,⟨op_move rfl,trivial⟩,?_⟩
 refine go ?_
 exact lC ⟨_,(l9++[(andI .u64 x16 r18)]),(t10+1),hF,rfl,rfl⟩
 refine go ?_
 exact xC ⟨l9,t10,hF,rfl,rfl⟩
def ref02_Same_K1   : Option (Bool) :=
 some true
def ref02_Same_L1 (p1:List Int) (p2:List Int):Nat→Int→Option (Bool)
 | 0,_=>none
 | m1+1,z7 =>
  cond (decide (z7<(p1.length:Int)))
   (bindO (idxO p1 z7) fun x9 =>
   bindO (idxO p2 z7) fun x11 =>
   cond (x9 != x11)
    (some false)
    ((ref02_Same_L1 p1 p2 m1) (IntKind.i64.wrap (z7+1))))
   (ref02_Same_K1)
def ref02_Same (n:Nat) (p1:List Int) (p2:List Int):Option (Bool) :=
 cond ((p1.length:Int) != (p2.length:Int))
  (some false)
  (ref02_Same_L1 p1 p2 n 0)
theorem ref02_Same_0 (n:Nat) (p1:List Int) (p2:List Int) (r:Bool) (hF:ref02_Same n p1 p2=some r):EvU Try.prog 61 [.isl false (List.map (cI .u64) p1),.isl false (List.map (cI .u64) p2)] ⟨[],0⟩ (fun u _=>u = .bool r∧Bel 0 u):=by
 unfold ref02_Same at hF
 refine bg2 26 fn61 ?_
 refine go ?_
 refine cF hF (fun h3 hF=>?_) (fun h3 hF=>?_)
 exact gx hF
 refine go ?_
 refine gS (l':=[(0,_),(1,_),(5,_)]) ?_
 refine WPU.loopK (fun m tm σ=>∃ z7:Int,ref02_Same_L1 p1 p2 m z7=some r∧tm=fr 26 [(0,.iM (cI .u64) p1),(1,.iM (cI .u64) p2),(5,.i6 z7)]∧σ=⟨[],0⟩) (fun tm σ=>ref02_Same_K1=some r∧tm=fr 26 []∧σ=⟨[],0⟩) n ⟨0,hF,rfl,rfl⟩ ?_ ?_
 rintro _ _ ⟨hF,rfl,rfl⟩
 unfold ref02_Same_K1 at hF
 exact gx hF
 rintro (_|m1) _ _ ⟨z7,hF,rfl,rfl⟩
 cases hF
 unfold ref02_Same_L1 at hF
 refine go ?_
 refine cF hF (fun h8 hF=>?_) (fun h8 hF=>?_)
 refine go ?_
 refine WPU.block ?_
 obtain ⟨x9,h10,hF⟩:=bindO_some hF
 obtain ⟨x11,h12,hF⟩:=bindO_some hF
 refine go ?_
 refine WPU.drawE Try.tb_ok [] (by kernel_rfl) ?_
 refine gd ?_
 refine RD.ix h10 ?_
 refine gd ?_
 refine RD.ix h12 ?_
 refine gd ?_
 refine RD.done ⟨by kernel_rfl,trivial,?_⟩
 refine go ?_
 refine cF hF (fun h13 hF=>?_) (fun h13 hF=>?_)
 exact gx hF
 refine go ?_
 exact lC ⟨_,hF,rfl,rfl⟩
 refine go ?_
 exact xC ⟨hF,rfl,rfl⟩
def ref04_in_K1   : Option (Bool) :=
 some false
def ref04_in_L1 (p1:List (List Int)) (p2:List Int) (n:Nat):Nat→Int→Option (Bool)
 | 0,_=>none
 | m1+1,z6 =>
  cond (decide (z6<(p1.length:Int)))
   (bindO (idxO p1 z6) fun x8 =>
   bindO (ref02_Same n x8 p2) fun r10 =>
   cond r10
    (some true)
    ((ref04_in_L1 p1 p2 n m1) (IntKind.i64.wrap (z6+1))))
   (ref04_in_K1)
def ref04_in (n:Nat) (p1:List (List Int)) (p2:List Int):Option (Bool) :=
 ref04_in_L1 p1 p2 n n 0
theorem ref04_in_0 (n:Nat) (p1:List (List Int)) (p2:List Int) (r:Bool) (hF:ref04_in n p1 p2=some r):EvU Try.prog 69 [.isl false (List.map (cL (cI .u64)) p1),.isl false (List.map (cI .u64) p2)] ⟨[],0⟩ (fun u _=>u = .bool r∧Bel 0 u):=by
 unfold ref04_in at hF
 refine bg2 18 fn69 ?_
 refine go ?_
 refine gS (l':=[(0,_),(1,_),(5,_)]) ?_
 refine WPU.loopK (fun m tm σ=>∃ z6:Int,ref04_in_L1 p1 p2 n m z6=some r∧tm=fr 18 [(0,.iM (cL (cI .u64)) p1),(1,.iM (cI .u64) p2),(5,.i6 z6)]∧σ=⟨[],0⟩) (fun tm σ=>ref04_in_K1=some r∧tm=fr 18 []∧σ=⟨[],0⟩) n ⟨0,hF,rfl,rfl⟩ ?_ ?_
 rintro _ _ ⟨hF,rfl,rfl⟩
 unfold ref04_in_K1 at hF
 exact gx hF
 rintro (_|m1) _ _ ⟨z6,hF,rfl,rfl⟩
 cases hF
 unfold ref04_in_L1 at hF
 refine go ?_
 refine cF hF (fun h7 hF=>?_) (fun h7 hF=>?_)
 refine go ?_
 refine WPU.block ?_
 obtain ⟨x8,h9,hF⟩:=bindO_some hF
 obtain ⟨r10,h11,hF⟩:=bindO_some hF
 refine go ?_
 refine RS.ix h9 ?_
 refine go ?_
 refine RS.cl rfl (pC (ref02_Same_0 n x8 p2 r10 h11) _) fn61 ?_
 refine go ?_
 refine cF hF (fun h12 hF=>?_) (fun h12 hF=>?_)
 exact gx hF
 refine go ?_
 exact lC ⟨_,hF,rfl,rfl⟩
 refine go ?_
 exact xC ⟨hF,rfl,rfl⟩
def ref04_family_J3 (z19:Int) (rc2:Int→(List (List Int))→Option ((List (List Int)))) (l40:List (List Int)):Option ((List (List Int))) :=
 rc2 (IntKind.i64.wrap (z19+1)) l40
def ref04_family_K2 (z6:Int) (rc1:Int→(List (List Int))→Option ((List (List Int)))) (l22:List (List Int)):Option ((List (List Int))) :=
 rc1 (IntKind.i64.wrap (z6+1)) l22
def ref04_family_L2 (n:Nat) (z6:Int) (rc1:Int→(List (List Int))→Option ((List (List Int)))):Nat→Int→(List (List Int))→Option ((List (List Int)))
 | 0,_,_=>none
 | m2+1,z19,l20 =>
  bindO (cond (decide (z19<z6))
   (some (decide ((l20.length:Int)≤256)))
   (some false)) fun b25 =>
  cond b25
   (bindO (idxO l20 z6) fun x28 =>
   bindO (idxO l20 z19) fun x30 =>
   bindO (ref02_And n x28 x30) fun r32 =>
   bindO (cond (decide ((r32.length:Int) > 0))
    (bindO (ref04_in n l20 r32) fun r35 =>
    some (!r35))
    (some false)) fun b37 =>
   cond b37
    (needO ((l20.length+1)*24≤140737488355328∧l20.length+1≤140737488355328) (
    ref04_family_J3 z19 (ref04_family_L2 n z6 rc1 m2) (l20++[r32])))
    (ref04_family_J3 z19 (ref04_family_L2 n z6 rc1 m2) l20))
   (ref04_family_K2 z6 rc1 l20)
def ref04_family_K1  (l9:List (List Int)):Option ((List (List Int))) :=
 some l9
def ref04_family_L1 (n:Nat):Nat→Int→(List (List Int))→Option ((List (List Int)))
 | 0,_,_=>none
 | m1+1,z6,l7 =>
  bindO (cond (decide (z6<(l7.length:Int)))
   (some (decide ((l7.length:Int)≤256)))
   (some false)) fun b12 =>
  cond b12
   (ref04_family_L2 n z6 (ref04_family_L1 n m1) n 0 l7)
   (ref04_family_K1 l7)
def ref04_family (n:Nat) (p1:List (List Int)):Option ((List (List Int))) :=
 needO (p1.length*24≤140737488355328∧p1.length≤140737488355328) (
 ref04_family_L1 n n 0 p1)
theorem ref04_family_0 (n:Nat) (p1:List (List Int)) (r:(List (List Int))) (hF:ref04_family n p1=some r):EvU Try.prog 46 [.isl false (List.map (cL (cI .u64)) p1)] ⟨[],0⟩ (fun u _=>u = .isl false (List.map (cL (cI .u64)) r)∧Bel 0 u):=by
 unfold ref04_family at hF
 refine bg1 54 fn46 ?_
 obtain ⟨h2,hF⟩:=needO_some hF
 refine go ?_
 refine RS.q (u:=.sl 0 0 0 0) (σ':=⟨[(0,.row [] 87)],1⟩) rfl (op_bsl un114.h if87.h rfl rfl rfl rfl rfl rfl rfl) ?_
 refine go ?_
 refine RS.q (u:=.vl 1 0 0 p1.length) (σ':=⟨[(1,.vec (List.map (cL (cI .u64)) p1).flatten 87 1 0),(0,.row [] 87)],2⟩) rfl (op_app rfl rfl rfl rfl (app_emp (cL (cI .u64)) p1 un114.h un114.h if87.h rfl rfl rfl (src_isl (cL (cI .u64)) (len_cL (cI .u64))) h2)) ?_
 refine go ?_
 refine gS (l':=[(3,_),(4,_)]) ?_
 refine WPU.loopK (fun m tm σ=>∃ z6:Int,∃ l7:List (List Int),∃ t8:Nat,ref04_family_L1 n m z6 l7=some r∧tm=fr 54 [(3,.vl 1 t8 0 l7.length),(4,.i6 z6)]∧σ=⟨[(1,.vec (List.map (cL (cI .u64)) l7).flatten 87 1 t8),(0,.row [] 87)],2⟩) (fun tm σ=>∃ l9:List (List Int),∃ t10:Nat,ref04_family_K1 l9=some r∧tm=fr 54 [(3,.vl 1 t10 0 l9.length)]∧σ=⟨[(1,.vec (List.map (cL (cI .u64)) l9).flatten 87 1 t10),(0,.row [] 87)],2⟩) n ⟨0,p1,0,hF,rfl,rfl⟩ ?_ ?_
 rintro _ _ ⟨l9,t10,hF,rfl,rfl⟩
 unfold ref04_family_K1 at hF
 refine go ?_
 obtain rfl:=sI hF
 exact rT (us:=[.vl 1 t10 0 l9.length]) (u:=.iM (cL (cI .u64)) l9) (res_t rfl (res_n)) (fR 1 1)
 rintro (_|m1) _ _ ⟨z6,l7,t8,hF,rfl,rfl⟩
 cases hF
 unfold ref04_family_L1 at hF
 obtain ⟨b12,h13,hF⟩:=bindO_some hF
 refine gn ?_
 refine WPU.joinK (fun tm σ=>tm=fr 54 [(3,.vl 1 t8 0 l7.length),(4,.i6 z6),(18,.bool b12)]∧σ=⟨[(1,.vec (List.map (cL (cI .u64)) l7).flatten 87 1 t8),(0,.row [] 87)],2⟩) ?_ ?_
 rintro _ _ ⟨rfl,rfl⟩
 refine go ?_
 refine cF hF (fun h14 hF=>?_) (fun h14 hF=>?_)
 refine go ?_
 refine WPU.block ?_
 refine go ?_
 refine gS (l':=[(3,_),(4,_),(5,_)]) ?_
 refine WPU.loopK (fun m tm σ=>∃ z19:Int,∃ l20:List (List Int),∃ t21:Nat,ref04_family_L2 n z6 (ref04_family_L1 n m1) m z19 l20=some r∧tm=fr 54 [(3,.vl 1 t21 0 l20.length),(4,.i6 z6),(5,.i6 z19)]∧σ=⟨[(1,.vec (List.map (cL (cI .u64)) l20).flatten 87 1 t21),(0,.row [] 87)],2⟩) (fun tm σ=>∃ l22:List (List Int),∃ t23:Nat,ref04_family_K2 z6 (ref04_family_L1 n m1) l22=some r∧tm=fr 54 [(3,.vl 1 t23 0 l22.length),(4,.i6 z6)]∧σ=⟨[(1,.vec (List.map (cL (cI .u64)) l22).flatten 87 1 t23),(0,.row [] 87)],2⟩) n ⟨0,l7,t8,hF,rfl,rfl⟩ ?_ ?_
 rintro _ _ ⟨l22,t23,hF,rfl,rfl⟩
 unfold ref04_family_K2 at hF
 refine go ?_
 exact lC ⟨_,l22,t23,hF,rfl,rfl⟩
 rintro (_|m2) _ _ ⟨z19,l20,t21,hF,rfl,rfl⟩
 cases hF
 unfold ref04_family_L2 at hF
 obtain ⟨b25,h26,hF⟩:=bindO_some hF
 refine gn ?_
 refine WPU.joinK (fun tm σ=>tm=fr 54 [(3,.vl 1 t21 0 l20.length),(4,.i6 z6),(5,.i6 z19),(28,.bool b25)]∧σ=⟨[(1,.vec (List.map (cL (cI .u64)) l20).flatten 87 1 t21),(0,.row [] 87)],2⟩) ?_ ?_
 rintro _ _ ⟨rfl,rfl⟩
 refine go ?_
 refine cF hF (fun h27 hF=>?_) (fun h27 hF=>?_)
 refine go ?_
 refine WPU.block ?_
 obtain ⟨x28,h29,hF⟩:=bindO_some hF
 obtain ⟨x30,h31,hF⟩:=bindO_some hF
 obtain ⟨r32,h33,hF⟩:=bindO_some hF
 refine go ?_
 refine WPU.drawE Try.tb_ok [] (by kernel_rfl) ?_
 refine gd ?_
 refine RD.q rfl (op_ia rfl rfl (ia_vl (cL (cI .u64)) un114.h (sz_of if87.h) (by decide) (len_cL (cI .u64)) (vo rfl) h29)) ?_
 refine RD.q rfl (ld_vec1 (cL (cI .u64)) (fun x=>.iM (cI .u64) x) un87.h rfl (fun _=>rfl) rfl rfl h29) ?_
 refine gd ?_
 refine RD.q rfl (op_ia rfl rfl (ia_vl (cL (cI .u64)) un114.h (sz_of if87.h) (by decide) (len_cL (cI .u64)) (vo rfl) h31)) ?_
 refine RD.q rfl (ld_vec1 (cL (cI .u64)) (fun x=>.iM (cI .u64) x) un87.h rfl (fun _=>rfl) rfl rfl h31) (RD.fl rfl (pC (ref02_And_0 n x28 x30 r32 h33)) fn59 ?_)
 refine gd ?_
 refine RD.done ⟨by kernel_rfl,trivial,?_⟩
 obtain ⟨b37,h38,hF⟩:=bindO_some hF
 refine gn ?_
 refine WPU.joinK (fun tm σ=>tm=fr 54 [(3,.vl 1 t21 0 l20.length),(4,.i6 z6),(5,.i6 z19),(6,.iM (cI .u64) r32),(48,.bool b37)]∧σ=⟨[(1,.vec (List.map (cL (cI .u64)) l20).flatten 87 1 t21),(0,.row [] 87)],2⟩) ?_ ?_
 rintro _ _ ⟨rfl,rfl⟩
 refine gn ?_
 refine WPU.joinK (fun tm σ=>∃ l40:List (List Int),∃ t41:Nat,ref04_family_J3 z19 (ref04_family_L2 n z6 (ref04_family_L1 n m1) m2) l40=some r∧tm=fr 54 [(3,.vl 1 t41 0 l40.length),(4,.i6 z6),(5,.i6 z19)]∧σ=⟨[(1,.vec (List.map (cL (cI .u64)) l40).flatten 87 1 t41),(0,.row [] 87)],2⟩) ?_ ?_
 rintro _ _ ⟨l40,t41,hF,rfl,rfl⟩
 unfold ref04_family_J3 at hF
 refine go ?_
 exact lC ⟨_,l40,t41,hF,rfl,rfl⟩
 refine cF hF (fun h39 hF=>?_) (fun h39 hF=>?_)
 obtain ⟨h42,hF⟩:=needO_some hF
 refine go ?_
 refine RS.g ?_
 refine RS.g ?_
 refine go ?_
 exact xC ⟨(l20++[r32]),(t21+1),hF,rfl,rfl⟩
 refine go ?_
 exact xC ⟨l20,t21,hF,rfl,rfl⟩
 rcases gB h38 with ⟨h34,h38⟩ | ⟨h34,h38⟩
 obtain ⟨r35,h36,h38⟩:=bindO_some h38
 obtain rfl:=sI h38
 refine go ?_
 refine RS.cl rfl (vw (ref04_in_0 n l20 r32 r35 h36) (Gh.fzC 1 1)) fn69 ?_
 refine go ?_
 exact xC ⟨rfl,rfl⟩
 exact gy h38
 refine go ?_
 exact xC ⟨l20,t21,hF,rfl,rfl⟩
 rcases gB h26 with ⟨h24,h26⟩ | ⟨h24,h26⟩
 exact gy h26
 exact gy h26
 refine go ?_
 exact xC ⟨l7,t8,hF,rfl,rfl⟩
 rcases gB h13 with ⟨h11,h13⟩ | ⟨h11,h13⟩
 exact gy h13
 exact gy h13
def ref02_Minus_K1 (n:Nat) (l11:List Int):Option ((List Int)) :=
 bindO (ref02_Normal n l11) fun r13 =>
 some r13
def ref02_Minus_L1 (p1:List Int) (p2:List Int) (n:Nat):Nat→Int→(List Int)→Option ((List Int))
 | 0,_,_=>none
 | m1+1,z8,l9 =>
  cond (decide (z8<(p1.length:Int)))
   (bindO (idxO p1 z8) fun x16 =>
   bindO (ref02_word n p2 z8) fun r18 =>
   needO ((l9.length+1)*8≤140737488355328∧l9.length+1≤140737488355328) (
   (ref02_Minus_L1 p1 p2 n m1) (IntKind.i64.wrap (z8+1)) (l9++[(andNotI .u64 x16 r18)])))
   (ref02_Minus_K1 n l9)
def ref02_Minus (n:Nat) (p1:List Int) (p2:List Int):Option ((List Int)) :=
 ref02_Minus_L1 p1 p2 n n 0 ([]:List Int)
theorem ref02_Minus_0 (n:Nat) (p1:List Int) (p2:List Int) (r:(List Int)) (hF:ref02_Minus n p1 p2=some r):EvU Try.prog 85 [.isl false (List.map (cI .u64) p1),.isl false (List.map (cI .u64) p2)] ⟨[],0⟩ (fun u _=>u = .isl false (List.map (cI .u64) r)∧Bel 0 u):=by
 unfold ref02_Minus at hF
 refine bg2 26 fn85 ?_
 refine gr ?_
 refine gr ?_
 refine gr ?_
 refine WPU.ghost (tm':=fr 26 [(0,.iM (cI .u64) p1),(1,.iM (cI .u64) p2),(5,.vl 0 0 0 (([]:List Int).length)),(6,.i6 0)]) (σ':=⟨[(0,.vec (List.map (cI .u64) ([]:List Int)).flatten 125 1 0)],1⟩) (Gh.trans (Gh.nilS 5 125 1 (by decide) NZ rfl rfl) (Gh.eqS ⟨rfl,rfl,rfl,rfl,trivial⟩ rfl)) NZ ?_
 refine gS (l':=[(0,_),(1,_),(5,_),(6,_)]) ?_
 refine WPU.loopK (fun m tm σ=>∃ z8:Int,∃ l9:List Int,∃ t10:Nat,ref02_Minus_L1 p1 p2 n m z8 l9=some r∧tm=fr 26 [(0,.iM (cI .u64) p1),(1,.iM (cI .u64) p2),(5,.vl 0 t10 0 l9.length),(6,.i6 z8)]∧σ=⟨[(0,.vec (List.map (cI .u64) l9).flatten 125 1 t10)],1⟩) (fun tm σ=>∃ l11:List Int,∃ t12:Nat,ref02_Minus_K1 n l11=some r∧tm=fr 26 [(5,.vl 0 t12 0 l11.length)]∧σ=⟨[(0,.vec (List.map (cI .u64) l11).flatten 125 1 t12)],1⟩) n ⟨0,([]:List Int),0,hF,rfl,rfl⟩ ?_ ?_
 rintro _ _ ⟨l11,t12,hF,rfl,rfl⟩
 unfold ref02_Minus_K1 at hF
 refine gn ?_
 refine WPU.ghost (tm':=fr 26 [(5,.iM (cI .u64) l11)]) (σ':=⟨[],1⟩) (Gh.trans (Gh.sub (l':=[(5,.vl 0 t12 0 l11.length)]) ⟨rfl,trivial⟩) (Gh.fzD 0 1)) NZ ?_
 obtain ⟨r13,h14,hF⟩:=bindO_some hF
 refine go ?_
 refine RS.cl rfl (pC (ref02_Normal_0 n l11 r13 h14) _) fn60 ?_
 exact gx hF
 rintro (_|m1) _ _ ⟨z8,l9,t10,hF,rfl,rfl⟩
 cases hF
 unfold ref02_Minus_L1 at hF
 refine go ?_
 refine cF hF (fun h15 hF=>?_) (fun h15 hF=>?_)
 refine go ?_
 refine WPU.block ?_
 obtain ⟨x16,h17,hF⟩:=bindO_some hF
 obtain ⟨r18,h19,hF⟩:=bindO_some hF
 obtain ⟨h20,hF⟩:=needO_some hF
 refine go ?_
 refine WPU.drawE Try.tb_ok [(0,9)] (by kernel_rfl) ?_
 refine gd ?_
 refine RD.ix h17 ?_
 refine gd ?_
 refine RD.fl rfl (pC (ref02_word_0 n p2 z8 r18 h19)) fn78 (RD.q rfl (op_int rfl rfl (ix_andNot _ _ _) rfl) ?_)
 refine RD.g ?_
 refine RD.g ?_
 refine gd ?_
 refine RD.done ⟨by kernel_rfl,⟨op_move rfl,trivial⟩,?_⟩
 refine go ?_
 exact lC ⟨_,(l9++[(andNotI .u64 x16 r18)]),(t10+1),hF,rfl,rfl⟩
 refine go ?_
 exact xC ⟨l9,t10,hF,rfl,rfl⟩
def ref02_Subset (n:Nat) (p1:List Int) (p2:List Int):Option (Bool) :=
 bindO (ref02_Minus n p1 p2) fun r3 =>
 some ((r3.length:Int) == 0)
theorem ref02_Subset_0 (n:Nat) (p1:List Int) (p2:List Int) (r:Bool) (hF:ref02_Subset n p1 p2=some r):EvU Try.prog 74 [.isl false (List.map (cI .u64) p1),.isl false (List.map (cI .u64) p2)] ⟨[],0⟩ (fun u _=>u = .bool r∧Bel 0 u):=by
 unfold ref02_Subset at hF
 refine bg2 10 fn74 ?_
 obtain ⟨r3,h4,hF⟩:=bindO_some hF
 refine go ?_
 refine RS.cl rfl (pC (ref02_Minus_0 n p1 p2 r3 h4) _) fn85 ?_
 exact gx hF
def ref02_Equal (n:Nat) (p1:List Int) (p2:List Int):Option (Bool) :=
 bindO (bindO (ref02_Subset n p1 p2) fun r3 =>
 cond r3
  (bindO (ref02_Subset n p2 p1) fun r6 =>
  some r6)
  (some false)) fun b8 =>
 some b8
theorem ref02_Equal_0 (n:Nat) (p1:List Int) (p2:List Int) (r:Bool) (hF:ref02_Equal n p1 p2=some r):EvU Try.prog 70 [.isl false (List.map (cI .u64) p1),.isl false (List.map (cI .u64) p2)] ⟨[],0⟩ (fun u _=>u = .bool r∧Bel 0 u):=by
 unfold ref02_Equal at hF
 refine bg2 13 fn70 ?_
 obtain ⟨b8,h9,hF⟩:=bindO_some hF
 refine gr ?_
 refine WPU.joinK (fun tm σ=>tm=fr 13 [(4,.bool b8)]∧σ=⟨[],0⟩) ?_ ?_
 rintro _ _ ⟨rfl,rfl⟩
 exact gx hF
 obtain ⟨r3,h4,h9⟩:=bindO_some h9
 rcases gB h9 with ⟨h5,h9⟩ | ⟨h5,h9⟩
 obtain ⟨r6,h7,h9⟩:=bindO_some h9
 obtain rfl:=sI h9
 refine go ?_
 refine RS.cl rfl (pC (ref02_Subset_0 n p1 p2 r3 h4) _) fn74 ?_
 refine go ?_
 refine RS.cl rfl (pC (ref02_Subset_0 n p2 p1 r6 h7) _) fn74 ?_
 refine go ?_
 exact xC ⟨rfl,rfl⟩
 obtain rfl:=sI h9
 refine go ?_
 refine RS.cl rfl (pC (ref02_Subset_0 n p1 p2 r3 h4) _) fn74 ?_
 refine go ?_
 exact xC ⟨rfl,rfl⟩
def ref02_Has (n:Nat) (p1:List Int) (p2:Int):Option (Bool) :=
 bindO (cond (decide (p2<0))
  (some true)
  (some (decide ((IntKind.i64.wrap (p2.tdiv 64)) ≥ (p1.length:Int))))) fun b5 =>
 cond b5
  (some false)
  (bindO (idxO p1 (IntKind.i64.wrap (p2.tdiv 64))) fun x9 =>
  needO (¬ (IntKind.u64.wrap (p2.tmod 64))<0) (
  some ((andI .u64 (x9.fdiv (2 ^ (min (IntKind.u64.wrap (p2.tmod 64)).toNat IntKind.u64.bits))) 1) == 1)))
theorem ref02_Has_0 (n:Nat) (p1:List Int) (p2:Int) (r:Bool) (hF:ref02_Has n p1 p2=some r):EvU Try.prog 71 [.isl false (List.map (cI .u64) p1),.int .i64 p2] ⟨[],0⟩ (fun u _=>u = .bool r∧Bel 0 u):=by
 unfold ref02_Has at hF
 refine bg2 25 fn71 ?_
 obtain ⟨b5,h6,hF⟩:=bindO_some hF
 refine gr ?_
 refine WPU.joinK (fun tm σ=>tm=fr 25 [(0,.iM (cI .u64) p1),(1,.i6 p2),(13,.bool b5)]∧σ=⟨[],0⟩) ?_ ?_
 rintro _ _ ⟨rfl,rfl⟩
 refine go ?_
 refine cF hF (fun h7 hF=>?_) (fun h7 hF=>?_)
 exact gx hF
 obtain ⟨x9,h10,hF⟩:=bindO_some hF
 obtain ⟨h12,hF⟩:=needO_some hF
 refine go ?_
 refine RS.q rfl (op_int rfl rfl (ix_quo _ (by decide)) rfl) ?_
 refine RS.ix h10 ?_
 refine go ?_
 refine RS.q rfl (op_int rfl rfl (ix_rem _ (by decide)) rfl) ?_
 refine RS.q (u:=.int .u64 (IntKind.u64.wrap (p2.tmod 64))) rfl (op_conv rfl rfl (by simp only [convX,un3.h,un127.h]<;>rfl) rfl) ?_
 refine RS.q rfl (op_int rfl rfl (ix_shr _ h12) rfl) (RS.q rfl (op_int rfl rfl (ix_and _ _ _) rfl) ?_)
 exact gx hF
 rcases gB h6 with ⟨h3,h6⟩ | ⟨h3,h6⟩
 exact gy h6
 obtain rfl:=sI h6
 refine go ?_
 refine RS.w rfl (op_int rfl rfl (ix_quo _ (by decide)) rfl) ?_
 refine go ?_
 exact xC ⟨rfl,rfl⟩
def ref03_declared_J2 (z8:Int) (rc1:(List (List UInt8))→Int→Option ((List (List UInt8)))) (l16:List (List UInt8)):Option ((List (List UInt8))) :=
 rc1 l16 (IntKind.i64.wrap (z8+1))
def ref03_declared_K1  (l9:List (List UInt8)):Option ((List (List UInt8))) :=
 some l9
def ref03_declared_L1 (p1:List GTypeDecl) (p2:List (List UInt8)) (n:Nat):Nat→(List (List UInt8))→Int→Option ((List (List UInt8)))
 | 0,_,_=>none
 | m1+1,l7,z8 =>
  cond (decide (z8<(p2.length:Int)))
   (bindO (idxO p2 z8) fun x11 =>
   bindO (ref03_find n p1 x11) fun r13 =>
   cond (decide (r13 ≥ 0))
    (bindO (idxO p2 z8) fun x17 =>
    bindO (ref03_Put n l7 x17) fun r19 =>
    ref03_declared_J2 z8 (ref03_declared_L1 p1 p2 n m1) r19)
    (ref03_declared_J2 z8 (ref03_declared_L1 p1 p2 n m1) l7))
   (ref03_declared_K1 l7)
def ref03_declared (n:Nat) (p1:List GTypeDecl) (p2:List (List UInt8)):Option ((List (List UInt8))) :=
 ref03_declared_L1 p1 p2 n n [] 0
theorem ref03_declared_0 (n:Nat) (p1:List GTypeDecl) (p2:List (List UInt8)) (r:(List (List UInt8))) (hF:ref03_declared n p1 p2=some r):EvU Try.prog 82 [.isl false (List.map cGTypeDecl p1),.isl false (List.map cS p2)] ⟨[],0⟩ (fun u _=>u = .isl false (List.map cS r)∧Bel 0 u):=by
 unfold ref03_declared at hF
 refine bg2 27 fn82 ?_
 refine gr ?_
 refine gr ?_
 refine gr ?_
 refine WPU.ghost (tm':=fr 27 [(0,.iM cGTypeDecl p1),(1,.iM cS p2),(5,.iM cS []),(6,.i6 0)]) (Gh.trans (Gh.sub (l':=[(0,.iM cGTypeDecl p1),(1,.iM cS p2),(5,.nils),(6,.i6 0)]) ⟨rfl,rfl,rfl,rfl,trivial⟩) (Gh.wkS (l':=[(0,.iM cGTypeDecl p1),(1,.iM cS p2),(5,.iM cS []),(6,.i6 0)]) (.cons (.refl _) (.cons (.refl _) (.cons (.nil false) (.cons (.refl _) .nil)))))) NZ ?_
 refine gS (l':=[(0,_),(1,_),(5,_),(6,_)]) ?_
 refine WPU.loopK (fun m tm σ=>∃ l7:List (List UInt8),∃ z8:Int,ref03_declared_L1 p1 p2 n m l7 z8=some r∧tm=fr 27 [(0,.iM cGTypeDecl p1),(1,.iM cS p2),(5,.iM cS l7),(6,.i6 z8)]∧σ=⟨[],0⟩) (fun tm σ=>∃ l9:List (List UInt8),ref03_declared_K1 l9=some r∧tm=fr 27 [(5,.iM cS l9)]∧σ=⟨[],0⟩) n ⟨[],0,hF,rfl,rfl⟩ ?_ ?_
 rintro _ _ ⟨l9,hF,rfl,rfl⟩
 unfold ref03_declared_K1 at hF
 exact gx hF
 rintro (_|m1) _ _ ⟨l7,z8,hF,rfl,rfl⟩
 cases hF
 unfold ref03_declared_L1 at hF
 refine go ?_
 refine cF hF (fun h10 hF=>?_) (fun h10 hF=>?_)
 refine go ?_
 refine WPU.block ?_
 obtain ⟨x11,h12,hF⟩:=bindO_some hF
 obtain ⟨r13,h14,hF⟩:=bindO_some hF
 refine go ?_
 refine RS.ix h12 ?_
 refine go ?_
 refine RS.cl rfl (pC (ref03_find_0 n p1 x11 r13 h14) _) fn80 ?_
 refine gn ?_
 refine WPU.joinK (fun tm σ=>∃ l16:List (List UInt8),ref03_declared_J2 z8 (ref03_declared_L1 p1 p2 n m1) l16=some r∧tm=fr 27 [(0,.iM cGTypeDecl p1),(1,.iM cS p2),(5,.iM cS l16),(6,.i6 z8)]∧σ=⟨[],0⟩) ?_ ?_
 rintro _ _ ⟨l16,hF,rfl,rfl⟩
 unfold ref03_declared_J2 at hF
 refine go ?_
 exact lC ⟨l16,(IntKind.i64.wrap (z8+1)),hF,rfl,rfl⟩
 refine cF hF (fun h15 hF=>?_) (fun h15 hF=>?_)
 obtain ⟨x17,h18,hF⟩:=bindO_some hF
 obtain ⟨r19,h20,hF⟩:=bindO_some hF
 refine go ?_
 refine RS.ix h18 ?_
 refine go ?_
 refine RS.cl rfl (pC (ref03_Put_0 n l7 x17 r19 h20) _) fn57 ?_
 refine go ?_
 exact xC ⟨r19,hF,rfl,rfl⟩
 refine go ?_
 exact xC ⟨l7,hF,rfl,rfl⟩
 refine go ?_
 exact xC ⟨l7,hF,rfl,rfl⟩
def ref03_Above_K2  (l21:List (List UInt8)):Option ((List (List UInt8))) :=
 some l21
def ref03_Above_L2 (n:Nat) (l13:List (List UInt8)):Nat→(List (List UInt8))→Int→Option ((List (List UInt8)))
 | 0,_,_=>none
 | m2+1,l19,z20 =>
  cond (decide (z20<(l13.length:Int)))
   (bindO (idxO l13 z20) fun x23 =>
   bindO (ref03_Put n l19 x23) fun r25 =>
   (ref03_Above_L2 n l13 m2) r25 (IntKind.i64.wrap (z20+1)))
   (ref03_Above_K2 l19)
def ref03_Above_J4 (z40:Int) (rc3:Int→(List (List UInt8))→Option ((List (List UInt8)))) (l51:List (List UInt8)):Option ((List (List UInt8))) :=
 rc3 (IntKind.i64.wrap (z40+1)) l51
def ref03_Above_K3 (z10:Int) (rc1:Int→(List (List UInt8))→Option ((List (List UInt8)))) (l43:List (List UInt8)):Option ((List (List UInt8))) :=
 rc1 (IntKind.i64.wrap (z10+1)) l43
def ref03_Above_L3 (n:Nat) (z10:Int) (rc1:Int→(List (List UInt8))→Option ((List (List UInt8)))) (x32:GTypeDecl):Nat→Int→(List (List UInt8))→Option ((List (List UInt8)))
 | 0,_,_=>none
 | m3+1,z40,l41 =>
  cond (decide (z40<(x32.Supers.length:Int)))
   (bindO (idxO x32.Supers z40) fun x46 =>
   bindO (ref03_Among n l41 x46) fun r48 =>
   cond (!r48)
    (bindO (idxO x32.Supers z40) fun x53 =>
    needO ((l41.length+1)*16≤140737488355328∧l41.length+1≤140737488355328) (
    ref03_Above_J4 z40 (ref03_Above_L3 n z10 rc1 x32 m3) (l41++[x53])))
    (ref03_Above_J4 z40 (ref03_Above_L3 n z10 rc1 x32 m3) l41))
   (ref03_Above_K3 z10 rc1 l41)
def ref03_Above_K1 (n:Nat) (l13:List (List UInt8)):Option ((List (List UInt8))) :=
 ref03_Above_L2 n l13 n [] 0
def ref03_Above_L1 (p1:List GTypeDecl) (n:Nat):Nat→Int→(List (List UInt8))→Option ((List (List UInt8)))
 | 0,_,_=>none
 | m1+1,z10,l11 =>
  cond (decide (z10<(l11.length:Int)))
   (bindO (idxO l11 z10) fun x28 =>
   bindO (ref03_find n p1 x28) fun r30 =>
   bindO (idxO p1 r30) fun x32 =>
   ref03_Above_L3 n z10 (ref03_Above_L1 p1 n m1) x32 n 0 l11)
   (ref03_Above_K1 n l11)
def ref03_Above (n:Nat) (p1:List GTypeDecl) (p2:List UInt8):Option ((List (List UInt8))) :=
 bindO (ref03_find n p1 p2) fun r3 =>
 cond (decide (r3<0))
  (some [])
  (ref03_Above_L1 p1 n n 0 ([p2]))
theorem ref03_Above_0 (n:Nat) (p1:List GTypeDecl) (p2:List UInt8) (r:(List (List UInt8))) (hF:ref03_Above n p1 p2=some r):EvU Try.prog 83 [.isl false (List.map cGTypeDecl p1),.str p2] ⟨[],0⟩ (fun u _=>u = .isl false (List.map cS r)∧Bel 0 u):=by
 unfold ref03_Above at hF
 refine bg2 66 fn83 ?_
 obtain ⟨r3,h4,hF⟩:=bindO_some hF
 refine go ?_
 refine RS.cl rfl (pC (ref03_find_0 n p1 p2 r3 h4) _) fn80 ?_
 refine go ?_
 refine cF hF (fun h5 hF=>?_) (fun h5 hF=>?_)
 refine go ?_
 obtain rfl:=sI hF
 exact rT (us:=[.nils]) (u:=.isl false []) (res_t rfl (res_n)) wR
 refine go ?_
 refine RS.step (u:=.vl 0 0 0 ([p2].length)) (σ':=⟨[(0,.vec (List.map cS ([p2])).flatten 9 1 0)],1⟩) rfl (StepU.bslv (cs:=(List.map cS [p2]).flatten) Try.tb_ok rfl un59.h if9.h rfl rfl rfl rfl rfl rfl rfl rfl) rfl rfl ?_
 refine go ?_
 refine gS (l':=[(0,_),(5,_),(6,_)]) ?_
 refine WPU.loopK (fun m tm σ=>∃ z10:Int,∃ l11:List (List UInt8),∃ t12:Nat,ref03_Above_L1 p1 n m z10 l11=some r∧tm=fr 66 [(0,.iM cGTypeDecl p1),(5,.vl 0 t12 0 l11.length),(6,.i6 z10)]∧σ=⟨[(0,.vec (List.map cS l11).flatten 9 1 t12)],1⟩) (fun tm σ=>∃ l13:List (List UInt8),∃ t14:Nat,ref03_Above_K1 n l13=some r∧tm=fr 66 [(5,.vl 0 t14 0 l13.length)]∧σ=⟨[(0,.vec (List.map cS l13).flatten 9 1 t14)],1⟩) n ⟨0,[p2],0,hF,rfl,rfl⟩ ?_ ?_
 rintro _ _ ⟨l13,t14,hF,rfl,rfl⟩
 unfold ref03_Above_K1 at hF
 refine gr ?_
 refine gr ?_
 refine WPU.ghost (tm':=fr 66 [(5,.vl 0 t14 0 l13.length),(9,.iM cS []),(10,.i6 0)]) (Gh.trans (Gh.sub (l':=[(5,.vl 0 t14 0 l13.length),(9,.nils),(10,.i6 0)]) ⟨rfl,rfl,rfl,trivial⟩) (Gh.wkS (l':=[(5,.vl 0 t14 0 l13.length),(9,.iM cS []),(10,.i6 0)]) (.cons (.refl _) (.cons (.nil false) (.cons (.refl _) .nil))))) NZ ?_
 refine gS (l':=[(5,_),(9,_),(10,_)]) ?_
 refine WPU.loopK (fun m tm σ=>∃ l19:List (List UInt8),∃ z20:Int,ref03_Above_L2 n l13 m l19 z20=some r∧tm=fr 66 [(5,.vl 0 t14 0 l13.length),(9,.iM cS l19),(10,.i6 z20)]∧σ=⟨[(0,.vec (List.map cS l13).flatten 9 1 t14)],1⟩) (fun tm σ=>∃ l21:List (List UInt8),ref03_Above_K2 l21=some r∧tm=fr 66 [(9,.iM cS l21)]∧σ=⟨[(0,.vec (List.map cS l13).flatten 9 1 t14)],1⟩) n ⟨[],0,hF,rfl,rfl⟩ ?_ ?_
 rintro _ _ ⟨l21,hF,rfl,rfl⟩
 unfold ref03_Above_K2 at hF
 exact gx hF
 rintro (_|m2) _ _ ⟨l19,z20,hF,rfl,rfl⟩
 cases hF
 unfold ref03_Above_L2 at hF
 refine go ?_
 refine cF hF (fun h22 hF=>?_) (fun h22 hF=>?_)
 refine go ?_
 refine WPU.block ?_
 obtain ⟨x23,h24,hF⟩:=bindO_some hF
 obtain ⟨r25,h26,hF⟩:=bindO_some hF
 refine go ?_
 refine RS.q rfl (op_ia rfl rfl (ia_vl cS un59.h (sz_of if9.h) (by decide) len_cS (vo rfl) h24)) ?_
 refine RS.q rfl (ld_vec1 cS (fun x=>.str x) un9.h rfl (fun _=>rfl) rfl rfl h24) (RS.cl rfl (pC (ref03_Put_0 n l19 x23 r25 h26) _) fn57 ?_)
 refine go ?_
 exact lC ⟨r25,(IntKind.i64.wrap (z20+1)),hF,rfl,rfl⟩
 refine go ?_
 exact xC ⟨l19,hF,rfl,rfl⟩
 rintro (_|m1) _ _ ⟨z10,l11,t12,hF,rfl,rfl⟩
 cases hF
 unfold ref03_Above_L1 at hF
 refine go ?_
 refine cF hF (fun h27 hF=>?_) (fun h27 hF=>?_)
 refine go ?_
 refine WPU.block ?_
 obtain ⟨x28,h29,hF⟩:=bindO_some hF
 obtain ⟨r30,h31,hF⟩:=bindO_some hF
 obtain ⟨x32,h33,hF⟩:=bindO_some hF
 refine go ?_
 refine RS.q rfl (op_ia rfl rfl (ia_vl cS un59.h (sz_of if9.h) (by decide) len_cS (vo rfl) h29)) ?_
 refine RS.q rfl (ld_vec1 cS (fun x=>.str x) un9.h rfl (fun _=>rfl) rfl rfl h29) (RS.cl rfl (pC (ref03_find_0 n p1 x28 r30 h31) _) fn80 ?_)
 refine RS.ix h33 ?_
 refine go ?_
 refine gS (l':=[(0,_),(5,_),(6,_),(7,_),(8,_)]) ?_
 refine WPU.loopK (fun m tm σ=>∃ z40:Int,∃ l41:List (List UInt8),∃ t42:Nat,ref03_Above_L3 n z10 (ref03_Above_L1 p1 n m1) x32 m z40 l41=some r∧tm=fr 66 [(0,.iM cGTypeDecl p1),(5,.vl 0 t42 0 l41.length),(6,.i6 z10),(7,.iM cS x32.Supers),(8,.i6 z40)]∧σ=⟨[(0,.vec (List.map cS l41).flatten 9 1 t42)],1⟩) (fun tm σ=>∃ l43:List (List UInt8),∃ t44:Nat,ref03_Above_K3 z10 (ref03_Above_L1 p1 n m1) l43=some r∧tm=fr 66 [(0,.iM cGTypeDecl p1),(5,.vl 0 t44 0 l43.length),(6,.i6 z10)]∧σ=⟨[(0,.vec (List.map cS l43).flatten 9 1 t44)],1⟩) n ⟨0,l11,t12,hF,rfl,rfl⟩ ?_ ?_
 rintro _ _ ⟨l43,t44,hF,rfl,rfl⟩
 unfold ref03_Above_K3 at hF
 refine go ?_
 exact lC ⟨_,l43,t44,hF,rfl,rfl⟩
 rintro (_|m3) _ _ ⟨z40,l41,t42,hF,rfl,rfl⟩
 cases hF
 unfold ref03_Above_L3 at hF
 refine go ?_
 refine cF hF (fun h45 hF=>?_) (fun h45 hF=>?_)
 refine go ?_
 refine WPU.block ?_
 obtain ⟨x46,h47,hF⟩:=bindO_some hF
 obtain ⟨r48,h49,hF⟩:=bindO_some hF
 refine go ?_
 refine RS.ix h47 ?_
 refine go ?_
 refine RS.cl rfl (vw (ref03_Among_0 n l41 x46 r48 h49) (Gh.fzC 0 1)) fn67 ?_
 refine gn ?_
 refine WPU.joinK (fun tm σ=>∃ l51:List (List UInt8),∃ t52:Nat,ref03_Above_J4 z40 (ref03_Above_L3 n z10 (ref03_Above_L1 p1 n m1) x32 m3) l51=some r∧tm=fr 66 [(0,.iM cGTypeDecl p1),(5,.vl 0 t52 0 l51.length),(6,.i6 z10),(7,.iM cS x32.Supers),(8,.i6 z40)]∧σ=⟨[(0,.vec (List.map cS l51).flatten 9 1 t52)],1⟩) ?_ ?_
 rintro _ _ ⟨l51,t52,hF,rfl,rfl⟩
 unfold ref03_Above_J4 at hF
 refine go ?_
 exact lC ⟨_,l51,t52,hF,rfl,rfl⟩
 refine cF hF (fun h50 hF=>?_) (fun h50 hF=>?_)
 obtain ⟨x53,h54,hF⟩:=bindO_some hF
 obtain ⟨h55,hF⟩:=needO_some hF
 refine go ?_
 refine RS.ix h54 ?_
 refine go ?_
 refine RS.g ?_
 refine RS.g ?_
 refine go ?_
 exact xC ⟨(l41++[x53]),(t42+1),hF,rfl,rfl⟩
 refine go ?_
 exact xC ⟨l41,t42,hF,rfl,rfl⟩
 refine go ?_
 exact xC ⟨l41,t42,hF,rfl,rfl⟩
 refine go ?_
 exact xC ⟨l11,t12,hF,rfl,rfl⟩
def ref03_Maximal_J3 (z10:Int) (rc1:Int→(List (List UInt8))→Option ((List (List UInt8)))) (l32:List (List UInt8)):Option ((List (List UInt8))) :=
 rc1 (IntKind.i64.wrap (z10+1)) l32
def ref03_Maximal_K2 (r3:(List (List UInt8))) (z10:Int) (l11:List (List UInt8)) (rc1:Int→(List (List UInt8))→Option ((List (List UInt8)))) (b30:Bool):Option ((List (List UInt8))) :=
 cond b30
  (bindO (idxO r3 z10) fun x34 =>
  needO ((l11.length+1)*16≤140737488355328∧l11.length+1≤140737488355328) (
  ref03_Maximal_J3 z10 rc1 (l11++[x34])))
  (ref03_Maximal_J3 z10 rc1 l11)
def ref03_Maximal_L2 (n:Nat) (r3:(List (List UInt8))) (z10:Int) (l11:List (List UInt8)) (rc1:Int→(List (List UInt8))→Option ((List (List UInt8)))) (r18:(List (List UInt8))):Nat→Bool→Int→Option ((List (List UInt8)))
 | 0,_,_=>none
 | m2+1,b28,z29 =>
  cond (decide (z29<(r3.length:Int)))
   (bindO (cond b28
    (cond (z29 == z10)
     (some true)
     (bindO (idxO r3 z29) fun x40 =>
     bindO (ref03_Among n r18 x40) fun r42 =>
     some (!r42)))
    (some false)) fun b44 =>
   (ref03_Maximal_L2 n r3 z10 l11 rc1 r18 m2) b44 (IntKind.i64.wrap (z29+1)))
   (ref03_Maximal_K2 r3 z10 l11 rc1 b28)
def ref03_Maximal_K1  (l13:List (List UInt8)):Option ((List (List UInt8))) :=
 some l13
def ref03_Maximal_L1 (p1:List GTypeDecl) (n:Nat) (r3:(List (List UInt8))):Nat→Int→(List (List UInt8))→Option ((List (List UInt8)))
 | 0,_,_=>none
 | m1+1,z10,l11 =>
  cond (decide (z10<(r3.length:Int)))
   (bindO (idxO r3 z10) fun x16 =>
   bindO (ref03_Above n p1 x16) fun r18 =>
   ref03_Maximal_L2 n r3 z10 l11 (ref03_Maximal_L1 p1 n r3 m1) r18 n true 0)
   (ref03_Maximal_K1 l11)
def ref03_Maximal (n:Nat) (p1:List GTypeDecl) (p2:List (List UInt8)):Option ((List (List UInt8))) :=
 bindO (ref03_declared n p1 p2) fun r3 =>
 ref03_Maximal_L1 p1 n r3 n 0 ([]:List (List UInt8))
theorem ref03_Maximal_0 (n:Nat) (p1:List GTypeDecl) (p2:List (List UInt8)) (r:(List (List UInt8))) (hF:ref03_Maximal n p1 p2=some r):EvU Try.prog 72 [.isl false (List.map cGTypeDecl p1),.isl false (List.map cS p2)] ⟨[],0⟩ (fun u _=>u = .isl false (List.map cS r)∧Bel 0 u):=by
 unfold ref03_Maximal at hF
 refine bg2 56 fn72 ?_
 obtain ⟨r3,h4,hF⟩:=bindO_some hF
 refine go ?_
 refine RS.cl rfl (pC (ref03_declared_0 n p1 p2 r3 h4) _) fn82 ?_
 refine gr ?_
 refine WPU.ghost (tm':=fr 56 [(0,.iM cGTypeDecl p1),(5,.vl 0 0 0 (([]:List (List UInt8)).length)),(6,.iM cS r3),(7,.i6 0)]) (σ':=⟨[(0,.vec (List.map cS ([]:List (List UInt8))).flatten 9 1 0)],1⟩) (Gh.trans (Gh.nilS 5 9 1 (by decide) NZ rfl rfl) (Gh.eqS ⟨rfl,rfl,rfl,rfl,trivial⟩ rfl)) NZ ?_
 refine gS (l':=[(0,_),(5,_),(6,_),(7,_)]) ?_
 refine WPU.loopK (fun m tm σ=>∃ z10:Int,∃ l11:List (List UInt8),∃ t12:Nat,ref03_Maximal_L1 p1 n r3 m z10 l11=some r∧tm=fr 56 [(0,.iM cGTypeDecl p1),(5,.vl 0 t12 0 l11.length),(6,.iM cS r3),(7,.i6 z10)]∧σ=⟨[(0,.vec (List.map cS l11).flatten 9 1 t12)],1⟩) (fun tm σ=>∃ l13:List (List UInt8),∃ t14:Nat,ref03_Maximal_K1 l13=some r∧tm=fr 56 [(5,.vl 0 t14 0 l13.length)]∧σ=⟨[(0,.vec (List.map cS l13).flatten 9 1 t14)],1⟩) n ⟨0,([]:List (List UInt8)),0,hF,rfl,rfl⟩ ?_ ?_
 rintro _ _ ⟨l13,t14,hF,rfl,rfl⟩
 unfold ref03_Maximal_K1 at hF
 refine go ?_
 obtain rfl:=sI hF
 exact rT (us:=[.vl 0 t14 0 l13.length]) (u:=.iM cS l13) (res_t rfl (res_n)) (fR 0 1)
 rintro (_|m1) _ _ ⟨z10,l11,t12,hF,rfl,rfl⟩
 cases hF
 unfold ref03_Maximal_L1 at hF
 refine go ?_
 refine cF hF (fun h15 hF=>?_) (fun h15 hF=>?_)
 refine go ?_
 refine WPU.block ?_
 obtain ⟨x16,h17,hF⟩:=bindO_some hF
 obtain ⟨r18,h19,hF⟩:=bindO_some hF
 refine go ?_
 refine RS.ix h17 ?_
 refine go ?_
 refine RS.cl rfl (pC (ref03_Above_0 n p1 x16 r18 h19) _) fn83 ?_
 refine go ?_
 refine gS (l':=[(0,_),(5,_),(6,_),(7,_),(8,_),(9,_),(10,_)]) ?_
 refine WPU.loopK (fun m tm σ=>∃ b28:Bool,∃ z29:Int,ref03_Maximal_L2 n r3 z10 l11 (ref03_Maximal_L1 p1 n r3 m1) r18 m b28 z29=some r∧tm=fr 56 [(0,.iM cGTypeDecl p1),(5,.vl 0 t12 0 l11.length),(6,.iM cS r3),(7,.i6 z10),(8,.iM cS r18),(9,.bool b28),(10,.i6 z29)]∧σ=⟨[(0,.vec (List.map cS l11).flatten 9 1 t12)],1⟩) (fun tm σ=>∃ b30:Bool,ref03_Maximal_K2 r3 z10 l11 (ref03_Maximal_L1 p1 n r3 m1) b30=some r∧tm=fr 56 [(0,.iM cGTypeDecl p1),(5,.vl 0 t12 0 l11.length),(6,.iM cS r3),(7,.i6 z10),(9,.bool b30)]∧σ=⟨[(0,.vec (List.map cS l11).flatten 9 1 t12)],1⟩) n ⟨true,0,hF,rfl,rfl⟩ ?_ ?_
 rintro _ _ ⟨b30,hF,rfl,rfl⟩
 unfold ref03_Maximal_K2 at hF
 refine gr ?_
 refine WPU.joinK (fun tm σ=>∃ l32:List (List UInt8),∃ t33:Nat,ref03_Maximal_J3 z10 (ref03_Maximal_L1 p1 n r3 m1) l32=some r∧tm=fr 56 [(0,.iM cGTypeDecl p1),(5,.vl 0 t33 0 l32.length),(6,.iM cS r3),(7,.i6 z10)]∧σ=⟨[(0,.vec (List.map cS l32).flatten 9 1 t33)],1⟩) ?_ ?_
 rintro _ _ ⟨l32,t33,hF,rfl,rfl⟩
 unfold ref03_Maximal_J3 at hF
 refine go ?_
 exact lC ⟨_,l32,t33,hF,rfl,rfl⟩
 refine cF hF (fun h31 hF=>?_) (fun h31 hF=>?_)
 obtain ⟨x34,h35,hF⟩:=bindO_some hF
 obtain ⟨h36,hF⟩:=needO_some hF
 refine go ?_
 refine RS.ix h35 ?_
 refine go ?_
 refine RS.g ?_
 refine RS.g ?_
 refine go ?_
 exact xC ⟨(l11++[x34]),(t12+1),hF,rfl,rfl⟩
 refine go ?_
 exact xC ⟨l11,t12,hF,rfl,rfl⟩
 rintro (_|m2) _ _ ⟨b28,z29,hF,rfl,rfl⟩
 cases hF
 unfold ref03_Maximal_L2 at hF
 refine go ?_
 refine cF hF (fun h37 hF=>?_) (fun h37 hF=>?_)
 refine go ?_
 refine WPU.block ?_
 obtain ⟨b44,h45,hF⟩:=bindO_some hF
 refine gn ?_
 refine WPU.joinK (fun tm σ=>tm=fr 56 [(0,.iM cGTypeDecl p1),(5,.vl 0 t12 0 l11.length),(6,.iM cS r3),(7,.i6 z10),(8,.iM cS r18),(9,.bool b44),(10,.i6 z29)]∧σ=⟨[(0,.vec (List.map cS l11).flatten 9 1 t12)],1⟩) ?_ ?_
 rintro _ _ ⟨rfl,rfl⟩
 refine go ?_
 exact lC ⟨b44,(IntKind.i64.wrap (z29+1)),hF,rfl,rfl⟩
 rcases gB h45 with ⟨h38,h45⟩ | ⟨h38,h45⟩
 rcases gB h45 with ⟨h39,h45⟩ | ⟨h39,h45⟩
 exact gy h45
 obtain ⟨x40,h41,h45⟩:=bindO_some h45
 obtain ⟨r42,h43,h45⟩:=bindO_some h45
 obtain rfl:=sI h45
 refine go ?_
 refine RS.ix h41 ?_
 refine go ?_
 refine RS.cl rfl (pC (ref03_Among_0 n r18 x40 r42 h43) _) fn67 ?_
 refine go ?_
 exact xC ⟨rfl,rfl⟩
 obtain rfl:=sI h45
 refine go ?_
 repeat refine RS.no (wantT rfl rfl rfl) rfl rfl ?_
 refine go ?_
 exact xC ⟨rfl,rfl⟩
 refine go ?_
 exact xC ⟨b28,hF,rfl,rfl⟩
 refine go ?_
 exact xC ⟨l11,t12,hF,rfl,rfl⟩
def ref04_name_J3 (r17:(List (List UInt8))) (z23:Int) (rc2:(List UInt8)→Int→Option ((List UInt8))) (s27:List UInt8):Option ((List UInt8)) :=
 bindO (idxO r17 z23) fun x28 =>
 needO (s27.length+x28.length≤9223372036854775807) (
 rc2 (s27++x28) (IntKind.i64.wrap (z23+1)))
def ref04_name_K2  (s24:List UInt8):Option ((List UInt8)) :=
 some s24
def ref04_name_L2 (r17:(List (List UInt8))):Nat→(List UInt8)→Int→Option ((List UInt8))
 | 0,_,_=>none
 | m2+1,s22,z23 =>
  cond (decide (z23<(r17.length:Int)))
   (cond (decide (z23 > 0))
    (needO (s22.length+([38]).length≤9223372036854775807) (
    ref04_name_J3 r17 z23 (ref04_name_L2 r17 m2) (s22++[38])))
    (ref04_name_J3 r17 z23 (ref04_name_L2 r17 m2) s22))
   (ref04_name_K2 s22)
def ref04_name_J4 (z12:Int) (rc1:Int→(List (List UInt8))→Option ((List UInt8))) (l43:List (List UInt8)):Option ((List UInt8)) :=
 rc1 (IntKind.i64.wrap (z12+1)) l43
def ref04_name_K1 (p1:List GTypeDecl) (n:Nat) (l15:List (List UInt8)):Option ((List UInt8)) :=
 bindO (ref03_Maximal n p1 l15) fun r17 =>
 ref04_name_L2 r17 n [] 0
def ref04_name_L1 (p1:List GTypeDecl) (p2:List (List UInt8)) (p3:List (List Int)) (p4:List Int) (n:Nat):Nat→Int→(List (List UInt8))→Option ((List UInt8))
 | 0,_,_=>none
 | m1+1,z12,l13 =>
  cond (decide (z12<(p2.length:Int)))
   (bindO (idxO p3 z12) fun x33 =>
   bindO (ref02_Equal n x33 p4) fun r35 =>
   cond r35
    (bindO (idxO p2 z12) fun x38 =>
    some x38)
    (bindO (ref02_Has n p4 z12) fun r40 =>
    cond r40
     (bindO (idxO p2 z12) fun x45 =>
     needO ((l13.length+1)*16≤140737488355328∧l13.length+1≤140737488355328) (
     ref04_name_J4 z12 (ref04_name_L1 p1 p2 p3 p4 n m1) (l13++[x45])))
     (ref04_name_J4 z12 (ref04_name_L1 p1 p2 p3 p4 n m1) l13)))
   (ref04_name_K1 p1 n l13)
def ref04_name (n:Nat) (p1:List GTypeDecl) (p2:List (List UInt8)) (p3:List (List Int)) (p4:List Int):Option ((List UInt8)) :=
 ref04_name_L1 p1 p2 p3 p4 n n 0 ([]:List (List UInt8))
theorem ref04_name_0 (n:Nat) (p1:List GTypeDecl) (p2:List (List UInt8)) (p3:List (List Int)) (p4:List Int) (r:(List UInt8)) (hF:ref04_name n p1 p2 p3 p4=some r):EvU Try.prog 47 [.isl false (List.map cGTypeDecl p1),.isl false (List.map cS p2),.isl false (List.map (cL (cI .u64)) p3),.isl false (List.map (cI .u64) p4)] ⟨[],0⟩ (fun u _=>u = .str r∧Bel 0 u):=by
 unfold ref04_name at hF
 refine bg4 59 fn47 ?_
 refine gr ?_
 refine gr ?_
 refine gr ?_
 refine WPU.ghost (tm':=fr 59 [(0,.iM cGTypeDecl p1),(1,.iM cS p2),(2,.iM (cL (cI .u64)) p3),(3,.iM (cI .u64) p4),(9,.vl 0 0 0 (([]:List (List UInt8)).length)),(10,.i6 0)]) (σ':=⟨[(0,.vec (List.map cS ([]:List (List UInt8))).flatten 9 1 0)],1⟩) (Gh.trans (Gh.nilS 9 9 1 (by decide) NZ rfl rfl) (Gh.eqS ⟨rfl,rfl,rfl,rfl,rfl,rfl,trivial⟩ rfl)) NZ ?_
 refine gS (l':=[(0,_),(1,_),(2,_),(3,_),(9,_),(10,_)]) ?_
 refine WPU.loopK (fun m tm σ=>∃ z12:Int,∃ l13:List (List UInt8),∃ t14:Nat,ref04_name_L1 p1 p2 p3 p4 n m z12 l13=some r∧tm=fr 59 [(0,.iM cGTypeDecl p1),(1,.iM cS p2),(2,.iM (cL (cI .u64)) p3),(3,.iM (cI .u64) p4),(9,.vl 0 t14 0 l13.length),(10,.i6 z12)]∧σ=⟨[(0,.vec (List.map cS l13).flatten 9 1 t14)],1⟩) (fun tm σ=>∃ l15:List (List UInt8),∃ t16:Nat,ref04_name_K1 p1 n l15=some r∧tm=fr 59 [(0,.iM cGTypeDecl p1),(9,.vl 0 t16 0 l15.length)]∧σ=⟨[(0,.vec (List.map cS l15).flatten 9 1 t16)],1⟩) n ⟨0,([]:List (List UInt8)),0,hF,rfl,rfl⟩ ?_ ?_
 rintro _ _ ⟨l15,t16,hF,rfl,rfl⟩
 unfold ref04_name_K1 at hF
 refine gn ?_
 refine WPU.ghost (tm':=fr 59 [(0,.iM cGTypeDecl p1),(9,.iM cS l15)]) (σ':=⟨[],1⟩) (Gh.trans (Gh.sub (l':=[(0,.iM cGTypeDecl p1),(9,.vl 0 t16 0 l15.length)]) ⟨rfl,rfl,trivial⟩) (Gh.fzD 0 1)) NZ ?_
 obtain ⟨r17,h18,hF⟩:=bindO_some hF
 refine go ?_
 refine RS.cl rfl (pC (ref03_Maximal_0 n p1 l15 r17 h18) _) fn72 ?_
 refine go ?_
 refine gS (l':=[(9,_),(11,_),(12,_)]) ?_
 refine WPU.loopK (fun m tm σ=>∃ s22:List UInt8,∃ z23:Int,ref04_name_L2 r17 m s22 z23=some r∧tm=fr 59 [(9,.iM cS r17),(11,.str s22),(12,.i6 z23)]∧σ=⟨[],1⟩) (fun tm σ=>∃ s24:List UInt8,ref04_name_K2 s24=some r∧tm=fr 59 [(11,.str s24)]∧σ=⟨[],1⟩) n ⟨[],0,hF,rfl,rfl⟩ ?_ ?_
 rintro _ _ ⟨s24,hF,rfl,rfl⟩
 unfold ref04_name_K2 at hF
 exact gx hF
 rintro (_|m2) _ _ ⟨s22,z23,hF,rfl,rfl⟩
 cases hF
 unfold ref04_name_L2 at hF
 refine go ?_
 refine cF hF (fun h25 hF=>?_) (fun h25 hF=>?_)
 refine go ?_
 refine WPU.block ?_
 refine gr ?_
 refine WPU.joinK (fun tm σ=>∃ s27:List UInt8,ref04_name_J3 r17 z23 (ref04_name_L2 r17 m2) s27=some r∧tm=fr 59 [(9,.iM cS r17),(11,.str s27),(12,.i6 z23)]∧σ=⟨[],1⟩) ?_ ?_
 rintro _ _ ⟨s27,hF,rfl,rfl⟩
 unfold ref04_name_J3 at hF
 obtain ⟨x28,h29,hF⟩:=bindO_some hF
 obtain ⟨h30,hF⟩:=needO_some hF
 refine go ?_
 refine RS.ix h29 ?_
 refine go ?_
 refine RS.q (u:=.str (s27++x28)) rfl (op_str rfl rfl (sx_add h30) rfl) ?_
 refine go ?_
 exact lC ⟨(s27++x28),(IntKind.i64.wrap (z23+1)),hF,rfl,rfl⟩
 refine cF hF (fun h26 hF=>?_) (fun h26 hF=>?_)
 obtain ⟨h31,hF⟩:=needO_some hF
 refine go ?_
 refine RS.q (u:=.str (s22++[38])) rfl (op_str rfl rfl (sx_add h31) rfl) ?_
 refine go ?_
 exact xC ⟨(s22++[38]),hF,rfl,rfl⟩
 refine go ?_
 exact xC ⟨s22,hF,rfl,rfl⟩
 refine go ?_
 exact xC ⟨s22,hF,rfl,rfl⟩
 rintro (_|m1) _ _ ⟨z12,l13,t14,hF,rfl,rfl⟩
 cases hF
 unfold ref04_name_L1 at hF
 refine go ?_
 refine cF hF (fun h32 hF=>?_) (fun h32 hF=>?_)
 refine go ?_
 refine WPU.block ?_
 obtain ⟨x33,h34,hF⟩:=bindO_some hF
 obtain ⟨r35,h36,hF⟩:=bindO_some hF
 refine go ?_
 refine RS.ix h34 ?_
 refine go ?_
 refine RS.cl rfl (pC (ref02_Equal_0 n x33 p4 r35 h36) _) fn70 ?_
 refine go ?_
 refine cF hF (fun h37 hF=>?_) (fun h37 hF=>?_)
 obtain ⟨x38,h39,hF⟩:=bindO_some hF
 refine go ?_
 refine RS.ix h39 ?_
 exact gx hF
 obtain ⟨r40,h41,hF⟩:=bindO_some hF
 refine go ?_
 refine RS.cl rfl (pC (ref02_Has_0 n p4 z12 r40 h41) _) fn71 ?_
 refine gn ?_
 refine WPU.joinK (fun tm σ=>∃ l43:List (List UInt8),∃ t44:Nat,ref04_name_J4 z12 (ref04_name_L1 p1 p2 p3 p4 n m1) l43=some r∧tm=fr 59 [(0,.iM cGTypeDecl p1),(1,.iM cS p2),(2,.iM (cL (cI .u64)) p3),(3,.iM (cI .u64) p4),(9,.vl 0 t44 0 l43.length),(10,.i6 z12)]∧σ=⟨[(0,.vec (List.map cS l43).flatten 9 1 t44)],1⟩) ?_ ?_
 rintro _ _ ⟨l43,t44,hF,rfl,rfl⟩
 unfold ref04_name_J4 at hF
 refine go ?_
 exact lC ⟨_,l43,t44,hF,rfl,rfl⟩
 refine cF hF (fun h42 hF=>?_) (fun h42 hF=>?_)
 obtain ⟨x45,h46,hF⟩:=bindO_some hF
 obtain ⟨h47,hF⟩:=needO_some hF
 refine go ?_
 refine RS.ix h46 ?_
 refine go ?_
 refine RS.g ?_
 refine RS.g ?_
 refine go ?_
 exact xC ⟨(l13++[x45]),(t14+1),hF,rfl,rfl⟩
 refine go ?_
 exact xC ⟨l13,t14,hF,rfl,rfl⟩
 refine go ?_
 exact xC ⟨l13,t14,hF,rfl,rfl⟩
def ref02_List_J2 (z6:Int) (rc1:Int→(List Int)→Option ((List Int))) (l15:List Int):Option ((List Int)) :=
 rc1 (IntKind.i64.wrap (z6+1)) l15
def ref02_List_K1  (l9:List Int):Option ((List Int)) :=
 some l9
def ref02_List_L1 (p1:List Int) (n:Nat):Nat→Int→(List Int)→Option ((List Int))
 | 0,_,_=>none
 | m1+1,z6,l7 =>
  cond (decide (z6<(IntKind.i64.wrap (64*(p1.length:Int)))))
   (bindO (ref02_Has n p1 z6) fun r12 =>
   cond r12
    (needO ((l7.length+1)*8≤140737488355328∧l7.length+1≤140737488355328) (
    ref02_List_J2 z6 (ref02_List_L1 p1 n m1) (l7++[z6])))
    (ref02_List_J2 z6 (ref02_List_L1 p1 n m1) l7))
   (ref02_List_K1 l7)
def ref02_List (n:Nat) (p1:List Int):Option ((List Int)) :=
 ref02_List_L1 p1 n n 0 ([]:List Int)
theorem ref02_List_0 (n:Nat) (p1:List Int) (r:(List Int)) (hF:ref02_List n p1=some r):EvU Try.prog 84 [.isl false (List.map (cI .u64) p1)] ⟨[],0⟩ (fun u _=>u = .isl false (List.map (cI .i64) r)∧Bel 0 u):=by
 unfold ref02_List at hF
 refine bg1 20 fn84 ?_
 refine gr ?_
 refine gr ?_
 refine gr ?_
 refine WPU.ghost (tm':=fr 20 [(0,.iM (cI .u64) p1),(3,.vl 0 0 0 (([]:List Int).length)),(4,.i6 0)]) (σ':=⟨[(0,.vec (List.map (cI .i64) ([]:List Int)).flatten 3 1 0)],1⟩) (Gh.trans (Gh.nilS 3 3 1 (by decide) NZ rfl rfl) (Gh.eqS ⟨rfl,rfl,rfl,trivial⟩ rfl)) NZ ?_
 refine gS (l':=[(0,_),(3,_),(4,_)]) ?_
 refine WPU.loopK (fun m tm σ=>∃ z6:Int,∃ l7:List Int,∃ t8:Nat,ref02_List_L1 p1 n m z6 l7=some r∧tm=fr 20 [(0,.iM (cI .u64) p1),(3,.vl 0 t8 0 l7.length),(4,.i6 z6)]∧σ=⟨[(0,.vec (List.map (cI .i64) l7).flatten 3 1 t8)],1⟩) (fun tm σ=>∃ l9:List Int,∃ t10:Nat,ref02_List_K1 l9=some r∧tm=fr 20 [(3,.vl 0 t10 0 l9.length)]∧σ=⟨[(0,.vec (List.map (cI .i64) l9).flatten 3 1 t10)],1⟩) n ⟨0,([]:List Int),0,hF,rfl,rfl⟩ ?_ ?_
 rintro _ _ ⟨l9,t10,hF,rfl,rfl⟩
 unfold ref02_List_K1 at hF
 refine go ?_
 obtain rfl:=sI hF
 exact rT (us:=[.vl 0 t10 0 l9.length]) (u:=.iM (cI .i64) l9) (res_t rfl (res_n)) (fR 0 1)
 rintro (_|m1) _ _ ⟨z6,l7,t8,hF,rfl,rfl⟩
 cases hF
 unfold ref02_List_L1 at hF
 refine go ?_
 refine cF hF (fun h11 hF=>?_) (fun h11 hF=>?_)
 refine go ?_
 refine WPU.block ?_
 obtain ⟨r12,h13,hF⟩:=bindO_some hF
 refine go ?_
 refine RS.cl rfl (pC (ref02_Has_0 n p1 z6 r12 h13) _) fn71 ?_
 refine gn ?_
 refine WPU.joinK (fun tm σ=>∃ l15:List Int,∃ t16:Nat,ref02_List_J2 z6 (ref02_List_L1 p1 n m1) l15=some r∧tm=fr 20 [(0,.iM (cI .u64) p1),(3,.vl 0 t16 0 l15.length),(4,.i6 z6)]∧σ=⟨[(0,.vec (List.map (cI .i64) l15).flatten 3 1 t16)],1⟩) ?_ ?_
 rintro _ _ ⟨l15,t16,hF,rfl,rfl⟩
 unfold ref02_List_J2 at hF
 refine go ?_
 exact lC ⟨_,l15,t16,hF,rfl,rfl⟩
 refine cF hF (fun h14 hF=>?_) (fun h14 hF=>?_)
 obtain ⟨h17,hF⟩:=needO_some hF
 refine go ?_
 refine RS.g ?_
 refine RS.g ?_
 refine go ?_
 exact xC ⟨(l7++[z6]),(t8+1),hF,rfl,rfl⟩
 refine go ?_
 exact xC ⟨l7,t8,hF,rfl,rfl⟩
 refine go ?_
 exact xC ⟨l7,t8,hF,rfl,rfl⟩
def ref02_Count (n:Nat) (p1:List Int):Option (Int) :=
 bindO (ref02_List n p1) fun r2 =>
 some (r2.length:Int)
theorem ref02_Count_0 (n:Nat) (p1:List Int) (r:Int) (hF:ref02_Count n p1=some r):EvU Try.prog 73 [.isl false (List.map (cI .u64) p1)] ⟨[],0⟩ (fun u _=>u = .int .i64 r∧Bel 0 u):=by
 unfold ref02_Count at hF
 refine bg1 6 fn73 ?_
 obtain ⟨r2,h3,hF⟩:=bindO_some hF
 refine go ?_
 refine RS.cl rfl (pC (ref02_List_0 n p1 r2 h3) _) fn84 ?_
 exact gx hF
def ref04_before (n:Nat) (p1:GCoded) (p2:GCoded):Option (Bool) :=
 bindO (ref02_Count n p1.Code) fun r3 =>
 bindO (ref02_Count n p2.Code) fun r5 =>
 bindO (cond (decide (r3 > r5))
  (some true)
  (cond (r3 == r5)
   (some (bytesLt p1.Name p2.Name))
   (some false))) fun b9 =>
 some b9
theorem ref04_before_0 (n:Nat) (p1:GCoded) (p2:GCoded) (r:Bool) (hF:ref04_before n p1 p2=some r):EvU Try.prog 48 [.agg (cGCoded p1),.agg (cGCoded p2)] ⟨[],0⟩ (fun u _=>u = .bool r∧Bel 0 u):=by
 unfold ref04_before at hF
 refine bg2 28 fn48 ?_
 obtain ⟨r3,h4,hF⟩:=bindO_some hF
 refine go ?_
 refine RS.cl rfl (pC (ref02_Count_0 n p1.Code r3 h4) _) fn73 ?_
 obtain ⟨r5,h6,hF⟩:=bindO_some hF
 refine go ?_
 refine RS.cl rfl (pC (ref02_Count_0 n p2.Code r5 h6) _) fn73 ?_
 obtain ⟨b9,h10,hF⟩:=bindO_some hF
 refine gn ?_
 refine WPU.joinK (fun tm σ=>tm=fr 28 [(4,.bool b9)]∧σ=⟨[(1,.row (cGCoded p2) 89),(0,.row (cGCoded p1) 89)],2⟩) ?_ ?_
 rintro _ _ ⟨rfl,rfl⟩
 exact gx hF
 rcases gB h10 with ⟨h7,h10⟩ | ⟨h7,h10⟩
 obtain rfl:=sI h10
 refine go ?_
 repeat refine RS.no (wantT rfl rfl rfl) rfl rfl ?_
 refine go ?_
 exact xC ⟨rfl,rfl⟩
 rcases gB h10 with ⟨h8,h10⟩ | ⟨h8,h10⟩
 obtain rfl:=sI h10
 refine go ?_
 refine RS.w (u:=.bool (bytesLt p1.Name p2.Name)) rfl (op_str rfl rfl rfl rfl) ?_
 refine go ?_
 exact xC ⟨rfl,rfl⟩
 exact gy h10
def ref04_Codes_K3 (z27:Int) (l28:List GCoded) (rc2:Int→(List GCoded)→Option ((List GCoded)×Int)) (r35:(List UInt8)) (x37:List Int) (z50:Int):Option ((List GCoded)×Int) :=
 needO ((0:Int)≤z50∧z50≤((l28.length:Nat):Int)) (
 needO (0+z50.toNat≤l28.length) (
 needO (((l28.drop 0).take z50.toNat).length*40≤140737488355328∧((l28.drop 0).take z50.toNat).length≤140737488355328) (
 needO ((((l28.drop 0).take z50.toNat).length+1)*40≤140737488355328∧((l28.drop 0).take z50.toNat).length+1≤140737488355328) (
 needO ((0:Int)≤z50∧z50≤((l28.length:Nat):Int)) (
 needO ((0+z50.toNat)+(l28.length - z50.toNat)≤l28.length) (
 needO (((((l28.drop 0).take z50.toNat)++[(GCoded.mk r35 x37)]).length+((l28.drop (0+z50.toNat)).take (l28.length - z50.toNat)).length)*40≤140737488355328∧(((l28.drop 0).take z50.toNat)++[(GCoded.mk r35 x37)]).length+((l28.drop (0+z50.toNat)).take (l28.length - z50.toNat)).length≤140737488355328) (
 rc2 (IntKind.i64.wrap (z27+1)) ((((l28.drop 0).take z50.toNat)++[(GCoded.mk r35 x37)])++((l28.drop (0+z50.toNat)).take (l28.length - z50.toNat))))))))))
def ref04_Codes_L3 (n:Nat) (z27:Int) (l28:List GCoded) (rc2:Int→(List GCoded)→Option ((List GCoded)×Int)) (r35:(List UInt8)) (x37:List Int):Nat→Int→Option ((List GCoded)×Int)
 | 0,_=>none
 | m3+1,z49 =>
  bindO (cond (decide (z49 > 0))
   (bindO (idxO l28 (IntKind.i64.wrap (z49 - 1))) fun x59 =>
   bindO (ref04_before n (GCoded.mk r35 x37) x59) fun r61 =>
   some r61)
   (some false)) fun b63 =>
  cond b63
   ((ref04_Codes_L3 n z27 l28 rc2 r35 x37 m3) (IntKind.i64.wrap (z49 - 1)))
   (ref04_Codes_K3 z27 l28 rc2 r35 x37 z49)
def ref04_Codes_K2  (l30:List GCoded):Option ((List GCoded)×Int) :=
 some (l30,0)
def ref04_Codes_L2 (p1:List GTypeDecl) (n:Nat) (r5:(List (List UInt8))) (l15:List (List Int)) (r17:(List (List Int))):Nat→Int→(List GCoded)→Option ((List GCoded)×Int)
 | 0,_,_=>none
 | m2+1,z27,l28 =>
  cond (decide (z27<(r17.length:Int)))
   (bindO (idxO r17 z27) fun x33 =>
   bindO (ref04_name n p1 r5 l15 x33) fun r35 =>
   bindO (idxO r17 z27) fun x37 =>
   ref04_Codes_L3 n z27 l28 (ref04_Codes_L2 p1 n r5 l15 r17 m2) r35 x37 n (l28.length:Int))
   (ref04_Codes_K2 l28)
def ref04_Codes_K1 (p1:List GTypeDecl) (n:Nat) (r5:(List (List UInt8))) (l15:List (List Int)):Option ((List GCoded)×Int) :=
 bindO (ref04_family n l15) fun r17 =>
 cond (decide ((r17.length:Int) > 256))
  (some ([],7))
  (ref04_Codes_L2 p1 n r5 l15 r17 n 0 ([]:List GCoded))
def ref04_Codes_L1 (p1:List GTypeDecl) (n:Nat) (r5:(List (List UInt8))):Nat→Int→(List (List Int))→Option ((List GCoded)×Int)
 | 0,_,_=>none
 | m1+1,z12,l13 =>
  cond (decide (z12<(r5.length:Int)))
   (bindO (idxO r5 z12) fun x67 =>
   bindO (ref04_code n p1 r5 x67) fun r69 =>
   needO ((l13.length+1)*24≤140737488355328∧l13.length+1≤140737488355328) (
   (ref04_Codes_L1 p1 n r5 m1) (IntKind.i64.wrap (z12+1)) (l13++[r69])))
   (ref04_Codes_K1 p1 n r5 l13)
def ref04_Codes (n:Nat) (p1:List GTypeDecl):Option ((List GCoded)×Int) :=
 bindO (ref03_Check n p1) fun r2 =>
 cond (r2 != 0)
  (some ([],r2))
  (bindO (ref03_Names n p1) fun r5 =>
  ref04_Codes_L1 p1 n r5 n 0 ([]:List (List Int)))
theorem ref04_Codes_0 (n:Nat) (p1:List GTypeDecl) (r:(List GCoded)×Int) (hF:ref04_Codes n p1=some r):EvU Try.prog 27 [.isl false (List.map cGTypeDecl p1)] ⟨[],0⟩ (fun u _=>u = .tup [.isl false (List.map cGCoded r.1),.int .i64 r.2]∧Bel 0 u):=by
 unfold ref04_Codes at hF
 refine bg1 92 fn27 ?_
 obtain ⟨r2,h3,hF⟩:=bindO_some hF
 refine go ?_
 refine RS.cl rfl (pC (ref03_Check_0 n p1 r2 h3) _) fn43 ?_
 refine go ?_
 refine cF hF (fun h4 hF=>?_) (fun h4 hF=>?_)
 refine go ?_
 obtain rfl:=sI hF
 exact rT (us:=[.nils,.i6 r2]) (u:=.tup [.isl false [],.i6 r2]) (res_t rfl (res_t rfl (res_n))) wR
 obtain ⟨r5,h6,hF⟩:=bindO_some hF
 refine go ?_
 refine RS.cl rfl (pC (ref03_Names_0 n p1 r5 h6) _) fn44 ?_
 refine gr ?_
 refine gr ?_
 refine WPU.ghost (tm':=fr 92 [(0,.iM cGTypeDecl p1),(5,.iM cS r5),(6,.vl 0 0 0 (([]:List (List Int)).length)),(7,.i6 0)]) (σ':=⟨[(0,.vec (List.map (cL (cI .u64)) ([]:List (List Int))).flatten 87 1 0)],1⟩) (Gh.trans (Gh.nilS 6 87 1 (by decide) NZ rfl rfl) (Gh.eqS ⟨rfl,rfl,rfl,rfl,trivial⟩ rfl)) NZ ?_
 refine gS (l':=[(0,_),(5,_),(6,_),(7,_)]) ?_
 refine WPU.loopK (fun m tm σ=>∃ z12:Int,∃ l13:List (List Int),∃ t14:Nat,ref04_Codes_L1 p1 n r5 m z12 l13=some r∧tm=fr 92 [(0,.iM cGTypeDecl p1),(5,.iM cS r5),(6,.vl 0 t14 0 l13.length),(7,.i6 z12)]∧σ=⟨[(0,.vec (List.map (cL (cI .u64)) l13).flatten 87 1 t14)],1⟩) (fun tm σ=>∃ l15:List (List Int),∃ t16:Nat,ref04_Codes_K1 p1 n r5 l15=some r∧tm=fr 92 [(0,.iM cGTypeDecl p1),(5,.iM cS r5),(6,.vl 0 t16 0 l15.length)]∧σ=⟨[(0,.vec (List.map (cL (cI .u64)) l15).flatten 87 1 t16)],1⟩) n ⟨0,([]:List (List Int)),0,hF,rfl,rfl⟩ ?_ ?_
 rintro _ _ ⟨l15,t16,hF,rfl,rfl⟩
 unfold ref04_Codes_K1 at hF
 refine gn ?_
 refine WPU.ghost (tm':=fr 92 [(0,.iM cGTypeDecl p1),(5,.iM cS r5),(6,.iM (cL (cI .u64)) l15)]) (σ':=⟨[],1⟩) (Gh.trans (Gh.sub (l':=[(0,.iM cGTypeDecl p1),(5,.iM cS r5),(6,.vl 0 t16 0 l15.length)]) ⟨rfl,rfl,rfl,trivial⟩) (Gh.fzD 0 1)) NZ ?_
 obtain ⟨r17,h18,hF⟩:=bindO_some hF
 refine go ?_
 refine RS.cl rfl (pC (ref04_family_0 n l15 r17 h18) _) fn46 ?_
 refine go ?_
 refine cF hF (fun h19 hF=>?_) (fun h19 hF=>?_)
 refine go ?_
 obtain rfl:=sI hF
 exact rT (us:=[.nils,.i6 7]) (u:=.tup [.isl false [],.i6 7]) (res_t rfl (res_t rfl (res_n))) wR
 refine gr ?_
 refine gr ?_
 refine WPU.ghost (tm':=fr 92 [(0,.iM cGTypeDecl p1),(5,.iM cS r5),(6,.iM (cL (cI .u64)) l15),(8,.iM (cL (cI .u64)) r17),(9,.vl 1 0 0 (([]:List GCoded).length)),(10,.i6 0)]) (σ':=⟨[(1,.vec (List.map cGCoded ([]:List GCoded)).flatten 89 2 0)],2⟩) (Gh.trans (Gh.nilS 9 89 2 (by decide) NZ rfl rfl) (Gh.eqS ⟨rfl,rfl,rfl,rfl,rfl,rfl,trivial⟩ rfl)) NZ ?_
 refine gS (l':=[(0,_),(5,_),(6,_),(8,_),(9,_),(10,_)]) ?_
 refine WPU.loopK (fun m tm σ=>∃ z27:Int,∃ l28:List GCoded,∃ t29:Nat,ref04_Codes_L2 p1 n r5 l15 r17 m z27 l28=some r∧tm=fr 92 [(0,.iM cGTypeDecl p1),(5,.iM cS r5),(6,.iM (cL (cI .u64)) l15),(8,.iM (cL (cI .u64)) r17),(9,.vl 1 t29 0 l28.length),(10,.i6 z27)]∧σ=⟨[(1,.vec (List.map cGCoded l28).flatten 89 2 t29)],2⟩) (fun tm σ=>∃ l30:List GCoded,∃ t31:Nat,ref04_Codes_K2 l30=some r∧tm=fr 92 [(9,.vl 1 t31 0 l30.length)]∧σ=⟨[(1,.vec (List.map cGCoded l30).flatten 89 2 t31)],2⟩) n ⟨0,([]:List GCoded),0,hF,rfl,rfl⟩ ?_ ?_
 rintro _ _ ⟨l30,t31,hF,rfl,rfl⟩
 unfold ref04_Codes_K2 at hF
 refine go ?_
 obtain rfl:=sI hF
 exact rT (us:=[.vl 1 t31 0 l30.length,.i6 0]) (u:=.tup [.iM cGCoded l30,.i6 0]) (res_t rfl (res_t rfl (res_n))) (fR 1 2)
 rintro (_|m2) _ _ ⟨z27,l28,t29,hF,rfl,rfl⟩
 cases hF
 unfold ref04_Codes_L2 at hF
 refine go ?_
 refine cF hF (fun h32 hF=>?_) (fun h32 hF=>?_)
 refine go ?_
 refine WPU.block ?_
 obtain ⟨x33,h34,hF⟩:=bindO_some hF
 obtain ⟨r35,h36,hF⟩:=bindO_some hF
 obtain ⟨x37,h38,hF⟩:=bindO_some hF
 refine go ?_
 refine WPU.drawE Try.tb_ok [(0,13),(1,13),(2,13),(3,13),(4,13),(5,13),(6,13),(8,13),(9,13),(10,13),(11,13),(12,13)] (by kernel_rfl) ?_
 refine gd ?_
 refine RD.ix h34 ?_
 refine gd ?_
 refine RD.fl rfl (pC (ref04_name_0 n p1 r5 l15 x33 r35 h36)) fn47 ?_
 refine gd ?_
 refine RD.ix h38 ?_
 refine gd ?_
 refine RD.g ?_
 refine RD.gz ?_
 refine RD.done ⟨by kernel_rfl,⟨op_move rfl,⟨op_move rfl,⟨op_move rfl,⟨op_move rfl,⟨op_move rfl,⟨op_ia rfl rfl (ia_isl (cL (cI .u64)) un114.h (sz_of if87.h) (len_cL (cI .u64)) h34 rfl),⟨li_one un87.h rfl rfl rfl,⟨op_move rfl,⟨op_move rfl,⟨op_ia rfl rfl (ia_isl (cL (cI .u64)) un114.h (sz_of if87.h) (len_cL (cI .u64)) h38 rfl),⟨li_one un87.h rfl rfl rfl,⟨op_bld bd89.h rfl rfl rfl,trivial⟩⟩⟩⟩⟩⟩⟩⟩⟩⟩⟩⟩,?_⟩
 refine go ?_
 refine gS (l':=[(0,_),(5,_),(6,_),(8,_),(9,_),(10,_),(11,_),(12,_)]) ?_
 refine WPU.loopK (fun m tm σ=>∃ z49:Int,ref04_Codes_L3 n z27 l28 (ref04_Codes_L2 p1 n r5 l15 r17 m2) r35 x37 m z49=some r∧tm=fr 92 [(0,.iM cGTypeDecl p1),(5,.iM cS r5),(6,.iM (cL (cI .u64)) l15),(8,.iM (cL (cI .u64)) r17),(9,.vl 1 t29 0 l28.length),(10,.i6 z27),(11,.ptr 2 0 0),(12,.i6 z49)]∧σ=⟨[(2,.row [.str r35,.iM (cI .u64) x37] 89),(1,.vec (List.map cGCoded l28).flatten 89 2 t29)],3⟩) (fun tm σ=>∃ z50:Int,ref04_Codes_K3 z27 l28 (ref04_Codes_L2 p1 n r5 l15 r17 m2) r35 x37 z50=some r∧tm=fr 92 [(0,.iM cGTypeDecl p1),(5,.iM cS r5),(6,.iM (cL (cI .u64)) l15),(8,.iM (cL (cI .u64)) r17),(9,.vl 1 t29 0 l28.length),(10,.i6 z27),(11,.ptr 2 0 0),(12,.i6 z50)]∧σ=⟨[(2,.row [.str r35,.iM (cI .u64) x37] 89),(1,.vec (List.map cGCoded l28).flatten 89 2 t29)],3⟩) n ⟨(l28.length:Int),hF,rfl,rfl⟩ ?_ ?_
 rintro _ _ ⟨z50,hF,rfl,rfl⟩
 unfold ref04_Codes_K3 at hF
 obtain ⟨h51,hF⟩:=needO_some hF
 obtain ⟨h52,hF⟩:=needO_some hF
 obtain ⟨h53,hF⟩:=needO_some hF
 refine go ?_
 refine RS.q (u:=.vl 1 t29 0 z50.toNat) rfl (op_slice rfl em_n (em_s rfl) em_n (sl_vp cGCoded un83.h (sz_of if89.h) len_cGCoded (vo rfl) (Nat.le_of_eq (Nat.zero_add _)) (bnd_hi h51.1 h51.2))) (RS.q (u:=.vl 3 0 0 (((l28.drop 0).take z50.toNat).length)) (σ':=⟨[(3,.vec (List.map cGCoded ((l28.drop 0).take z50.toNat)).flatten 89 2 0),(2,.row [.str r35,.iM (cI .u64) x37] 89),(1,.vec (List.map cGCoded l28).flatten 89 2 t29)],4⟩) rfl (op_app rfl rfl rfl rfl (app_new cGCoded ((l28.drop 0).take z50.toNat) un83.h un83.h if89.h rfl (src_vp cGCoded len_cGCoded (vo rfl) h52) h53)) ?_)
 obtain ⟨h54,hF⟩:=needO_some hF
 refine go ?_
 refine RS.g ?_
 refine RS.g ?_
 obtain ⟨h55,hF⟩:=needO_some hF
 obtain ⟨h56,hF⟩:=needO_some hF
 obtain ⟨h57,hF⟩:=needO_some hF
 refine go ?_
 refine RS.q (u:=.vl 1 t29 (0+z50.toNat) (l28.length - z50.toNat)) rfl (op_slice rfl (em_s rfl) em_n em_n (sl_vp cGCoded un83.h (sz_of if89.h) len_cGCoded (vo rfl) (Nat.le_of_eq (Nat.zero_add _)) (bnd_lo h55.1 h55.2))) (RS.q (u:=.vl 3 2 0 (((((l28.drop 0).take z50.toNat)++[(GCoded.mk r35 x37)])++((l28.drop (0+z50.toNat)).take (l28.length - z50.toNat))).length)) (σ':=⟨[(4,.row [.str r35,.iM (cI .u64) x37] 89),(3,.vec (List.map cGCoded ((((l28.drop 0).take z50.toNat)++[(GCoded.mk r35 x37)])++((l28.drop (0+z50.toNat)).take (l28.length - z50.toNat)))).flatten 89 2 2),(2,.row [.str r35,.iM (cI .u64) x37] 89),(1,.vec (List.map cGCoded l28).flatten 89 2 t29)],5⟩) rfl (op_app rfl rfl rfl rfl (app_vl cGCoded ((l28.drop (0+z50.toNat)).take (l28.length - z50.toNat)) un83.h un83.h if89.h rfl len_cGCoded rfl (src_vp cGCoded len_cGCoded (vo rfl) h56) h57)) ?_)
 refine go ?_
 exact ⟨m2,_,_,Nat.lt_succ_self _,⟨(IntKind.i64.wrap (z27+1)),((((l28.drop 0).take z50.toNat)++[(GCoded.mk r35 x37)])++((l28.drop (0+z50.toNat)).take (l28.length - z50.toNat))),2,hF,rfl,rfl⟩,NZ,Gh.trans (Gh.sub (l':=[(0,.iM cGTypeDecl p1),(5,.iM cS r5),(6,.iM (cL (cI .u64)) l15),(8,.iM (cL (cI .u64)) r17),(9,.vl 3 2 0 (((((l28.drop 0).take z50.toNat)++[(GCoded.mk r35 x37)])++((l28.drop (0+z50.toNat)).take (l28.length - z50.toNat))).length)),(10,.i6 (IntKind.i64.wrap (z27+1)))]) ⟨rfl,rfl,rfl,rfl,rfl,rfl,trivial⟩) (Gh.trans (Gh.mv (l':=[(0,.iM cGTypeDecl p1),(5,.iM cS r5),(6,.iM (cL (cI .u64)) l15),(8,.iM (cL (cI .u64)) r17),(9,.vl 1 2 0 (((((l28.drop 0).take z50.toNat)++[(GCoded.mk r35 x37)])++((l28.drop (0+z50.toNat)).take (l28.length - z50.toNat))).length)),(10,.i6 (IntKind.i64.wrap (z27+1)))]) (h':=[(4,.row [.str r35,.iM (cI .u64) x37] 89),(1,.vec (List.map cGCoded ((((l28.drop 0).take z50.toNat)++[(GCoded.mk r35 x37)])++((l28.drop (0+z50.toNat)).take (l28.length - z50.toNat)))).flatten 89 2 2),(2,.row [.str r35,.iM (cI .u64) x37] 89)]) 1 3 NZ rfl rfl (by simp only [rS,rU,rUL,rUR_map,mvN,Nat.beq,cond_true,cond_false]) rfl (by simp only [avH,rB,rUL_nf,rUL,rU,rUR_map,rM_map,mvN,Nat.beq,cond_true,cond_false,and_self])) (Gh.toC (n1:=2) ⟨rfl,rfl,rfl,rfl,rfl,rfl,trivial⟩ rfl NZ (by simp)))⟩
 rintro (_|m3) _ _ ⟨z49,hF,rfl,rfl⟩
 cases hF
 unfold ref04_Codes_L3 at hF
 obtain ⟨b63,h64,hF⟩:=bindO_some hF
 refine gn ?_
 refine WPU.joinK (fun tm σ=>tm=fr 92 [(0,.iM cGTypeDecl p1),(5,.iM cS r5),(6,.iM (cL (cI .u64)) l15),(8,.iM (cL (cI .u64)) r17),(9,.vl 1 t29 0 l28.length),(10,.i6 z27),(11,.ptr 2 0 0),(12,.i6 z49),(73,.bool b63)]∧σ=⟨[(2,.row [.str r35,.iM (cI .u64) x37] 89),(1,.vec (List.map cGCoded l28).flatten 89 2 t29)],3⟩) ?_ ?_
 rintro _ _ ⟨rfl,rfl⟩
 refine go ?_
 refine cF hF (fun h65 hF=>?_) (fun h65 hF=>?_)
 refine go ?_
 refine WPU.block ?_
 refine go ?_
 exact lC ⟨_,hF,rfl,rfl⟩
 refine go ?_
 exact xC ⟨z49,hF,rfl,rfl⟩
 rcases gB h64 with ⟨h58,h64⟩ | ⟨h58,h64⟩
 obtain ⟨x59,h60,h64⟩:=bindO_some h64
 obtain ⟨r61,h62,h64⟩:=bindO_some h64
 obtain rfl:=sI h64
 refine WPU.drawE Try.tb_ok [] (by kernel_rfl) ?_
 refine gd ?_
 refine RD.w rfl (op_ia rfl rfl (ia_vl cGCoded un83.h (sz_of if89.h) (by decide) len_cGCoded (vo rfl) h60)) ?_
 refine RD.w (u:=.agg (cGCoded x59)) rfl (ld_vec cGCoded un89.h rfl (sz_of if89.h) len_cGCoded rfl rfl h60 rfl) (RD.fl rfl (pC (ref04_before_0 n (GCoded.mk r35 x37) x59 r61 h62)) fn48 ?_)
 refine gd ?_
 refine RD.done ⟨by kernel_rfl,trivial,?_⟩
 refine go ?_
 exact xC ⟨rfl,rfl⟩
 obtain rfl:=sI h64
 refine WPU.drawE Try.tb_ok [] (by kernel_rfl) ?_
 refine gd ?_
 refine RD.done ⟨by kernel_rfl,trivial,?_⟩
 refine go ?_
 exact xC ⟨rfl,rfl⟩
 refine go ?_
 exact xC ⟨l28,t29,hF,rfl,rfl⟩
 rintro (_|m1) _ _ ⟨z12,l13,t14,hF,rfl,rfl⟩
 cases hF
 unfold ref04_Codes_L1 at hF
 refine go ?_
 refine cF hF (fun h66 hF=>?_) (fun h66 hF=>?_)
 refine go ?_
 refine WPU.block ?_
 obtain ⟨x67,h68,hF⟩:=bindO_some hF
 obtain ⟨r69,h70,hF⟩:=bindO_some hF
 obtain ⟨h71,hF⟩:=needO_some hF
 refine go ?_
 refine RS.ix h68 ?_
 refine go ?_
 refine RS.cl rfl (pC (ref04_code_0 n p1 r5 x67 r69 h70) _) fn45 ?_
 refine RS.g ?_
 refine RS.g ?_
 refine go ?_
 exact lC ⟨_,(l13++[r69]),(t14+1),hF,rfl,rfl⟩
 refine go ?_
 exact xC ⟨l13,t14,hF,rfl,rfl⟩
def ref05_feats_K2 (z6:Int) (rc1:(List (List UInt8))→Int→Option ((List (List UInt8)))) (l15:List (List UInt8)):Option ((List (List UInt8))) :=
 rc1 l15 (IntKind.i64.wrap (z6+1))
def ref05_feats_L2 (p1:List GTypeDecl) (n:Nat) (z6:Int) (rc1:(List (List UInt8))→Int→Option ((List (List UInt8)))):Nat→(List (List UInt8))→Int→Option ((List (List UInt8)))
 | 0,_,_=>none
 | m2+1,l13,z14 =>
  bindO (idxO p1 z6) fun x16 =>
  cond (decide (z14<(x16.Feats.length:Int)))
   (bindO (idxO p1 z6) fun x19 =>
   bindO (idxO x19.Feats z14) fun x21 =>
   bindO (ref03_Put n l13 x21.Feat) fun r23 =>
   (ref05_feats_L2 p1 n z6 rc1 m2) r23 (IntKind.i64.wrap (z14+1)))
   (ref05_feats_K2 z6 rc1 l13)
def ref05_feats_K1  (l7:List (List UInt8)):Option ((List (List UInt8))) :=
 some l7
def ref05_feats_L1 (p1:List GTypeDecl) (n:Nat):Nat→(List (List UInt8))→Int→Option ((List (List UInt8)))
 | 0,_,_=>none
 | m1+1,l5,z6 =>
  cond (decide (z6<(p1.length:Int)))
   (ref05_feats_L2 p1 n z6 (ref05_feats_L1 p1 n m1) n l5 0)
   (ref05_feats_K1 l5)
def ref05_feats (n:Nat) (p1:List GTypeDecl):Option ((List (List UInt8))) :=
 ref05_feats_L1 p1 n n [] 0
theorem ref05_feats_0 (n:Nat) (p1:List GTypeDecl) (r:(List (List UInt8))) (hF:ref05_feats n p1=some r):EvU Try.prog 40 [.isl false (List.map cGTypeDecl p1)] ⟨[],0⟩ (fun u _=>u = .isl false (List.map cS r)∧Bel 0 u):=by
 unfold ref05_feats at hF
 refine bg1 34 fn40 ?_
 refine gr ?_
 refine gr ?_
 refine gr ?_
 refine WPU.ghost (tm':=fr 34 [(0,.iM cGTypeDecl p1),(3,.iM cS []),(4,.i6 0)]) (Gh.trans (Gh.sub (l':=[(0,.iM cGTypeDecl p1),(3,.nils),(4,.i6 0)]) ⟨rfl,rfl,rfl,trivial⟩) (Gh.wkS (l':=[(0,.iM cGTypeDecl p1),(3,.iM cS []),(4,.i6 0)]) (.cons (.refl _) (.cons (.nil false) (.cons (.refl _) .nil))))) NZ ?_
 refine gS (l':=[(0,_),(3,_),(4,_)]) ?_
 refine WPU.loopK (fun m tm σ=>∃ l5:List (List UInt8),∃ z6:Int,ref05_feats_L1 p1 n m l5 z6=some r∧tm=fr 34 [(0,.iM cGTypeDecl p1),(3,.iM cS l5),(4,.i6 z6)]∧σ=⟨[],0⟩) (fun tm σ=>∃ l7:List (List UInt8),ref05_feats_K1 l7=some r∧tm=fr 34 [(3,.iM cS l7)]∧σ=⟨[],0⟩) n ⟨[],0,hF,rfl,rfl⟩ ?_ ?_
 rintro _ _ ⟨l7,hF,rfl,rfl⟩
 unfold ref05_feats_K1 at hF
 exact gx hF
 rintro (_|m1) _ _ ⟨l5,z6,hF,rfl,rfl⟩
 cases hF
 unfold ref05_feats_L1 at hF
 refine go ?_
 refine cF hF (fun h8 hF=>?_) (fun h8 hF=>?_)
 refine go ?_
 refine WPU.block ?_
 refine go ?_
 refine gS (l':=[(0,_),(3,_),(4,_),(5,_)]) ?_
 refine WPU.loopK (fun m tm σ=>∃ l13:List (List UInt8),∃ z14:Int,ref05_feats_L2 p1 n z6 (ref05_feats_L1 p1 n m1) m l13 z14=some r∧tm=fr 34 [(0,.iM cGTypeDecl p1),(3,.iM cS l13),(4,.i6 z6),(5,.i6 z14)]∧σ=⟨[],0⟩) (fun tm σ=>∃ l15:List (List UInt8),ref05_feats_K2 z6 (ref05_feats_L1 p1 n m1) l15=some r∧tm=fr 34 [(0,.iM cGTypeDecl p1),(3,.iM cS l15),(4,.i6 z6)]∧σ=⟨[],0⟩) n ⟨l5,0,hF,rfl,rfl⟩ ?_ ?_
 rintro _ _ ⟨l15,hF,rfl,rfl⟩
 unfold ref05_feats_K2 at hF
 refine go ?_
 exact lC ⟨l15,(IntKind.i64.wrap (z6+1)),hF,rfl,rfl⟩
 rintro (_|m2) _ _ ⟨l13,z14,hF,rfl,rfl⟩
 cases hF
 unfold ref05_feats_L2 at hF
 obtain ⟨x16,h17,hF⟩:=bindO_some hF
 refine go ?_
 refine RS.ix h17 ?_
 refine go ?_
 refine cF hF (fun h18 hF=>?_) (fun h18 hF=>?_)
 refine go ?_
 refine WPU.block ?_
 obtain ⟨x19,h20,hF⟩:=bindO_some hF
 obtain ⟨x21,h22,hF⟩:=bindO_some hF
 obtain ⟨r23,h24,hF⟩:=bindO_some hF
 refine go ?_
 refine RS.ix h20 ?_
 refine go ?_
 refine RS.ix h22 ?_
 refine go ?_
 refine RS.cl rfl (pC (ref03_Put_0 n l13 x21.Feat r23 h24) _) fn57 ?_
 refine go ?_
 exact lC ⟨r23,(IntKind.i64.wrap (z14+1)),hF,rfl,rfl⟩
 refine go ?_
 exact xC ⟨l13,hF,rfl,rfl⟩
 refine go ?_
 exact xC ⟨l5,hF,rfl,rfl⟩
def ref04_Subsumes (n:Nat) (p1:List GCoded) (p2:Int) (p3:Int):Option (Bool) :=
 bindO (idxO p1 p3) fun x4 =>
 bindO (idxO p1 p2) fun x6 =>
 bindO (ref02_Subset n x4.Code x6.Code) fun r8 =>
 some r8
theorem ref04_Subsumes_0 (n:Nat) (p1:List GCoded) (p2:Int) (p3:Int) (r:Bool) (hF:ref04_Subsumes n p1 p2 p3=some r):EvU Try.prog 49 [.isl false (List.map cGCoded p1),.int .i64 p2,.int .i64 p3] ⟨[],0⟩ (fun u _=>u = .bool r∧Bel 0 u):=by
 unfold ref04_Subsumes at hF
 refine bg3 18 fn49 ?_
 obtain ⟨x4,h5,hF⟩:=bindO_some hF
 obtain ⟨x6,h7,hF⟩:=bindO_some hF
 obtain ⟨r8,h9,hF⟩:=bindO_some hF
 refine go ?_
 refine WPU.drawE Try.tb_ok [] (by kernel_rfl) ?_
 refine gd ?_
 refine RD.ix h5 ?_
 refine gd ?_
 refine RD.ix h7 ?_
 refine gd ?_
 refine RD.fl rfl (pC (ref02_Subset_0 n x4.Code x6.Code r8 h9)) fn74 ?_
 refine gd ?_
 refine RD.done ⟨by kernel_rfl,trivial,?_⟩
 exact gx hF
def ref05_number_K1   : Option (Int) :=
 some (-1)
def ref05_number_L1 (p1:List GCoded) (p2:List UInt8):Nat→Int→Option (Int)
 | 0,_=>none
 | m1+1,z6 =>
  cond (decide (z6<(p1.length:Int)))
   (bindO (idxO p1 z6) fun x8 =>
   cond (bytesEq x8.Name p2)
    (some z6)
    ((ref05_number_L1 p1 p2 m1) (IntKind.i64.wrap (z6+1))))
   (ref05_number_K1)
def ref05_number (n:Nat) (p1:List GCoded) (p2:List UInt8):Option (Int) :=
 ref05_number_L1 p1 p2 n 0
theorem ref05_number_0 (n:Nat) (p1:List GCoded) (p2:List UInt8) (r:Int) (hF:ref05_number n p1 p2=some r):EvU Try.prog 51 [.isl false (List.map cGCoded p1),.str p2] ⟨[],0⟩ (fun u _=>u = .int .i64 r∧Bel 0 u):=by
 unfold ref05_number at hF
 refine bg2 20 fn51 ?_
 refine go ?_
 refine gS (l':=[(0,_),(1,_),(5,_)]) ?_
 refine WPU.loopK (fun m tm σ=>∃ z6:Int,ref05_number_L1 p1 p2 m z6=some r∧tm=fr 20 [(0,.iM cGCoded p1),(1,.str p2),(5,.i6 z6)]∧σ=⟨[],0⟩) (fun tm σ=>ref05_number_K1=some r∧tm=fr 20 []∧σ=⟨[],0⟩) n ⟨0,hF,rfl,rfl⟩ ?_ ?_
 rintro _ _ ⟨hF,rfl,rfl⟩
 unfold ref05_number_K1 at hF
 exact gx hF
 rintro (_|m1) _ _ ⟨z6,hF,rfl,rfl⟩
 cases hF
 unfold ref05_number_L1 at hF
 refine go ?_
 refine cF hF (fun h7 hF=>?_) (fun h7 hF=>?_)
 refine go ?_
 refine WPU.block ?_
 obtain ⟨x8,h9,hF⟩:=bindO_some hF
 refine go ?_
 refine RS.ix h9 ?_
 refine go ?_
 refine RS.q (u:=.bool (bytesEq x8.Name p2)) rfl (op_str rfl rfl rfl rfl) ?_
 refine go ?_
 refine cF hF (fun h10 hF=>?_) (fun h10 hF=>?_)
 exact gx hF
 refine go ?_
 exact lC ⟨_,hF,rfl,rfl⟩
 refine go ?_
 exact xC ⟨hF,rfl,rfl⟩
def ref05_value_K1   : Option ((List UInt8)×Bool) :=
 some ([],false)
def ref05_value_L1 (p1:GTypeDecl) (p2:List UInt8):Nat→Int→Option ((List UInt8)×Bool)
 | 0,_=>none
 | m1+1,z8 =>
  cond (decide (z8<(p1.Feats.length:Int)))
   (bindO (idxO p1.Feats z8) fun x10 =>
   cond (bytesEq x10.Feat p2)
    (bindO (idxO p1.Feats z8) fun x13 =>
    some (x13.Value,true))
    ((ref05_value_L1 p1 p2 m1) (IntKind.i64.wrap (z8+1))))
   (ref05_value_K1)
def ref05_value (n:Nat) (p1:GTypeDecl) (p2:List UInt8):Option ((List UInt8)×Bool) :=
 ref05_value_L1 p1 p2 n 0
theorem ref05_value_0 (n:Nat) (p1:GTypeDecl) (p2:List UInt8) (r:(List UInt8)×Bool) (hF:ref05_value n p1 p2=some r):EvU Try.prog 58 [.agg (cGTypeDecl p1),.str p2] ⟨[],0⟩ (fun u _=>u = .tup [.str r.1,.bool r.2]∧Bel 0 u):=by
 unfold ref05_value at hF
 refine bg2 28 fn58 ?_
 refine go ?_
 refine gS (l':=[(1,_),(2,_),(6,_)]) ?_
 refine WPU.loopK (fun m tm σ=>∃ z8:Int,ref05_value_L1 p1 p2 m z8=some r∧tm=fr 28 [(1,.str p2),(2,.ptr 0 0 0),(6,.i6 z8)]∧σ=⟨[(0,.row (cGTypeDecl p1) 61)],1⟩) (fun tm σ=>ref05_value_K1=some r∧tm=fr 28 []∧σ=⟨[(0,.row (cGTypeDecl p1) 61)],1⟩) n ⟨0,hF,rfl,rfl⟩ ?_ ?_
 rintro _ _ ⟨hF,rfl,rfl⟩
 unfold ref05_value_K1 at hF
 refine go ?_
 obtain rfl:=sI hF
 exact rt2 rfl rfl rfl rfl rfl
 rintro (_|m1) _ _ ⟨z8,hF,rfl,rfl⟩
 cases hF
 unfold ref05_value_L1 at hF
 refine go ?_
 refine cF hF (fun h9 hF=>?_) (fun h9 hF=>?_)
 refine go ?_
 refine WPU.block ?_
 obtain ⟨x10,h11,hF⟩:=bindO_some hF
 refine go ?_
 refine RS.ix h11 ?_
 refine go ?_
 refine RS.q (u:=.bool (bytesEq x10.Feat p2)) rfl (op_str rfl rfl rfl rfl) ?_
 refine go ?_
 refine cF hF (fun h12 hF=>?_) (fun h12 hF=>?_)
 obtain ⟨x13,h14,hF⟩:=bindO_some hF
 refine go ?_
 refine RS.ix h14 ?_
 refine go ?_
 obtain rfl:=sI hF
 exact rt2 rfl rfl rfl rfl rfl
 refine go ?_
 exact lC ⟨_,hF,rfl,rfl⟩
 refine go ?_
 exact xC ⟨hF,rfl,rfl⟩
def ref05_inherited_K1  (b17:Bool) (l18:List Int):Option ((List Int)×Bool) :=
 some (l18,b17)
def ref05_inherited_L1 (p1:List GTypeDecl) (p2:List GCoded) (p3:Int) (p4:List UInt8) (n:Nat):Nat→Bool→(List Int)→Int→Option ((List Int)×Bool)
 | 0,_,_,_=>none
 | m1+1,b14,l15,z16 =>
  cond (decide (z16<(p1.length:Int)))
   (bindO (idxO p1 z16) fun x20 =>
   bindO (ref05_value n x20 p4) fun r22 =>
   bindO (cond (!r22.2)
    (some true)
    (bindO (idxO p1 z16) fun x25 =>
    bindO (ref05_number n p2 x25.Name) fun r27 =>
    bindO (ref04_Subsumes n p2 r27 p3) fun r29 =>
    some (!r29))) fun b31 =>
   cond b31
    ((ref05_inherited_L1 p1 p2 p3 p4 n m1) b14 l15 (IntKind.i64.wrap (z16+1)))
    (bindO (ref05_number n p2 r22.1) fun r34 =>
    bindO (idxO p2 r34) fun x36 =>
    bindO (ref02_And n l15 x36.Code) fun r38 =>
    (ref05_inherited_L1 p1 p2 p3 p4 n m1) true r38 (IntKind.i64.wrap (z16+1))))
   (ref05_inherited_K1 b14 l15)
def ref05_inherited (n:Nat) (p1:List GTypeDecl) (p2:List GCoded) (p3:Int) (p4:List UInt8):Option ((List Int)×Bool) :=
 bindO (idxO p2 0) fun x5 =>
 ref05_inherited_L1 p1 p2 p3 p4 n n false x5.Code 0
theorem ref05_inherited_0 (n:Nat) (p1:List GTypeDecl) (p2:List GCoded) (p3:Int) (p4:List UInt8) (r:(List Int)×Bool) (hF:ref05_inherited n p1 p2 p3 p4=some r):EvU Try.prog 41 [.isl false (List.map cGTypeDecl p1),.isl false (List.map cGCoded p2),.int .i64 p3,.str p4] ⟨[],0⟩ (fun u _=>u = .tup [.isl false (List.map (cI .u64) r.1),.bool r.2]∧Bel 0 u):=by
 unfold ref05_inherited at hF
 refine bg4 60 fn41 ?_
 obtain ⟨x5,h6,hF⟩:=bindO_some hF
 refine go ?_
 refine RS.ix h6 ?_
 refine go ?_
 refine gS (l':=[(0,_),(1,_),(2,_),(3,_),(10,_),(11,_),(12,_)]) ?_
 refine WPU.loopK (fun m tm σ=>∃ b14:Bool,∃ l15:List Int,∃ z16:Int,ref05_inherited_L1 p1 p2 p3 p4 n m b14 l15 z16=some r∧tm=fr 60 [(0,.iM cGTypeDecl p1),(1,.iM cGCoded p2),(2,.i6 p3),(3,.str p4),(10,.bool b14),(11,.iM (cI .u64) l15),(12,.i6 z16)]∧σ=⟨[],0⟩) (fun tm σ=>∃ b17:Bool,∃ l18:List Int,ref05_inherited_K1 b17 l18=some r∧tm=fr 60 [(10,.bool b17),(11,.iM (cI .u64) l18)]∧σ=⟨[],0⟩) n ⟨false,x5.Code,0,hF,rfl,rfl⟩ ?_ ?_
 rintro _ _ ⟨b17,l18,hF,rfl,rfl⟩
 unfold ref05_inherited_K1 at hF
 refine go ?_
 obtain rfl:=sI hF
 exact rt2 rfl rfl rfl rfl rfl
 rintro (_|m1) _ _ ⟨b14,l15,z16,hF,rfl,rfl⟩
 cases hF
 unfold ref05_inherited_L1 at hF
 refine go ?_
 refine cF hF (fun h19 hF=>?_) (fun h19 hF=>?_)
 refine go ?_
 refine WPU.block ?_
 obtain ⟨x20,h21,hF⟩:=bindO_some hF
 obtain ⟨r22,h23,hF⟩:=bindO_some hF
 refine go ?_
 refine RS.ix h21 ?_
 refine go ?_
 refine RS.cl rfl (pC (ref05_value_0 n x20 p4 r22 h23) _) fn58 ?_
 obtain ⟨b31,h32,hF⟩:=bindO_some hF
 refine gn ?_
 refine WPU.joinK (fun tm σ=>tm=fr 60 [(0,.iM cGTypeDecl p1),(1,.iM cGCoded p2),(2,.i6 p3),(3,.str p4),(10,.bool b14),(11,.iM (cI .u64) l15),(12,.i6 z16),(13,.str r22.1),(48,.bool b31)]∧σ=⟨[],0⟩) ?_ ?_
 rintro _ _ ⟨rfl,rfl⟩
 refine go ?_
 refine cF hF (fun h33 hF=>?_) (fun h33 hF=>?_)
 refine go ?_
 exact lC ⟨b14,l15,(IntKind.i64.wrap (z16+1)),hF,rfl,rfl⟩
 obtain ⟨r34,h35,hF⟩:=bindO_some hF
 obtain ⟨x36,h37,hF⟩:=bindO_some hF
 obtain ⟨r38,h39,hF⟩:=bindO_some hF
 refine go ?_
 refine RS.cl rfl (pC (ref05_number_0 n p2 r22.1 r34 h35) _) fn51 ?_
 refine RS.ix h37 ?_
 refine go ?_
 refine RS.cl rfl (pC (ref02_And_0 n l15 x36.Code r38 h39) _) fn59 ?_
 refine go ?_
 exact lC ⟨true,r38,(IntKind.i64.wrap (z16+1)),hF,rfl,rfl⟩
 rcases gB h32 with ⟨h24,h32⟩ | ⟨h24,h32⟩
 exact gy h32
 obtain ⟨x25,h26,h32⟩:=bindO_some h32
 obtain ⟨r27,h28,h32⟩:=bindO_some h32
 obtain ⟨r29,h30,h32⟩:=bindO_some h32
 obtain rfl:=sI h32
 refine go ?_
 refine RS.ix h26 ?_
 refine go ?_
 refine RS.cl rfl (pC (ref05_number_0 n p2 x25.Name r27 h28) _) fn51 ?_
 refine go ?_
 refine RS.cl rfl (pC (ref04_Subsumes_0 n p2 r27 p3 r29 h30) _) fn49 ?_
 refine go ?_
 exact xC ⟨rfl,rfl⟩
 refine go ?_
 exact xC ⟨b14,l15,hF,rfl,rfl⟩
def ref05_intro_J2 (z8:Int) (rc1:(List (List UInt8))→Int→Option ((List UInt8)×Bool)) (l21:List (List UInt8)):Option ((List UInt8)×Bool) :=
 rc1 l21 (IntKind.i64.wrap (z8+1))
def ref05_intro_K1 (p1:List GTypeDecl) (n:Nat) (l9:List (List UInt8)):Option ((List UInt8)×Bool) :=
 bindO (ref03_Maximal n p1 l9) fun r10 =>
 cond ((r10.length:Int) != 1)
  (some ([],false))
  (bindO (idxO r10 0) fun x13 =>
  some (x13,true))
def ref05_intro_L1 (p1:List GTypeDecl) (p2:List UInt8) (n:Nat):Nat→(List (List UInt8))→Int→Option ((List UInt8)×Bool)
 | 0,_,_=>none
 | m1+1,l7,z8 =>
  cond (decide (z8<(p1.length:Int)))
   (bindO (idxO p1 z8) fun x16 =>
   bindO (ref05_value n x16 p2) fun r18 =>
   cond r18.2
    (bindO (idxO p1 z8) fun x22 =>
    bindO (ref03_Put n l7 x22.Name) fun r24 =>
    ref05_intro_J2 z8 (ref05_intro_L1 p1 p2 n m1) r24)
    (ref05_intro_J2 z8 (ref05_intro_L1 p1 p2 n m1) l7))
   (ref05_intro_K1 p1 n l7)
def ref05_intro (n:Nat) (p1:List GTypeDecl) (p2:List UInt8):Option ((List UInt8)×Bool) :=
 ref05_intro_L1 p1 p2 n n [] 0
theorem ref05_intro_0 (n:Nat) (p1:List GTypeDecl) (p2:List UInt8) (r:(List UInt8)×Bool) (hF:ref05_intro n p1 p2=some r):EvU Try.prog 50 [.isl false (List.map cGTypeDecl p1),.str p2] ⟨[],0⟩ (fun u _=>u = .tup [.str r.1,.bool r.2]∧Bel 0 u):=by
 unfold ref05_intro at hF
 refine bg2 43 fn50 ?_
 refine gr ?_
 refine gr ?_
 refine gr ?_
 refine WPU.ghost (tm':=fr 43 [(0,.iM cGTypeDecl p1),(1,.str p2),(6,.iM cS []),(7,.i6 0)]) (Gh.trans (Gh.sub (l':=[(0,.iM cGTypeDecl p1),(1,.str p2),(6,.nils),(7,.i6 0)]) ⟨rfl,rfl,rfl,rfl,trivial⟩) (Gh.wkS (l':=[(0,.iM cGTypeDecl p1),(1,.str p2),(6,.iM cS []),(7,.i6 0)]) (.cons (.refl _) (.cons (.refl _) (.cons (.nil false) (.cons (.refl _) .nil)))))) NZ ?_
 refine gS (l':=[(0,_),(1,_),(6,_),(7,_)]) ?_
 refine WPU.loopK (fun m tm σ=>∃ l7:List (List UInt8),∃ z8:Int,ref05_intro_L1 p1 p2 n m l7 z8=some r∧tm=fr 43 [(0,.iM cGTypeDecl p1),(1,.str p2),(6,.iM cS l7),(7,.i6 z8)]∧σ=⟨[],0⟩) (fun tm σ=>∃ l9:List (List UInt8),ref05_intro_K1 p1 n l9=some r∧tm=fr 43 [(0,.iM cGTypeDecl p1),(6,.iM cS l9)]∧σ=⟨[],0⟩) n ⟨[],0,hF,rfl,rfl⟩ ?_ ?_
 rintro _ _ ⟨l9,hF,rfl,rfl⟩
 unfold ref05_intro_K1 at hF
 obtain ⟨r10,h11,hF⟩:=bindO_some hF
 refine go ?_
 refine RS.cl rfl (pC (ref03_Maximal_0 n p1 l9 r10 h11) _) fn72 ?_
 refine go ?_
 refine cF hF (fun h12 hF=>?_) (fun h12 hF=>?_)
 refine go ?_
 obtain rfl:=sI hF
 exact rt2 rfl rfl rfl rfl rfl
 obtain ⟨x13,h14,hF⟩:=bindO_some hF
 refine go ?_
 refine RS.ix h14 ?_
 refine go ?_
 obtain rfl:=sI hF
 exact rt2 rfl rfl rfl rfl rfl
 rintro (_|m1) _ _ ⟨l7,z8,hF,rfl,rfl⟩
 cases hF
 unfold ref05_intro_L1 at hF
 refine go ?_
 refine cF hF (fun h15 hF=>?_) (fun h15 hF=>?_)
 refine go ?_
 refine WPU.block ?_
 obtain ⟨x16,h17,hF⟩:=bindO_some hF
 obtain ⟨r18,h19,hF⟩:=bindO_some hF
 refine go ?_
 refine RS.ix h17 ?_
 refine go ?_
 refine RS.cl rfl (pC (ref05_value_0 n x16 p2 r18 h19) _) fn58 ?_
 refine gr ?_
 refine WPU.joinK (fun tm σ=>∃ l21:List (List UInt8),ref05_intro_J2 z8 (ref05_intro_L1 p1 p2 n m1) l21=some r∧tm=fr 43 [(0,.iM cGTypeDecl p1),(1,.str p2),(6,.iM cS l21),(7,.i6 z8)]∧σ=⟨[],0⟩) ?_ ?_
 rintro _ _ ⟨l21,hF,rfl,rfl⟩
 unfold ref05_intro_J2 at hF
 refine go ?_
 exact lC ⟨l21,(IntKind.i64.wrap (z8+1)),hF,rfl,rfl⟩
 refine cF hF (fun h20 hF=>?_) (fun h20 hF=>?_)
 obtain ⟨x22,h23,hF⟩:=bindO_some hF
 obtain ⟨r24,h25,hF⟩:=bindO_some hF
 refine go ?_
 refine RS.ix h23 ?_
 refine go ?_
 refine RS.cl rfl (pC (ref03_Put_0 n l7 x22.Name r24 h25) _) fn57 ?_
 refine go ?_
 exact xC ⟨r24,hF,rfl,rfl⟩
 refine go ?_
 exact xC ⟨l7,hF,rfl,rfl⟩
 refine go ?_
 exact xC ⟨l7,hF,rfl,rfl⟩
def ref01_Feature (n:Nat) (p1:List UInt8):Option (Bool) :=
 bindO (ref01_named n p1 true) fun r2 =>
 some r2
theorem ref01_Feature_0 (n:Nat) (p1:List UInt8) (r:Bool) (hF:ref01_Feature n p1=some r):EvU Try.prog 77 [.str p1] ⟨[],0⟩ (fun u _=>u = .bool r∧Bel 0 u):=by
 unfold ref01_Feature at hF
 refine bg1 5 fn77 ?_
 obtain ⟨r2,h3,hF⟩:=bindO_some hF
 refine go ?_
 refine RS.cl rfl (pC (ref01_named_0 n p1 true r2 h3) _) fn87 ?_
 exact gx hF
def ref05_declarations_K3 (n:Nat) (r2:(List (List UInt8))) (x9:GTypeDecl) (z16:Int) (rc2:Int→Option (Int))  : Option (Int) :=
 bindO (idxO x9.Feats z16) fun x30 =>
 bindO (ref03_Among n r2 x30.Value) fun r32 =>
 cond (!r32)
  (some 5)
  (rc2 (IntKind.i64.wrap (z16+1)))
def ref05_declarations_L3 (n:Nat) (r2:(List (List UInt8))) (x9:GTypeDecl) (z16:Int) (rc2:Int→Option (Int)):Nat→Int→Option (Int)
 | 0,_=>none
 | m3+1,z29 =>
  cond (decide (z29<z16))
   (bindO (idxO x9.Feats z29) fun x36 =>
   bindO (idxO x9.Feats z16) fun x38 =>
   cond (bytesEq x36.Feat x38.Feat)
    (some 4)
    ((ref05_declarations_L3 n r2 x9 z16 rc2 m3) (IntKind.i64.wrap (z29+1))))
   (ref05_declarations_K3 n r2 x9 z16 rc2)
def ref05_declarations_K2 (z7:Int) (rc1:Int→Option (Int))  : Option (Int) :=
 rc1 (IntKind.i64.wrap (z7+1))
def ref05_declarations_L2 (n:Nat) (r2:(List (List UInt8))) (z7:Int) (rc1:Int→Option (Int)) (x9:GTypeDecl):Nat→Int→Option (Int)
 | 0,_=>none
 | m2+1,z16 =>
  cond (decide (z16<(x9.Feats.length:Int)))
   (bindO (idxO x9.Feats z16) fun x18 =>
   bindO (ref01_Feature n x18.Feat) fun r20 =>
   cond (!r20)
    (some 1)
    (ref05_declarations_L3 n r2 x9 z16 (ref05_declarations_L2 n r2 z7 rc1 x9 m2) n 0))
   (ref05_declarations_K2 z7 rc1)
def ref05_declarations_K1   : Option (Int) :=
 some 0
def ref05_declarations_L1 (p1:List GTypeDecl) (n:Nat) (r2:(List (List UInt8))):Nat→Int→Option (Int)
 | 0,_=>none
 | m1+1,z7 =>
  cond (decide (z7<(p1.length:Int)))
   (bindO (idxO p1 z7) fun x9 =>
   ref05_declarations_L2 n r2 z7 (ref05_declarations_L1 p1 n r2 m1) x9 n 0)
   (ref05_declarations_K1)
def ref05_declarations (n:Nat) (p1:List GTypeDecl):Option (Int) :=
 bindO (ref03_Names n p1) fun r2 =>
 ref05_declarations_L1 p1 n r2 n 0
theorem ref05_declarations_0 (n:Nat) (p1:List GTypeDecl) (r:Int) (hF:ref05_declarations n p1=some r):EvU Try.prog 56 [.isl false (List.map cGTypeDecl p1)] ⟨[],0⟩ (fun u _=>u = .int .i64 r∧Bel 0 u):=by
 unfold ref05_declarations at hF
 refine bg1 58 fn56 ?_
 obtain ⟨r2,h3,hF⟩:=bindO_some hF
 refine go ?_
 refine RS.cl rfl (pC (ref03_Names_0 n p1 r2 h3) _) fn44 ?_
 refine go ?_
 refine gS (l':=[(0,_),(3,_),(4,_)]) ?_
 refine WPU.loopK (fun m tm σ=>∃ z7:Int,ref05_declarations_L1 p1 n r2 m z7=some r∧tm=fr 58 [(0,.iM cGTypeDecl p1),(3,.iM cS r2),(4,.i6 z7)]∧σ=⟨[],0⟩) (fun tm σ=>ref05_declarations_K1=some r∧tm=fr 58 []∧σ=⟨[],0⟩) n ⟨0,hF,rfl,rfl⟩ ?_ ?_
 rintro _ _ ⟨hF,rfl,rfl⟩
 unfold ref05_declarations_K1 at hF
 exact gx hF
 rintro (_|m1) _ _ ⟨z7,hF,rfl,rfl⟩
 cases hF
 unfold ref05_declarations_L1 at hF
 refine go ?_
 refine cF hF (fun h8 hF=>?_) (fun h8 hF=>?_)
 refine go ?_
 refine WPU.block ?_
 obtain ⟨x9,h10,hF⟩:=bindO_some hF
 refine go ?_
 refine RS.ix h10 ?_
 refine go ?_
 refine gS (l':=[(0,_),(3,_),(4,_),(5,_),(6,_)]) ?_
 refine WPU.loopK (fun m tm σ=>∃ z16:Int,ref05_declarations_L2 n r2 z7 (ref05_declarations_L1 p1 n r2 m1) x9 m z16=some r∧tm=fr 58 [(0,.iM cGTypeDecl p1),(3,.iM cS r2),(4,.i6 z7),(5,.iM cGFeatDecl x9.Feats),(6,.i6 z16)]∧σ=⟨[],0⟩) (fun tm σ=>ref05_declarations_K2 z7 (ref05_declarations_L1 p1 n r2 m1)=some r∧tm=fr 58 [(0,.iM cGTypeDecl p1),(3,.iM cS r2),(4,.i6 z7)]∧σ=⟨[],0⟩) n ⟨0,hF,rfl,rfl⟩ ?_ ?_
 rintro _ _ ⟨hF,rfl,rfl⟩
 unfold ref05_declarations_K2 at hF
 refine go ?_
 exact lC ⟨_,hF,rfl,rfl⟩
 rintro (_|m2) _ _ ⟨z16,hF,rfl,rfl⟩
 cases hF
 unfold ref05_declarations_L2 at hF
 refine go ?_
 refine cF hF (fun h17 hF=>?_) (fun h17 hF=>?_)
 refine go ?_
 refine WPU.block ?_
 obtain ⟨x18,h19,hF⟩:=bindO_some hF
 obtain ⟨r20,h21,hF⟩:=bindO_some hF
 refine go ?_
 refine RS.ix h19 ?_
 refine go ?_
 refine RS.cl rfl (pC (ref01_Feature_0 n x18.Feat r20 h21) _) fn77 ?_
 refine go ?_
 refine cF hF (fun h22 hF=>?_) (fun h22 hF=>?_)
 exact gx hF
 refine go ?_
 refine gS (l':=[(0,_),(3,_),(4,_),(5,_),(6,_),(7,_)]) ?_
 refine WPU.loopK (fun m tm σ=>∃ z29:Int,ref05_declarations_L3 n r2 x9 z16 (ref05_declarations_L2 n r2 z7 (ref05_declarations_L1 p1 n r2 m1) x9 m2) m z29=some r∧tm=fr 58 [(0,.iM cGTypeDecl p1),(3,.iM cS r2),(4,.i6 z7),(5,.iM cGFeatDecl x9.Feats),(6,.i6 z16),(7,.i6 z29)]∧σ=⟨[],0⟩) (fun tm σ=>ref05_declarations_K3 n r2 x9 z16 (ref05_declarations_L2 n r2 z7 (ref05_declarations_L1 p1 n r2 m1) x9 m2)=some r∧tm=fr 58 [(0,.iM cGTypeDecl p1),(3,.iM cS r2),(4,.i6 z7),(5,.iM cGFeatDecl x9.Feats),(6,.i6 z16)]∧σ=⟨[],0⟩) n ⟨0,hF,rfl,rfl⟩ ?_ ?_
 rintro _ _ ⟨hF,rfl,rfl⟩
 unfold ref05_declarations_K3 at hF
 obtain ⟨x30,h31,hF⟩:=bindO_some hF
 obtain ⟨r32,h33,hF⟩:=bindO_some hF
 refine go ?_
 refine RS.ix h31 ?_
 refine go ?_
 refine RS.cl rfl (pC (ref03_Among_0 n r2 x30.Value r32 h33) _) fn67 ?_
 refine go ?_
 refine cF hF (fun h34 hF=>?_) (fun h34 hF=>?_)
 exact gx hF
 refine go ?_
 exact lC ⟨_,hF,rfl,rfl⟩
 rintro (_|m3) _ _ ⟨z29,hF,rfl,rfl⟩
 cases hF
 unfold ref05_declarations_L3 at hF
 refine go ?_
 refine cF hF (fun h35 hF=>?_) (fun h35 hF=>?_)
 refine go ?_
 refine WPU.block ?_
 obtain ⟨x36,h37,hF⟩:=bindO_some hF
 obtain ⟨x38,h39,hF⟩:=bindO_some hF
 refine go ?_
 refine WPU.drawE Try.tb_ok [] (by kernel_rfl) ?_
 refine gd ?_
 refine RD.ix h37 ?_
 refine gd ?_
 refine RD.ix h39 ?_
 refine gd ?_
 refine RD.q (u:=.bool (bytesEq x36.Feat x38.Feat)) rfl (op_str rfl rfl rfl rfl) ?_
 refine RD.done ⟨by kernel_rfl,trivial,?_⟩
 refine go ?_
 refine cF hF (fun h40 hF=>?_) (fun h40 hF=>?_)
 exact gx hF
 refine go ?_
 exact lC ⟨_,hF,rfl,rfl⟩
 refine go ?_
 exact xC ⟨hF,rfl,rfl⟩
 refine go ?_
 exact xC ⟨hF,rfl,rfl⟩
 refine go ?_
 exact xC ⟨hF,rfl,rfl⟩
def ref05_Check_K3 (z20:Int) (rc2:Int→Option (Int))  : Option (Int) :=
 rc2 (IntKind.i64.wrap (z20+1))
def ref05_Check_L3 (p1:List GTypeDecl) (n:Nat) (r2:(List GCoded)×Int) (r5:(List (List UInt8))) (z20:Int) (rc2:Int→Option (Int)):Nat→Int→Option (Int)
 | 0,_=>none
 | m3+1,z27 =>
  cond (decide (z27<(r5.length:Int)))
   (bindO (idxO r5 z27) fun x29 =>
   bindO (ref05_inherited n p1 r2.1 z20 x29) fun r31 =>
   bindO (cond r31.2
    (some ((r31.1.length:Int) == 0))
    (some false)) fun b34 =>
   cond b34
    (some 11)
    ((ref05_Check_L3 p1 n r2 r5 z20 rc2 m3) (IntKind.i64.wrap (z27+1))))
   (ref05_Check_K3 z20 rc2)
def ref05_Check_K2   : Option (Int) :=
 some 0
def ref05_Check_L2 (p1:List GTypeDecl) (n:Nat) (r2:(List GCoded)×Int) (r5:(List (List UInt8))):Nat→Int→Option (Int)
 | 0,_=>none
 | m2+1,z20 =>
  cond (decide (z20<(r2.1.length:Int)))
   (ref05_Check_L3 p1 n r2 r5 z20 (ref05_Check_L2 p1 n r2 r5 m2) n 0)
   (ref05_Check_K2)
def ref05_Check_K1 (p1:List GTypeDecl) (n:Nat) (r2:(List GCoded)×Int) (r5:(List (List UInt8)))  : Option (Int) :=
 ref05_Check_L2 p1 n r2 r5 n 0
def ref05_Check_L1 (p1:List GTypeDecl) (n:Nat) (r2:(List GCoded)×Int) (r5:(List (List UInt8))):Nat→Int→Option (Int)
 | 0,_=>none
 | m1+1,z15 =>
  cond (decide (z15<(r5.length:Int)))
   (bindO (idxO r5 z15) fun x38 =>
   bindO (ref05_intro n p1 x38) fun r40 =>
   cond (!r40.2)
    (some 10)
    ((ref05_Check_L1 p1 n r2 r5 m1) (IntKind.i64.wrap (z15+1))))
   (ref05_Check_K1 p1 n r2 r5)
def ref05_Check (n:Nat) (p1:List GTypeDecl):Option (Int) :=
 bindO (ref04_Codes n p1) fun r2 =>
 cond (r2.2 != 0)
  (some r2.2)
  (bindO (ref05_feats n p1) fun r5 =>
  cond (decide ((r5.length:Int) > 64))
   (some 7)
   (bindO (ref05_declarations n p1) fun r8 =>
   cond (r8 != 0)
    (some r8)
    (ref05_Check_L1 p1 n r2 r5 n 0)))
theorem ref05_Check_0 (n:Nat) (p1:List GTypeDecl) (r:Int) (hF:ref05_Check n p1=some r):EvU Try.prog 39 [.isl false (List.map cGTypeDecl p1)] ⟨[],0⟩ (fun u _=>u = .int .i64 r∧Bel 0 u):=by
 unfold ref05_Check at hF
 refine bg1 78 fn39 ?_
 obtain ⟨r2,h3,hF⟩:=bindO_some hF
 refine go ?_
 refine RS.cl rfl (pC (ref04_Codes_0 n p1 r2 h3) _) fn27 ?_
 refine go ?_
 refine cF hF (fun h4 hF=>?_) (fun h4 hF=>?_)
 exact gx hF
 obtain ⟨r5,h6,hF⟩:=bindO_some hF
 refine go ?_
 refine RS.cl rfl (pC (ref05_feats_0 n p1 r5 h6) _) fn40 ?_
 refine go ?_
 refine cF hF (fun h7 hF=>?_) (fun h7 hF=>?_)
 exact gx hF
 obtain ⟨r8,h9,hF⟩:=bindO_some hF
 refine go ?_
 refine RS.cl rfl (pC (ref05_declarations_0 n p1 r8 h9) _) fn56 ?_
 refine go ?_
 refine cF hF (fun h10 hF=>?_) (fun h10 hF=>?_)
 exact gx hF
 refine go ?_
 refine gS (l':=[(0,_),(3,_),(5,_),(7,_)]) ?_
 refine WPU.loopK (fun m tm σ=>∃ z15:Int,ref05_Check_L1 p1 n r2 r5 m z15=some r∧tm=fr 78 [(0,.iM cGTypeDecl p1),(3,.iM cGCoded r2.1),(5,.iM cS r5),(7,.i6 z15)]∧σ=⟨[],0⟩) (fun tm σ=>ref05_Check_K1 p1 n r2 r5=some r∧tm=fr 78 [(0,.iM cGTypeDecl p1),(3,.iM cGCoded r2.1),(5,.iM cS r5)]∧σ=⟨[],0⟩) n ⟨0,hF,rfl,rfl⟩ ?_ ?_
 rintro _ _ ⟨hF,rfl,rfl⟩
 unfold ref05_Check_K1 at hF
 refine go ?_
 refine gS (l':=[(0,_),(3,_),(5,_),(10,_)]) ?_
 refine WPU.loopK (fun m tm σ=>∃ z20:Int,ref05_Check_L2 p1 n r2 r5 m z20=some r∧tm=fr 78 [(0,.iM cGTypeDecl p1),(3,.iM cGCoded r2.1),(5,.iM cS r5),(10,.i6 z20)]∧σ=⟨[],0⟩) (fun tm σ=>ref05_Check_K2=some r∧tm=fr 78 []∧σ=⟨[],0⟩) n ⟨0,hF,rfl,rfl⟩ ?_ ?_
 rintro _ _ ⟨hF,rfl,rfl⟩
 unfold ref05_Check_K2 at hF
 exact gx hF
 rintro (_|m2) _ _ ⟨z20,hF,rfl,rfl⟩
 cases hF
 unfold ref05_Check_L2 at hF
 refine go ?_
 refine cF hF (fun h21 hF=>?_) (fun h21 hF=>?_)
 refine go ?_
 refine WPU.block ?_
 refine go ?_
 refine gS (l':=[(0,_),(3,_),(5,_),(10,_),(11,_)]) ?_
 refine WPU.loopK (fun m tm σ=>∃ z27:Int,ref05_Check_L3 p1 n r2 r5 z20 (ref05_Check_L2 p1 n r2 r5 m2) m z27=some r∧tm=fr 78 [(0,.iM cGTypeDecl p1),(3,.iM cGCoded r2.1),(5,.iM cS r5),(10,.i6 z20),(11,.i6 z27)]∧σ=⟨[],0⟩) (fun tm σ=>ref05_Check_K3 z20 (ref05_Check_L2 p1 n r2 r5 m2)=some r∧tm=fr 78 [(0,.iM cGTypeDecl p1),(3,.iM cGCoded r2.1),(5,.iM cS r5),(10,.i6 z20)]∧σ=⟨[],0⟩) n ⟨0,hF,rfl,rfl⟩ ?_ ?_
 rintro _ _ ⟨hF,rfl,rfl⟩
 unfold ref05_Check_K3 at hF
 refine go ?_
 exact lC ⟨_,hF,rfl,rfl⟩
 rintro (_|m3) _ _ ⟨z27,hF,rfl,rfl⟩
 cases hF
 unfold ref05_Check_L3 at hF
 refine go ?_
 refine cF hF (fun h28 hF=>?_) (fun h28 hF=>?_)
 refine go ?_
 refine WPU.block ?_
 obtain ⟨x29,h30,hF⟩:=bindO_some hF
 obtain ⟨r31,h32,hF⟩:=bindO_some hF
 refine go ?_
 refine RS.ix h30 ?_
 refine go ?_
 refine RS.cl rfl (pC (ref05_inherited_0 n p1 r2.1 z20 x29 r31 h32) _) fn41 ?_
 obtain ⟨b34,h35,hF⟩:=bindO_some hF
 refine gn ?_
 refine WPU.joinK (fun tm σ=>tm=fr 78 [(0,.iM cGTypeDecl p1),(3,.iM cGCoded r2.1),(5,.iM cS r5),(10,.i6 z20),(11,.i6 z27),(77,.bool b34)]∧σ=⟨[],0⟩) ?_ ?_
 rintro _ _ ⟨rfl,rfl⟩
 refine go ?_
 refine cF hF (fun h36 hF=>?_) (fun h36 hF=>?_)
 exact gx hF
 refine go ?_
 exact lC ⟨_,hF,rfl,rfl⟩
 rcases gB h35 with ⟨h33,h35⟩ | ⟨h33,h35⟩
 exact gy h35
 exact gy h35
 refine go ?_
 exact xC ⟨hF,rfl,rfl⟩
 refine go ?_
 exact xC ⟨hF,rfl,rfl⟩
 rintro (_|m1) _ _ ⟨z15,hF,rfl,rfl⟩
 cases hF
 unfold ref05_Check_L1 at hF
 refine go ?_
 refine cF hF (fun h37 hF=>?_) (fun h37 hF=>?_)
 refine go ?_
 refine WPU.block ?_
 obtain ⟨x38,h39,hF⟩:=bindO_some hF
 obtain ⟨r40,h41,hF⟩:=bindO_some hF
 refine go ?_
 refine RS.ix h39 ?_
 refine go ?_
 refine RS.cl rfl (pC (ref05_intro_0 n p1 x38 r40 h41) _) fn50 ?_
 refine go ?_
 refine cF hF (fun h42 hF=>?_) (fun h42 hF=>?_)
 exact gx hF
 refine go ?_
 exact lC ⟨_,hF,rfl,rfl⟩
 refine go ?_
 exact xC ⟨hF,rfl,rfl⟩
def ref04_Find_K1   : Option (Int) :=
 some (-1)
def ref04_Find_L1 (p1:List GCoded) (n:Nat) (r3:(List Int)):Nat→Int→Option (Int)
 | 0,_=>none
 | m1+1,z8 =>
  cond (decide (z8<(p1.length:Int)))
   (bindO (idxO p1 z8) fun x10 =>
   bindO (ref02_Same n x10.Code r3) fun r12 =>
   cond r12
    (some z8)
    ((ref04_Find_L1 p1 n r3 m1) (IntKind.i64.wrap (z8+1))))
   (ref04_Find_K1)
def ref04_Find (n:Nat) (p1:List GCoded) (p2:List Int):Option (Int) :=
 bindO (ref02_Normal n p2) fun r3 =>
 ref04_Find_L1 p1 n r3 n 0
theorem ref04_Find_0 (n:Nat) (p1:List GCoded) (p2:List Int) (r:Int) (hF:ref04_Find n p1 p2=some r):EvU Try.prog 42 [.isl false (List.map cGCoded p1),.isl false (List.map (cI .u64) p2)] ⟨[],0⟩ (fun u _=>u = .int .i64 r∧Bel 0 u):=by
 unfold ref04_Find at hF
 refine bg2 23 fn42 ?_
 obtain ⟨r3,h4,hF⟩:=bindO_some hF
 refine go ?_
 refine RS.cl rfl (pC (ref02_Normal_0 n p2 r3 h4) _) fn60 ?_
 refine go ?_
 refine gS (l':=[(0,_),(5,_),(6,_)]) ?_
 refine WPU.loopK (fun m tm σ=>∃ z8:Int,ref04_Find_L1 p1 n r3 m z8=some r∧tm=fr 23 [(0,.iM cGCoded p1),(5,.iM (cI .u64) r3),(6,.i6 z8)]∧σ=⟨[],0⟩) (fun tm σ=>ref04_Find_K1=some r∧tm=fr 23 []∧σ=⟨[],0⟩) n ⟨0,hF,rfl,rfl⟩ ?_ ?_
 rintro _ _ ⟨hF,rfl,rfl⟩
 unfold ref04_Find_K1 at hF
 exact gx hF
 rintro (_|m1) _ _ ⟨z8,hF,rfl,rfl⟩
 cases hF
 unfold ref04_Find_L1 at hF
 refine go ?_
 refine cF hF (fun h9 hF=>?_) (fun h9 hF=>?_)
 refine go ?_
 refine WPU.block ?_
 obtain ⟨x10,h11,hF⟩:=bindO_some hF
 obtain ⟨r12,h13,hF⟩:=bindO_some hF
 refine go ?_
 refine RS.ix h11 ?_
 refine go ?_
 refine RS.cl rfl (pC (ref02_Same_0 n x10.Code r3 r12 h13) _) fn61 ?_
 refine go ?_
 refine cF hF (fun h14 hF=>?_) (fun h14 hF=>?_)
 exact gx hF
 refine go ?_
 exact lC ⟨_,hF,rfl,rfl⟩
 refine go ?_
 exact xC ⟨hF,rfl,rfl⟩
def ref05_Values_J3 (z30:Int) (rc2:Int→(List GApprop)→Option ((List (List GApprop))×Int)) (l42:List GApprop):Option ((List (List GApprop))×Int) :=
 rc2 (IntKind.i64.wrap (z30+1)) l42
def ref05_Values_K2 (z15:Int) (l16:List (List GApprop)) (rc1:Int→(List (List GApprop))→Option ((List (List GApprop))×Int)) (l33:List GApprop):Option ((List (List GApprop))×Int) :=
 needO ((l16.length+1)*24≤140737488355328∧l16.length+1≤140737488355328) (
 rc1 (IntKind.i64.wrap (z15+1)) (l16++[l33]))
def ref05_Values_L2 (p1:List GTypeDecl) (n:Nat) (r5:(List GCoded)×Int) (r7:(List (List UInt8))) (z15:Int) (l16:List (List GApprop)) (rc1:Int→(List (List GApprop))→Option ((List (List GApprop))×Int)):Nat→Int→(List GApprop)→Option ((List (List GApprop))×Int)
 | 0,_,_=>none
 | m2+1,z30,l31 =>
  cond (decide (z30<(r7.length:Int)))
   (bindO (idxO r7 z30) fun x37 =>
   bindO (ref05_inherited n p1 r5.1 z15 x37) fun r39 =>
   cond r39.2
    (bindO (ref04_Find n r5.1 r39.1) fun r44 =>
    needO ((l31.length+1)*16≤140737488355328∧l31.length+1≤140737488355328) (
    ref05_Values_J3 z30 (ref05_Values_L2 p1 n r5 r7 z15 l16 rc1 m2) (l31++[(GApprop.mk z30 r44)])))
    (ref05_Values_J3 z30 (ref05_Values_L2 p1 n r5 r7 z15 l16 rc1 m2) l31))
   (ref05_Values_K2 z15 l16 rc1 l31)
def ref05_Values_K1  (l18:List (List GApprop)):Option ((List (List GApprop))×Int) :=
 some (l18,0)
def ref05_Values_L1 (p1:List GTypeDecl) (n:Nat) (r5:(List GCoded)×Int) (r7:(List (List UInt8))):Nat→Int→(List (List GApprop))→Option ((List (List GApprop))×Int)
 | 0,_,_=>none
 | m1+1,z15,l16 =>
  cond (decide (z15<(r5.1.length:Int)))
   (ref05_Values_L2 p1 n r5 r7 z15 l16 (ref05_Values_L1 p1 n r5 r7 m1) n 0 ([]:List GApprop))
   (ref05_Values_K1 l16)
def ref05_Values (n:Nat) (p1:List GTypeDecl):Option ((List (List GApprop))×Int) :=
 bindO (ref05_Check n p1) fun r2 =>
 cond (r2 != 0)
  (some ([],r2))
  (bindO (ref04_Codes n p1) fun r5 =>
  bindO (ref05_feats n p1) fun r7 =>
  ref05_Values_L1 p1 n r5 r7 n 0 ([]:List (List GApprop)))
theorem ref05_Values_0 (n:Nat) (p1:List GTypeDecl) (r:(List (List GApprop))×Int) (hF:ref05_Values n p1=some r):EvU Try.prog 26 [.isl false (List.map cGTypeDecl p1)] ⟨[],0⟩ (fun u _=>u = .tup [.isl false (List.map (cL cGApprop) r.1),.int .i64 r.2]∧Bel 0 u):=by
 unfold ref05_Values at hF
 refine bg1 63 fn26 ?_
 obtain ⟨r2,h3,hF⟩:=bindO_some hF
 refine go ?_
 refine RS.cl rfl (pC (ref05_Check_0 n p1 r2 h3) _) fn39 ?_
 refine go ?_
 refine cF hF (fun h4 hF=>?_) (fun h4 hF=>?_)
 refine go ?_
 obtain rfl:=sI hF
 exact rT (us:=[.nils,.i6 r2]) (u:=.tup [.isl false [],.i6 r2]) (res_t rfl (res_t rfl (res_n))) wR
 obtain ⟨r5,h6,hF⟩:=bindO_some hF
 refine go ?_
 refine RS.cl rfl (pC (ref04_Codes_0 n p1 r5 h6) _) fn27 ?_
 obtain ⟨r7,h8,hF⟩:=bindO_some hF
 refine go ?_
 refine RS.cl rfl (pC (ref05_feats_0 n p1 r7 h8) _) fn40 ?_
 refine gr ?_
 refine gr ?_
 refine WPU.ghost (tm':=fr 63 [(0,.iM cGTypeDecl p1),(5,.iM cGCoded r5.1),(7,.iM cS r7),(8,.vl 0 0 0 (([]:List (List GApprop)).length)),(9,.i6 0)]) (σ':=⟨[(0,.vec (List.map (cL cGApprop) ([]:List (List GApprop))).flatten 91 1 0)],1⟩) (Gh.trans (Gh.nilS 8 91 1 (by decide) NZ rfl rfl) (Gh.eqS ⟨rfl,rfl,rfl,rfl,rfl,trivial⟩ rfl)) NZ ?_
 refine gS (l':=[(0,_),(5,_),(7,_),(8,_),(9,_)]) ?_
 refine WPU.loopK (fun m tm σ=>∃ z15:Int,∃ l16:List (List GApprop),∃ t17:Nat,ref05_Values_L1 p1 n r5 r7 m z15 l16=some r∧tm=fr 63 [(0,.iM cGTypeDecl p1),(5,.iM cGCoded r5.1),(7,.iM cS r7),(8,.vl 0 t17 0 l16.length),(9,.i6 z15)]∧σ=⟨[(0,.vec (List.map (cL cGApprop) l16).flatten 91 1 t17)],1⟩) (fun tm σ=>∃ l18:List (List GApprop),∃ t19:Nat,ref05_Values_K1 l18=some r∧tm=fr 63 [(8,.vl 0 t19 0 l18.length)]∧σ=⟨[(0,.vec (List.map (cL cGApprop) l18).flatten 91 1 t19)],1⟩) n ⟨0,([]:List (List GApprop)),0,hF,rfl,rfl⟩ ?_ ?_
 rintro _ _ ⟨l18,t19,hF,rfl,rfl⟩
 unfold ref05_Values_K1 at hF
 refine go ?_
 obtain rfl:=sI hF
 exact rT (us:=[.vl 0 t19 0 l18.length,.i6 0]) (u:=.tup [.iM (cL cGApprop) l18,.i6 0]) (res_t rfl (res_t rfl (res_n))) (fR 0 1)
 rintro (_|m1) _ _ ⟨z15,l16,t17,hF,rfl,rfl⟩
 cases hF
 unfold ref05_Values_L1 at hF
 refine go ?_
 refine cF hF (fun h20 hF=>?_) (fun h20 hF=>?_)
 refine go ?_
 refine WPU.block ?_
 refine gr ?_
 refine gr ?_
 refine WPU.ghost (tm':=fr 63 [(0,.iM cGTypeDecl p1),(5,.iM cGCoded r5.1),(7,.iM cS r7),(8,.vl 0 t17 0 l16.length),(9,.i6 z15),(10,.vl 1 0 0 (([]:List GApprop).length)),(11,.i6 0)]) (σ':=⟨[(1,.vec (List.map cGApprop ([]:List GApprop)).flatten 113 2 0),(0,.vec (List.map (cL cGApprop) l16).flatten 91 1 t17)],2⟩) (Gh.trans (Gh.nilS 10 113 2 (by decide) NZ rfl rfl) (Gh.eqS ⟨rfl,rfl,rfl,rfl,rfl,rfl,rfl,trivial⟩ rfl)) NZ ?_
 refine gS (l':=[(0,_),(5,_),(7,_),(8,_),(9,_),(10,_),(11,_)]) ?_
 refine WPU.loopK (fun m tm σ=>∃ z30:Int,∃ l31:List GApprop,∃ t32:Nat,ref05_Values_L2 p1 n r5 r7 z15 l16 (ref05_Values_L1 p1 n r5 r7 m1) m z30 l31=some r∧tm=fr 63 [(0,.iM cGTypeDecl p1),(5,.iM cGCoded r5.1),(7,.iM cS r7),(8,.vl 0 t17 0 l16.length),(9,.i6 z15),(10,.vl 1 t32 0 l31.length),(11,.i6 z30)]∧σ=⟨[(1,.vec (List.map cGApprop l31).flatten 113 2 t32),(0,.vec (List.map (cL cGApprop) l16).flatten 91 1 t17)],2⟩) (fun tm σ=>∃ l33:List GApprop,∃ t34:Nat,ref05_Values_K2 z15 l16 (ref05_Values_L1 p1 n r5 r7 m1) l33=some r∧tm=fr 63 [(0,.iM cGTypeDecl p1),(5,.iM cGCoded r5.1),(7,.iM cS r7),(8,.vl 0 t17 0 l16.length),(9,.i6 z15),(10,.vl 1 t34 0 l33.length)]∧σ=⟨[(1,.vec (List.map cGApprop l33).flatten 113 2 t34),(0,.vec (List.map (cL cGApprop) l16).flatten 91 1 t17)],2⟩) n ⟨0,([]:List GApprop),0,hF,rfl,rfl⟩ ?_ ?_
 rintro _ _ ⟨l33,t34,hF,rfl,rfl⟩
 unfold ref05_Values_K2 at hF
 refine gn ?_
 refine WPU.ghost (tm':=fr 63 [(0,.iM cGTypeDecl p1),(5,.iM cGCoded r5.1),(7,.iM cS r7),(8,.vl 0 t17 0 l16.length),(9,.i6 z15),(10,.iM cGApprop l33)]) (σ':=⟨[(0,.vec (List.map (cL cGApprop) l16).flatten 91 1 t17)],2⟩) (Gh.trans (Gh.sub (l':=[(0,.iM cGTypeDecl p1),(5,.iM cGCoded r5.1),(7,.iM cS r7),(8,.vl 0 t17 0 l16.length),(9,.i6 z15),(10,.vl 1 t34 0 l33.length)]) ⟨rfl,rfl,rfl,rfl,rfl,rfl,trivial⟩) (Gh.fzD 1 2)) NZ ?_
 obtain ⟨h35,hF⟩:=needO_some hF
 refine go ?_
 refine RS.g ?_
 refine RS.g ?_
 refine go ?_
 exact lC ⟨_,(l16++[l33]),(t17+1),hF,rfl,rfl⟩
 rintro (_|m2) _ _ ⟨z30,l31,t32,hF,rfl,rfl⟩
 cases hF
 unfold ref05_Values_L2 at hF
 refine go ?_
 refine cF hF (fun h36 hF=>?_) (fun h36 hF=>?_)
 refine go ?_
 refine WPU.block ?_
 obtain ⟨x37,h38,hF⟩:=bindO_some hF
 obtain ⟨r39,h40,hF⟩:=bindO_some hF
 refine go ?_
 refine RS.ix h38 ?_
 refine go ?_
 refine RS.cl rfl (pC (ref05_inherited_0 n p1 r5.1 z15 x37 r39 h40) _) fn41 ?_
 refine gr ?_
 refine WPU.joinK (fun tm σ=>∃ l42:List GApprop,∃ t43:Nat,ref05_Values_J3 z30 (ref05_Values_L2 p1 n r5 r7 z15 l16 (ref05_Values_L1 p1 n r5 r7 m1) m2) l42=some r∧tm=fr 63 [(0,.iM cGTypeDecl p1),(5,.iM cGCoded r5.1),(7,.iM cS r7),(8,.vl 0 t17 0 l16.length),(9,.i6 z15),(10,.vl 1 t43 0 l42.length),(11,.i6 z30)]∧σ=⟨[(1,.vec (List.map cGApprop l42).flatten 113 2 t43),(0,.vec (List.map (cL cGApprop) l16).flatten 91 1 t17)],2⟩) ?_ ?_
 rintro _ _ ⟨l42,t43,hF,rfl,rfl⟩
 unfold ref05_Values_J3 at hF
 refine go ?_
 exact lC ⟨_,l42,t43,hF,rfl,rfl⟩
 refine cF hF (fun h41 hF=>?_) (fun h41 hF=>?_)
 obtain ⟨r44,h45,hF⟩:=bindO_some hF
 obtain ⟨h46,hF⟩:=needO_some hF
 refine go ?_
 refine RS.cl rfl (pC (ref04_Find_0 n r5.1 r39.1 r44 h45) _) fn42 ?_
 refine go ?_
 refine RS.g ?_
 refine RS.g ?_
 refine go ?_
 exact xC ⟨(l31++[(GApprop.mk z30 r44)]),(t32+1),hF,rfl,rfl⟩
 refine go ?_
 exact xC ⟨l31,t32,hF,rfl,rfl⟩
 refine go ?_
 exact xC ⟨l31,t32,hF,rfl,rfl⟩
 refine go ?_
 exact xC ⟨l16,t17,hF,rfl,rfl⟩
def ref04_Supers_J3 (z8:Int) (rc1:Int→(List Int)→Option ((List Int))) (l31:List Int):Option ((List Int)) :=
 rc1 (IntKind.i64.wrap (z8+1)) l31
def ref04_Supers_K2 (z8:Int) (l9:List Int) (rc1:Int→(List Int)→Option ((List Int))) (b29:Bool):Option ((List Int)) :=
 cond b29
  (needO ((l9.length+1)*8≤140737488355328∧l9.length+1≤140737488355328) (
  ref04_Supers_J3 z8 rc1 (l9++[z8])))
  (ref04_Supers_J3 z8 rc1 l9)
def ref04_Supers_L2 (p1:List GCoded) (p2:Int) (n:Nat) (z8:Int) (l9:List Int) (rc1:Int→(List Int)→Option ((List Int))):Nat→Bool→Int→Option ((List Int))
 | 0,_,_=>none
 | m2+1,b27,z28 =>
  cond (decide (z28<(p1.length:Int)))
   (bindO (cond b27
    (cond (z28 == p2)
     (some true)
     (cond (z28 == z8)
      (some true)
      (bindO (ref04_Subsumes n p1 z8 z28) fun r38 =>
      cond (!r38)
       (some true)
       (bindO (ref04_Subsumes n p1 z28 p2) fun r41 =>
       some (!r41)))))
    (some false)) fun b43 =>
   (ref04_Supers_L2 p1 p2 n z8 l9 rc1 m2) b43 (IntKind.i64.wrap (z28+1)))
   (ref04_Supers_K2 z8 l9 rc1 b27)
def ref04_Supers_K1  (l11:List Int):Option ((List Int)) :=
 some l11
def ref04_Supers_L1 (p1:List GCoded) (p2:Int) (n:Nat):Nat→Int→(List Int)→Option ((List Int))
 | 0,_,_=>none
 | m1+1,z8,l9 =>
  cond (decide (z8<(p1.length:Int)))
   (bindO (cond (z8 == p2)
    (some true)
    (bindO (ref04_Subsumes n p1 z8 p2) fun r15 =>
    some (!r15))) fun b17 =>
   cond b17
    ((ref04_Supers_L1 p1 p2 n m1) (IntKind.i64.wrap (z8+1)) l9)
    (ref04_Supers_L2 p1 p2 n z8 l9 (ref04_Supers_L1 p1 p2 n m1) n true 0))
   (ref04_Supers_K1 l9)
def ref04_Supers (n:Nat) (p1:List GCoded) (p2:Int):Option ((List Int)) :=
 ref04_Supers_L1 p1 p2 n n 0 ([]:List Int)
theorem ref04_Supers_0 (n:Nat) (p1:List GCoded) (p2:Int) (r:(List Int)) (hF:ref04_Supers n p1 p2=some r):EvU Try.prog 28 [.isl false (List.map cGCoded p1),.int .i64 p2] ⟨[],0⟩ (fun u _=>u = .isl false (List.map (cI .i64) r)∧Bel 0 u):=by
 unfold ref04_Supers at hF
 refine bg2 62 fn28 ?_
 refine gr ?_
 refine gr ?_
 refine gr ?_
 refine WPU.ghost (tm':=fr 62 [(0,.iM cGCoded p1),(1,.i6 p2),(5,.vl 0 0 0 (([]:List Int).length)),(6,.i6 0)]) (σ':=⟨[(0,.vec (List.map (cI .i64) ([]:List Int)).flatten 3 1 0)],1⟩) (Gh.trans (Gh.nilS 5 3 1 (by decide) NZ rfl rfl) (Gh.eqS ⟨rfl,rfl,rfl,rfl,trivial⟩ rfl)) NZ ?_
 refine gS (l':=[(0,_),(1,_),(5,_),(6,_)]) ?_
 refine WPU.loopK (fun m tm σ=>∃ z8:Int,∃ l9:List Int,∃ t10:Nat,ref04_Supers_L1 p1 p2 n m z8 l9=some r∧tm=fr 62 [(0,.iM cGCoded p1),(1,.i6 p2),(5,.vl 0 t10 0 l9.length),(6,.i6 z8)]∧σ=⟨[(0,.vec (List.map (cI .i64) l9).flatten 3 1 t10)],1⟩) (fun tm σ=>∃ l11:List Int,∃ t12:Nat,ref04_Supers_K1 l11=some r∧tm=fr 62 [(5,.vl 0 t12 0 l11.length)]∧σ=⟨[(0,.vec (List.map (cI .i64) l11).flatten 3 1 t12)],1⟩) n ⟨0,([]:List Int),0,hF,rfl,rfl⟩ ?_ ?_
 rintro _ _ ⟨l11,t12,hF,rfl,rfl⟩
 unfold ref04_Supers_K1 at hF
 refine go ?_
 obtain rfl:=sI hF
 exact rT (us:=[.vl 0 t12 0 l11.length]) (u:=.iM (cI .i64) l11) (res_t rfl (res_n)) (fR 0 1)
 rintro (_|m1) _ _ ⟨z8,l9,t10,hF,rfl,rfl⟩
 cases hF
 unfold ref04_Supers_L1 at hF
 refine go ?_
 refine cF hF (fun h13 hF=>?_) (fun h13 hF=>?_)
 refine go ?_
 refine WPU.block ?_
 obtain ⟨b17,h18,hF⟩:=bindO_some hF
 refine gn ?_
 refine WPU.joinK (fun tm σ=>tm=fr 62 [(0,.iM cGCoded p1),(1,.i6 p2),(5,.vl 0 t10 0 l9.length),(6,.i6 z8),(24,.bool b17)]∧σ=⟨[(0,.vec (List.map (cI .i64) l9).flatten 3 1 t10)],1⟩) ?_ ?_
 rintro _ _ ⟨rfl,rfl⟩
 refine go ?_
 refine cF hF (fun h19 hF=>?_) (fun h19 hF=>?_)
 refine go ?_
 exact lC ⟨_,l9,t10,hF,rfl,rfl⟩
 refine go ?_
 refine gS (l':=[(0,_),(1,_),(5,_),(6,_),(7,_),(8,_)]) ?_
 refine WPU.loopK (fun m tm σ=>∃ b27:Bool,∃ z28:Int,ref04_Supers_L2 p1 p2 n z8 l9 (ref04_Supers_L1 p1 p2 n m1) m b27 z28=some r∧tm=fr 62 [(0,.iM cGCoded p1),(1,.i6 p2),(5,.vl 0 t10 0 l9.length),(6,.i6 z8),(7,.bool b27),(8,.i6 z28)]∧σ=⟨[(0,.vec (List.map (cI .i64) l9).flatten 3 1 t10)],1⟩) (fun tm σ=>∃ b29:Bool,ref04_Supers_K2 z8 l9 (ref04_Supers_L1 p1 p2 n m1) b29=some r∧tm=fr 62 [(0,.iM cGCoded p1),(1,.i6 p2),(5,.vl 0 t10 0 l9.length),(6,.i6 z8),(7,.bool b29)]∧σ=⟨[(0,.vec (List.map (cI .i64) l9).flatten 3 1 t10)],1⟩) n ⟨true,0,hF,rfl,rfl⟩ ?_ ?_
 rintro _ _ ⟨b29,hF,rfl,rfl⟩
 unfold ref04_Supers_K2 at hF
 refine gr ?_
 refine WPU.joinK (fun tm σ=>∃ l31:List Int,∃ t32:Nat,ref04_Supers_J3 z8 (ref04_Supers_L1 p1 p2 n m1) l31=some r∧tm=fr 62 [(0,.iM cGCoded p1),(1,.i6 p2),(5,.vl 0 t32 0 l31.length),(6,.i6 z8)]∧σ=⟨[(0,.vec (List.map (cI .i64) l31).flatten 3 1 t32)],1⟩) ?_ ?_
 rintro _ _ ⟨l31,t32,hF,rfl,rfl⟩
 unfold ref04_Supers_J3 at hF
 refine go ?_
 exact lC ⟨_,l31,t32,hF,rfl,rfl⟩
 refine cF hF (fun h30 hF=>?_) (fun h30 hF=>?_)
 obtain ⟨h33,hF⟩:=needO_some hF
 refine go ?_
 refine RS.g ?_
 refine RS.g ?_
 refine go ?_
 exact xC ⟨(l9++[z8]),(t10+1),hF,rfl,rfl⟩
 refine go ?_
 exact xC ⟨l9,t10,hF,rfl,rfl⟩
 rintro (_|m2) _ _ ⟨b27,z28,hF,rfl,rfl⟩
 cases hF
 unfold ref04_Supers_L2 at hF
 refine go ?_
 refine cF hF (fun h34 hF=>?_) (fun h34 hF=>?_)
 refine go ?_
 refine WPU.block ?_
 obtain ⟨b43,h44,hF⟩:=bindO_some hF
 refine gn ?_
 refine WPU.joinK (fun tm σ=>tm=fr 62 [(0,.iM cGCoded p1),(1,.i6 p2),(5,.vl 0 t10 0 l9.length),(6,.i6 z8),(7,.bool b43),(8,.i6 z28)]∧σ=⟨[(0,.vec (List.map (cI .i64) l9).flatten 3 1 t10)],1⟩) ?_ ?_
 rintro _ _ ⟨rfl,rfl⟩
 refine go ?_
 exact lC ⟨b43,(IntKind.i64.wrap (z28+1)),hF,rfl,rfl⟩
 rcases gB h44 with ⟨h35,h44⟩ | ⟨h35,h44⟩
 rcases gB h44 with ⟨h36,h44⟩ | ⟨h36,h44⟩
 exact gy h44
 rcases gB h44 with ⟨h37,h44⟩ | ⟨h37,h44⟩
 exact gy h44
 obtain ⟨r38,h39,h44⟩:=bindO_some h44
 rcases gB h44 with ⟨h40,h44⟩ | ⟨h40,h44⟩
 obtain rfl:=sI h44
 refine go ?_
 refine RS.cl rfl (pC (ref04_Subsumes_0 n p1 z8 z28 r38 h39) _) fn49 ?_
 refine go ?_
 exact xC ⟨rfl,rfl⟩
 obtain ⟨r41,h42,h44⟩:=bindO_some h44
 obtain rfl:=sI h44
 refine go ?_
 refine RS.cl rfl (pC (ref04_Subsumes_0 n p1 z8 z28 r38 h39) _) fn49 ?_
 refine go ?_
 refine RS.cl rfl (pC (ref04_Subsumes_0 n p1 z28 p2 r41 h42) _) fn49 ?_
 refine go ?_
 exact xC ⟨rfl,rfl⟩
 obtain rfl:=sI h44
 refine go ?_
 repeat refine RS.no (wantT rfl rfl rfl) rfl rfl ?_
 refine go ?_
 repeat refine RS.no (wantT rfl rfl rfl) rfl rfl ?_
 refine go ?_
 repeat refine RS.no (wantT rfl rfl rfl) rfl rfl ?_
 refine go ?_
 exact xC ⟨rfl,rfl⟩
 refine go ?_
 exact xC ⟨b27,hF,rfl,rfl⟩
 rcases gB h18 with ⟨h14,h18⟩ | ⟨h14,h18⟩
 exact gy h18
 obtain ⟨r15,h16,h18⟩:=bindO_some h18
 obtain rfl:=sI h18
 refine go ?_
 refine RS.cl rfl (pC (ref04_Subsumes_0 n p1 z8 p2 r15 h16) _) fn49 ?_
 refine go ?_
 exact xC ⟨rfl,rfl⟩
 refine go ?_
 exact xC ⟨l9,t10,hF,rfl,rfl⟩
def ref05_Features_K1  (l18:List GFeature):Option ((List GFeature)×Int) :=
 some (l18,0)
def ref05_Features_L1 (p1:List GTypeDecl) (n:Nat) (r5:(List GCoded)×Int) (r7:(List (List UInt8))):Nat→Int→(List GFeature)→Option ((List GFeature)×Int)
 | 0,_,_=>none
 | m1+1,z15,l16 =>
  cond (decide (z15<(r7.length:Int)))
   (bindO (idxO r7 z15) fun x21 =>
   bindO (ref05_intro n p1 x21) fun r23 =>
   bindO (idxO r7 z15) fun x25 =>
   bindO (ref05_number n r5.1 r23.1) fun r27 =>
   needO ((l16.length+1)*24≤140737488355328∧l16.length+1≤140737488355328) (
   (ref05_Features_L1 p1 n r5 r7 m1) (IntKind.i64.wrap (z15+1)) (l16++[(GFeature.mk x25 r27)])))
   (ref05_Features_K1 l16)
def ref05_Features (n:Nat) (p1:List GTypeDecl):Option ((List GFeature)×Int) :=
 bindO (ref05_Check n p1) fun r2 =>
 cond (r2 != 0)
  (some ([],r2))
  (bindO (ref04_Codes n p1) fun r5 =>
  bindO (ref05_feats n p1) fun r7 =>
  ref05_Features_L1 p1 n r5 r7 n 0 ([]:List GFeature))
theorem ref05_Features_0 (n:Nat) (p1:List GTypeDecl) (r:(List GFeature)×Int) (hF:ref05_Features n p1=some r):EvU Try.prog 29 [.isl false (List.map cGTypeDecl p1)] ⟨[],0⟩ (fun u _=>u = .tup [.isl false (List.map cGFeature r.1),.int .i64 r.2]∧Bel 0 u):=by
 unfold ref05_Features at hF
 refine bg1 51 fn29 ?_
 obtain ⟨r2,h3,hF⟩:=bindO_some hF
 refine go ?_
 refine RS.cl rfl (pC (ref05_Check_0 n p1 r2 h3) _) fn39 ?_
 refine go ?_
 refine cF hF (fun h4 hF=>?_) (fun h4 hF=>?_)
 refine go ?_
 obtain rfl:=sI hF
 exact rT (us:=[.nils,.i6 r2]) (u:=.tup [.isl false [],.i6 r2]) (res_t rfl (res_t rfl (res_n))) wR
 obtain ⟨r5,h6,hF⟩:=bindO_some hF
 refine go ?_
 refine RS.cl rfl (pC (ref04_Codes_0 n p1 r5 h6) _) fn27 ?_
 obtain ⟨r7,h8,hF⟩:=bindO_some hF
 refine go ?_
 refine RS.cl rfl (pC (ref05_feats_0 n p1 r7 h8) _) fn40 ?_
 refine gr ?_
 refine gr ?_
 refine WPU.ghost (tm':=fr 51 [(0,.iM cGTypeDecl p1),(5,.iM cGCoded r5.1),(7,.iM cS r7),(8,.vl 0 0 0 (([]:List GFeature).length)),(9,.i6 0)]) (σ':=⟨[(0,.vec (List.map cGFeature ([]:List GFeature)).flatten 124 2 0)],1⟩) (Gh.trans (Gh.nilS 8 124 2 (by decide) NZ rfl rfl) (Gh.eqS ⟨rfl,rfl,rfl,rfl,rfl,trivial⟩ rfl)) NZ ?_
 refine gS (l':=[(0,_),(5,_),(7,_),(8,_),(9,_)]) ?_
 refine WPU.loopK (fun m tm σ=>∃ z15:Int,∃ l16:List GFeature,∃ t17:Nat,ref05_Features_L1 p1 n r5 r7 m z15 l16=some r∧tm=fr 51 [(0,.iM cGTypeDecl p1),(5,.iM cGCoded r5.1),(7,.iM cS r7),(8,.vl 0 t17 0 l16.length),(9,.i6 z15)]∧σ=⟨[(0,.vec (List.map cGFeature l16).flatten 124 2 t17)],1⟩) (fun tm σ=>∃ l18:List GFeature,∃ t19:Nat,ref05_Features_K1 l18=some r∧tm=fr 51 [(8,.vl 0 t19 0 l18.length)]∧σ=⟨[(0,.vec (List.map cGFeature l18).flatten 124 2 t19)],1⟩) n ⟨0,([]:List GFeature),0,hF,rfl,rfl⟩ ?_ ?_
 rintro _ _ ⟨l18,t19,hF,rfl,rfl⟩
 unfold ref05_Features_K1 at hF
 refine go ?_
 obtain rfl:=sI hF
 exact rT (us:=[.vl 0 t19 0 l18.length,.i6 0]) (u:=.tup [.iM cGFeature l18,.i6 0]) (res_t rfl (res_t rfl (res_n))) (fR 0 2)
 rintro (_|m1) _ _ ⟨z15,l16,t17,hF,rfl,rfl⟩
 cases hF
 unfold ref05_Features_L1 at hF
 refine go ?_
 refine cF hF (fun h20 hF=>?_) (fun h20 hF=>?_)
 refine go ?_
 refine WPU.block ?_
 obtain ⟨x21,h22,hF⟩:=bindO_some hF
 obtain ⟨r23,h24,hF⟩:=bindO_some hF
 refine go ?_
 refine RS.ix h22 ?_
 refine go ?_
 refine RS.cl rfl (pC (ref05_intro_0 n p1 x21 r23 h24) _) fn50 ?_
 obtain ⟨x25,h26,hF⟩:=bindO_some hF
 obtain ⟨r27,h28,hF⟩:=bindO_some hF
 obtain ⟨h29,hF⟩:=needO_some hF
 refine go ?_
 refine WPU.drawE Try.tb_ok [(0,9)] (by kernel_rfl) ?_
 refine gd ?_
 refine RD.ix h26 ?_
 refine gd ?_
 refine RD.fl rfl (pC (ref05_number_0 n r5.1 r23.1 r27 h28)) fn51 ?_
 refine gd ?_
 refine RD.g ?_
 refine RD.g ?_
 refine gd ?_
 refine RD.done ⟨by kernel_rfl,⟨op_move rfl,trivial⟩,?_⟩
 refine go ?_
 exact lC ⟨_,(l16++[(GFeature.mk x25 r27)]),(t17+1),hF,rfl,rfl⟩
 refine go ?_
 exact xC ⟨l16,t17,hF,rfl,rfl⟩
def ref06_Compile_K1 (p1:List GTypeDecl) (n:Nat) (l16:List GType):Option (GHierarchy×Int) :=
 bindO (ref05_Features n p1) fun r18 =>
 some ((GHierarchy.mk l16 r18.1),0)
def ref06_Compile_L1 (p1:List GTypeDecl) (n:Nat) (r2:(List (List GApprop))×Int) (r5:(List GCoded)×Int):Nat→Int→(List GType)→Option (GHierarchy×Int)
 | 0,_,_=>none
 | m1+1,z13,l14 =>
  cond (decide (z13<(r5.1.length:Int)))
   (bindO (idxO r5.1 z13) fun x21 =>
   bindO (idxO r5.1 z13) fun x23 =>
   bindO (ref04_Supers n r5.1 z13) fun r25 =>
   bindO (idxO r2.1 z13) fun x27 =>
   needO ((l14.length+1)*88≤140737488355328∧l14.length+1≤140737488355328) (
   (ref06_Compile_L1 p1 n r2 r5 m1) (IntKind.i64.wrap (z13+1)) (l14++[(GType.mk x21.Name x23.Code r25 x27)])))
   (ref06_Compile_K1 p1 n l14)
def ref06_Compile (n:Nat) (p1:List GTypeDecl):Option (GHierarchy×Int) :=
 bindO (ref05_Values n p1) fun r2 =>
 cond (r2.2 != 0)
  (some ((GHierarchy.mk [] []),r2.2))
  (bindO (ref04_Codes n p1) fun r5 =>
  ref06_Compile_L1 p1 n r2 r5 n 0 ([]:List GType))
theorem ref06_Compile_0 (n:Nat) (p1:List GTypeDecl) (r:GHierarchy×Int) (hF:ref06_Compile n p1=some r):EvU Try.prog 17 [.isl false (List.map cGTypeDecl p1)] ⟨[],0⟩ (fun u _=>u = .tup [.agg (cGHierarchy r.1),.int .i64 r.2]∧Bel 0 u):=by
 unfold ref06_Compile at hF
 refine bg1 63 fn17 ?_
 obtain ⟨r2,h3,hF⟩:=bindO_some hF
 refine go ?_
 refine RS.cl rfl (pC (ref05_Values_0 n p1 r2 h3) _) fn26 ?_
 refine go ?_
 refine cF hF (fun h4 hF=>?_) (fun h4 hF=>?_)
 refine go ?_
 obtain rfl:=sI hF
 exact rT (us:=[.agg [.nils,.nils],.i6 r2.2]) (u:=.tup [.agg [.isl false [],.isl false []],.i6 r2.2]) (res_c (ld_agg un29.h rfl (sz_of if29.h) rfl rfl rfl) (res_t rfl (res_n))) wR
 obtain ⟨r5,h6,hF⟩:=bindO_some hF
 refine go ?_
 refine RS.cl rfl (pC (ref04_Codes_0 n p1 r5 h6) _) fn27 ?_
 refine gr ?_
 refine gr ?_
 refine WPU.ghost (tm':=fr 63 [(0,.iM cGTypeDecl p1),(2,.ptr 0 0 0),(4,.iM (cL cGApprop) r2.1),(6,.iM cGCoded r5.1),(8,.ptr 1 0 0),(9,.i6 0)]) (σ':=⟨[(2,.vec (List.map cGType ([]:List GType)).flatten 93 4 0),(1,.row [.vl 2 0 0 (([]:List GType).length),.nils] 29),(0,.row [.nils,.nils] 29)],3⟩) (Gh.trans (Gh.nilC 1 0 93 4 (by decide) NZ rfl rfl) (Gh.eqS ⟨rfl,rfl,rfl,rfl,rfl,rfl,trivial⟩ rfl)) NZ ?_
 refine gS (l':=[(0,_),(2,_),(4,_),(6,_),(8,_),(9,_)]) ?_
 refine WPU.loopK (fun m tm σ=>∃ z13:Int,∃ l14:List GType,∃ t15:Nat,ref06_Compile_L1 p1 n r2 r5 m z13 l14=some r∧tm=fr 63 [(0,.iM cGTypeDecl p1),(2,.ptr 0 0 0),(4,.iM (cL cGApprop) r2.1),(6,.iM cGCoded r5.1),(8,.ptr 1 0 0),(9,.i6 z13)]∧σ=⟨[(2,.vec (List.map cGType l14).flatten 93 4 t15),(1,.row [.vl 2 t15 0 l14.length,.nils] 29),(0,.row [.nils,.nils] 29)],3⟩) (fun tm σ=>∃ l16:List GType,∃ t17:Nat,ref06_Compile_K1 p1 n l16=some r∧tm=fr 63 [(0,.iM cGTypeDecl p1),(2,.ptr 0 0 0),(8,.ptr 1 0 0)]∧σ=⟨[(2,.vec (List.map cGType l16).flatten 93 4 t17),(1,.row [.vl 2 t17 0 l16.length,.nils] 29),(0,.row [.nils,.nils] 29)],3⟩) n ⟨0,([]:List GType),0,hF,rfl,rfl⟩ ?_ ?_
 rintro _ _ ⟨l16,t17,hF,rfl,rfl⟩
 unfold ref06_Compile_K1 at hF
 obtain ⟨r18,h19,hF⟩:=bindO_some hF
 refine go ?_
 refine RS.cl rfl (pC (ref05_Features_0 n p1 r18 h19) _) fn29 ?_
 refine go ?_
 obtain rfl:=sI hF
 exact rT (us:=[.agg [.vl 2 t17 0 l16.length,.iM cGFeature r18.1],.i6 0]) (u:=.tup [.agg [.iM cGType l16,.iM cGFeature r18.1],.i6 0]) (res_c (ld_agg un29.h rfl (sz_of if29.h) rfl rfl rfl) (res_t rfl (res_n))) (fR 2 4)
 rintro (_|m1) _ _ ⟨z13,l14,t15,hF,rfl,rfl⟩
 cases hF
 unfold ref06_Compile_L1 at hF
 refine go ?_
 refine cF hF (fun h20 hF=>?_) (fun h20 hF=>?_)
 refine go ?_
 refine WPU.block ?_
 obtain ⟨x21,h22,hF⟩:=bindO_some hF
 obtain ⟨x23,h24,hF⟩:=bindO_some hF
 obtain ⟨r25,h26,hF⟩:=bindO_some hF
 obtain ⟨x27,h28,hF⟩:=bindO_some hF
 obtain ⟨h29,hF⟩:=needO_some hF
 refine go ?_
 refine WPU.drawE Try.tb_ok [(0,20),(1,20)] (by kernel_rfl) ?_
 refine gd ?_
 refine RD.ix h22 ?_
 refine gd ?_
 refine RD.ix h24 ?_
 refine gd ?_
 refine RD.fl rfl (pC (ref04_Supers_0 n r5.1 z13 r25 h26)) fn28 ?_
 refine gd ?_
 refine RD.ix h28 ?_
 refine gd ?_
 refine RD.g ?_
 refine RD.g ?_
 refine gd ?_
 refine RD.gz ?_
 refine RD.done ⟨by kernel_rfl,⟨op_fa un29.h rfl (sz_of if26.h) rfl rfl rfl,⟨ld_one un26.h rfl rfl rfl rfl,trivial⟩⟩,?_⟩
 refine go ?_
 exact lC ⟨_,(l14++[(GType.mk x21.Name x23.Code r25 x27)]),(t15+1),hF,rfl,rfl⟩
 refine go ?_
 exact xC ⟨l14,t15,hF,rfl,rfl⟩
def law12_small (n:Nat)  : Option (GHierarchy) :=
 bindO (ref06_Compile n ([(GTypeDecl.mk ([116,111,112]) [] ([(GFeatDecl.mk ([70]) ([116,111,112])),(GFeatDecl.mk ([71]) ([116,111,112]))])),(GTypeDecl.mk ([120]) ([[116,111,112]]) []),(GTypeDecl.mk ([121]) ([[116,111,112]]) [])])) fun r1 =>
 some (GHierarchy.mk r1.1.Types r1.1.Feats)
theorem law12_small_0 (n:Nat)  (r:GHierarchy) (hF:law12_small n  = some r):EvU Try.prog 6 [] ⟨[],0⟩ (fun u _=>u = .agg (cGHierarchy r)∧Bel 0 u):=by
 unfold law12_small at hF
 refine bg0 17 fn6 ?_
 obtain ⟨r1,h2,hF⟩:=bindO_some hF
 refine go ?_
 refine RS.q (u:=.sl 1 0 2 2) (σ':=⟨[(1,.row [.str ([70]),.str ([116,111,112]),.str ([71]),.str ([116,111,112])] 57),(0,.row [.nils,.nils] 29)],2⟩) rfl (op_bsl un58.h if57.h rfl rfl rfl rfl rfl rfl rfl) ?_
 refine go ?_
 refine RS.g ?_
 refine go ?_
 refine RS.g ?_
 refine go ?_
 refine RS.q (u:=.sl 4 0 3 3) (σ':=⟨[(4,.row [.str ([116,111,112]),.nils,.sl 1 0 2 2,.str ([120]),.sl 2 0 1 1,.nils,.str ([121]),.sl 3 0 1 1,.nils] 61),(3,.row [.str ([116,111,112])] 9),(2,.row [.str ([116,111,112])] 9),(1,.row [.str ([70]),.str ([116,111,112]),.str ([71]),.str ([116,111,112])] 57),(0,.row [.nils,.nils] 29)],5⟩) rfl (op_bsl un62.h if61.h rfl rfl rfl rfl rfl rfl rfl) (RS.fc rfl (Gh.trans (Gh.fzC 1 2) (Gh.trans (Gh.fzC 2 1) (Gh.trans (Gh.fzC 3 1) (Gh.trans (Gh.rowC 4) (Gh.fzC 4 3))))) (pC (ref06_Compile_0 n ([(GTypeDecl.mk ([116,111,112]) [] ([(GFeatDecl.mk ([70]) ([116,111,112])),(GFeatDecl.mk ([71]) ([116,111,112]))])),(GTypeDecl.mk ([120]) ([[116,111,112]]) []),(GTypeDecl.mk ([121]) ([[116,111,112]]) [])]) r1 h2) _) fn17 ?_)
 refine go ?_
 obtain rfl:=sI hF
 exact rT (res_c (ld_agg un29.h rfl (sz_of if29.h) rfl rfl rfl) (res_n)) (Gh.toR _ rfl)
def ref07_Atom (n:Nat) (p1:Int):Option (GFS) :=
 some (GFS.mk ([(GNode.mk p1 [])]))
theorem ref07_Atom_0 (n:Nat) (p1:Int) (r:GFS) (hF:ref07_Atom n p1=some r):EvU Try.prog 10 [.int .i64 p1] ⟨[],0⟩ (fun u _=>u = .agg [.isl false (List.map cGNode r.Nodes)]∧Bel 0 u):=by
 unfold ref07_Atom at hF
 refine bg1 7 fn10 ?_
 refine go ?_
 refine RS.g ?_
 refine go ?_
 obtain rfl:=sI hF
 exact ⟨.inr rfl,[.agg [.sl 1 0 1 1]],res_c (ld_agg un35.h rfl (sz_of if35.h) rfl rfl rfl) (res_n),.agg [.iM cGNode ([(GNode.mk p1 [])])],⟨[],0⟩,Nat.le_refl _,Gh.trans (Gh.trans (Gh.rowC 1) (Gh.fzC 1 2)) (Gh.toR (.agg [.iM cGNode ([(GNode.mk p1 [])])]) rfl),rfl,BU.h⟩
def ref07_numbers_K2 (z6:Int) (rc1:Int→(List Int)→Option ((List Int))) (l28:List Int):Option ((List Int)) :=
 rc1 (IntKind.i64.wrap (z6+1)) l28
def ref07_numbers_L2 (z6:Int) (rc1:Int→(List Int)→Option ((List Int))) (x12:GNode):Nat→Int→(List Int)→Option ((List Int))
 | 0,_,_=>none
 | m2+1,z25,l26 =>
  cond (decide (z25<(x12.Arcs.length:Int)))
   (bindO (idxO x12.Arcs z25) fun x31 =>
   bindO (idxO x12.Arcs z25) fun x33 =>
   needO ((l26.length+2)*8≤140737488355328∧l26.length+2≤140737488355328) (
   (ref07_numbers_L2 z6 rc1 x12 m2) (IntKind.i64.wrap (z25+1)) (l26++[x31.Feat,x33.To])))
   (ref07_numbers_K2 z6 rc1 l26)
def ref07_numbers_K1  (l9:List Int):Option ((List Int)) :=
 some l9
def ref07_numbers_L1 (p1:GFS) (n:Nat):Nat→Int→(List Int)→Option ((List Int))
 | 0,_,_=>none
 | m1+1,z6,l7 =>
  cond (decide (z6<(p1.Nodes.length:Int)))
   (bindO (idxO p1.Nodes z6) fun x12 =>
   bindO (idxO p1.Nodes z6) fun x14 =>
   needO ((l7.length+2)*8≤140737488355328∧l7.length+2≤140737488355328) (
   ref07_numbers_L2 z6 (ref07_numbers_L1 p1 n m1) x12 n 0 (l7++[x14.Typex,(x12.Arcs.length:Int)])))
   (ref07_numbers_K1 l7)
def ref07_numbers (n:Nat) (p1:GFS):Option ((List Int)) :=
 ref07_numbers_L1 p1 n n 0 ([(p1.Nodes.length:Int)])
theorem ref07_numbers_0 (n:Nat) (p1:GFS) (r:(List Int)) (hF:ref07_numbers n p1=some r):EvU Try.prog 38 [.agg [.isl false (List.map cGNode p1.Nodes)]] ⟨[],0⟩ (fun u _=>u = .isl false (List.map (cI .i64) r)∧Bel 0 u):=by
 unfold ref07_numbers at hF
 refine bg1 55 fn38 ?_
 refine go ?_
 refine RS.step (u:=.vl 1 0 0 ([(p1.Nodes.length:Int)].length)) (σ':=⟨[(1,.vec (List.map (cI .i64) ([(p1.Nodes.length:Int)])).flatten 3 1 0),(0,.row [.iM cGNode p1.Nodes] 35)],2⟩) rfl (StepU.bslv (cs:=(List.map (cI .i64) [(p1.Nodes.length:Int)]).flatten) Try.tb_ok rfl un22.h if3.h rfl rfl rfl rfl rfl rfl rfl rfl) rfl rfl ?_
 refine go ?_
 refine gS (l':=[(1,_),(3,_),(4,_)]) ?_
 refine WPU.loopK (fun m tm σ=>∃ z6:Int,∃ l7:List Int,∃ t8:Nat,ref07_numbers_L1 p1 n m z6 l7=some r∧tm=fr 55 [(1,.ptr 0 0 0),(3,.vl 1 t8 0 l7.length),(4,.i6 z6)]∧σ=⟨[(1,.vec (List.map (cI .i64) l7).flatten 3 1 t8),(0,.row [.iM cGNode p1.Nodes] 35)],2⟩) (fun tm σ=>∃ l9:List Int,∃ t10:Nat,ref07_numbers_K1 l9=some r∧tm=fr 55 [(3,.vl 1 t10 0 l9.length)]∧σ=⟨[(1,.vec (List.map (cI .i64) l9).flatten 3 1 t10),(0,.row [.iM cGNode p1.Nodes] 35)],2⟩) n ⟨0,[(p1.Nodes.length:Int)],0,hF,rfl,rfl⟩ ?_ ?_
 rintro _ _ ⟨l9,t10,hF,rfl,rfl⟩
 unfold ref07_numbers_K1 at hF
 refine go ?_
 obtain rfl:=sI hF
 exact rT (us:=[.vl 1 t10 0 l9.length]) (u:=.iM (cI .i64) l9) (res_t rfl (res_n)) (fR 1 1)
 rintro (_|m1) _ _ ⟨z6,l7,t8,hF,rfl,rfl⟩
 cases hF
 unfold ref07_numbers_L1 at hF
 refine go ?_
 refine cF hF (fun h11 hF=>?_) (fun h11 hF=>?_)
 refine go ?_
 refine WPU.block ?_
 obtain ⟨x12,h13,hF⟩:=bindO_some hF
 refine go ?_
 refine RS.ix h13 ?_
 obtain ⟨x14,h15,hF⟩:=bindO_some hF
 obtain ⟨h16,hF⟩:=needO_some hF
 refine go ?_
 refine RS.ix h15 ?_
 refine go ?_
 refine RS.g ?_
 refine RS.q (u:=.vl 1 (t8+1) 0 ((l7++[x14.Typex,(x12.Arcs.length:Int)]).length)) (σ':=⟨[(2,.row [.i6 x14.Typex,.i6 (x12.Arcs.length:Int)] 3),(1,.vec (List.map (cI .i64) (l7++[x14.Typex,(x12.Arcs.length:Int)])).flatten 3 1 (t8+1)),(0,.row [.iM cGNode p1.Nodes] 35)],3⟩) rfl (op_app rfl rfl rfl rfl (app_vl (cI .i64) ([x14.Typex,(x12.Arcs.length:Int)]) un22.h un22.h if3.h rfl (len_cI .i64) rfl (src_row (cI .i64) [x14.Typex,(x12.Arcs.length:Int)] rfl rfl rfl rfl) h16)) ?_
 refine go ?_
 refine gS (l':=[(1,_),(3,_),(4,_),(5,_),(6,_)]) ?_
 refine WPU.loopK (fun m tm σ=>∃ z25:Int,∃ l26:List Int,∃ t27:Nat,ref07_numbers_L2 z6 (ref07_numbers_L1 p1 n m1) x12 m z25 l26=some r∧tm=fr 55 [(1,.ptr 0 0 0),(3,.vl 1 t27 0 l26.length),(4,.i6 z6),(5,.iM cGArc x12.Arcs),(6,.i6 z25)]∧σ=⟨[(2,.row [.i6 x14.Typex,.i6 (x12.Arcs.length:Int)] 3),(1,.vec (List.map (cI .i64) l26).flatten 3 1 t27),(0,.row [.iM cGNode p1.Nodes] 35)],3⟩) (fun tm σ=>∃ l28:List Int,∃ t29:Nat,ref07_numbers_K2 z6 (ref07_numbers_L1 p1 n m1) l28=some r∧tm=fr 55 [(1,.ptr 0 0 0),(3,.vl 1 t29 0 l28.length),(4,.i6 z6)]∧σ=⟨[(2,.row [.i6 x14.Typex,.i6 (x12.Arcs.length:Int)] 3),(1,.vec (List.map (cI .i64) l28).flatten 3 1 t29),(0,.row [.iM cGNode p1.Nodes] 35)],3⟩) n ⟨0,(l7++[x14.Typex,(x12.Arcs.length:Int)]),(t8+1),hF,rfl,rfl⟩ ?_ ?_
 rintro _ _ ⟨l28,t29,hF,rfl,rfl⟩
 unfold ref07_numbers_K2 at hF
 refine go ?_
 exact lC ⟨_,l28,t29,hF,rfl,rfl⟩
 rintro (_|m2) _ _ ⟨z25,l26,t27,hF,rfl,rfl⟩
 cases hF
 unfold ref07_numbers_L2 at hF
 refine go ?_
 refine cF hF (fun h30 hF=>?_) (fun h30 hF=>?_)
 refine go ?_
 refine WPU.block ?_
 obtain ⟨x31,h32,hF⟩:=bindO_some hF
 obtain ⟨x33,h34,hF⟩:=bindO_some hF
 obtain ⟨h35,hF⟩:=needO_some hF
 refine go ?_
 refine WPU.drawE Try.tb_ok [(0,11)] (by kernel_rfl) ?_
 refine gd ?_
 refine RD.ix h32 ?_
 refine gd ?_
 refine RD.ix h34 ?_
 refine gd ?_
 refine RD.g ?_
 refine RD.act (u:=.vl 1 (t27+1) 0 ((l26++[x31.Feat,x33.To]).length)) (σ':=⟨[(3,.row [.i6 x31.Feat,.i6 x33.To] 3),(2,.row [.i6 x14.Typex,.i6 (x12.Arcs.length:Int)] 3),(1,.vec (List.map (cI .i64) (l26++[x31.Feat,x33.To])).flatten 3 1 (t27+1)),(0,.row [.iM cGNode p1.Nodes] 35)],4⟩) rfl (op_app rfl rfl rfl rfl (app_vl (cI .i64) ([x31.Feat,x33.To]) un22.h un22.h if3.h rfl (len_cI .i64) rfl (src_row (cI .i64) [x31.Feat,x33.To] rfl rfl rfl rfl) h35)) rfl rfl ?_
 refine gd ?_
 refine RD.done ⟨by kernel_rfl,⟨op_move rfl,trivial⟩,?_⟩
 refine go ?_
 exact lC ⟨_,(l26++[x31.Feat,x33.To]),(t27+1),hF,rfl,rfl⟩
 refine go ?_
 exact xC ⟨l26,t27,hF,rfl,rfl⟩
 refine go ?_
 exact xC ⟨l7,t8,hF,rfl,rfl⟩
def ref07_Compare_K1   : Option (Int) :=
 some 0
def ref07_Compare_L1 (r3:(List Int)) (r5:(List Int)):Nat→Int→Option (Int)
 | 0,_=>none
 | m1+1,z12 =>
  bindO (cond (decide (z12<(r3.length:Int)))
   (some (decide (z12<(r5.length:Int))))
   (some false)) fun b14 =>
  cond b14
   (bindO (idxO r3 z12) fun x17 =>
   bindO (idxO r5 z12) fun x19 =>
   cond (decide (x17<x19))
    (some (-1))
    (bindO (idxO r3 z12) fun x22 =>
    bindO (idxO r5 z12) fun x24 =>
    cond (decide (x22 > x24))
     (some 1)
     ((ref07_Compare_L1 r3 r5 m1) (IntKind.i64.wrap (z12+1)))))
   (ref07_Compare_K1)
def ref07_Compare (n:Nat) (p1:GFS) (p2:GFS):Option (Int) :=
 bindO (ref07_numbers n p1) fun r3 =>
 bindO (ref07_numbers n p2) fun r5 =>
 ref07_Compare_L1 r3 r5 n 0
theorem ref07_Compare_0 (n:Nat) (p1:GFS) (p2:GFS) (r:Int) (hF:ref07_Compare n p1 p2=some r):EvU Try.prog 25 [.agg [.isl false (List.map cGNode p1.Nodes)],.agg [.isl false (List.map cGNode p2.Nodes)]] ⟨[],0⟩ (fun u _=>u = .int .i64 r∧Bel 0 u):=by
 unfold ref07_Compare at hF
 refine bg2 42 fn25 ?_
 obtain ⟨r3,h4,hF⟩:=bindO_some hF
 refine go ?_
 refine RS.cl rfl (pC (ref07_numbers_0 n p1 r3 h4) _) fn38 ?_
 obtain ⟨r5,h6,hF⟩:=bindO_some hF
 refine go ?_
 refine RS.cl rfl (pC (ref07_numbers_0 n p2 r5 h6) _) fn38 ?_
 refine go ?_
 refine gS (l':=[(5,_),(6,_),(7,_)]) ?_
 refine WPU.loopK (fun m tm σ=>∃ z12:Int,ref07_Compare_L1 r3 r5 m z12=some r∧tm=fr 42 [(5,.iM (cI .i64) r3),(6,.iM (cI .i64) r5),(7,.i6 z12)]∧σ=⟨[(1,.row [.iM cGNode p2.Nodes] 35),(0,.row [.iM cGNode p1.Nodes] 35)],2⟩) (fun tm σ=>ref07_Compare_K1=some r∧tm=fr 42 []∧σ=⟨[(1,.row [.iM cGNode p2.Nodes] 35),(0,.row [.iM cGNode p1.Nodes] 35)],2⟩) n ⟨0,hF,rfl,rfl⟩ ?_ ?_
 rintro _ _ ⟨hF,rfl,rfl⟩
 unfold ref07_Compare_K1 at hF
 exact gx hF
 rintro (_|m1) _ _ ⟨z12,hF,rfl,rfl⟩
 cases hF
 unfold ref07_Compare_L1 at hF
 obtain ⟨b14,h15,hF⟩:=bindO_some hF
 refine gn ?_
 refine WPU.joinK (fun tm σ=>tm=fr 42 [(5,.iM (cI .i64) r3),(6,.iM (cI .i64) r5),(7,.i6 z12),(21,.bool b14)]∧σ=⟨[(1,.row [.iM cGNode p2.Nodes] 35),(0,.row [.iM cGNode p1.Nodes] 35)],2⟩) ?_ ?_
 rintro _ _ ⟨rfl,rfl⟩
 refine go ?_
 refine cF hF (fun h16 hF=>?_) (fun h16 hF=>?_)
 refine go ?_
 refine WPU.block ?_
 obtain ⟨x17,h18,hF⟩:=bindO_some hF
 obtain ⟨x19,h20,hF⟩:=bindO_some hF
 refine go ?_
 refine WPU.drawE Try.tb_ok [] (by kernel_rfl) ?_
 refine gd ?_
 refine RD.ix h18 ?_
 refine gd ?_
 refine RD.ix h20 ?_
 refine gd ?_
 refine RD.done ⟨by kernel_rfl,trivial,?_⟩
 refine go ?_
 refine cF hF (fun h21 hF=>?_) (fun h21 hF=>?_)
 exact gx hF
 obtain ⟨x22,h23,hF⟩:=bindO_some hF
 obtain ⟨x24,h25,hF⟩:=bindO_some hF
 refine go ?_
 refine WPU.drawE Try.tb_ok [] (by kernel_rfl) ?_
 refine gd ?_
 refine RD.ix h23 ?_
 refine gd ?_
 refine RD.ix h25 ?_
 refine gd ?_
 refine RD.done ⟨by kernel_rfl,trivial,?_⟩
 refine go ?_
 refine cF hF (fun h26 hF=>?_) (fun h26 hF=>?_)
 exact gx hF
 refine go ?_
 exact lC ⟨_,hF,rfl,rfl⟩
 refine go ?_
 exact xC ⟨hF,rfl,rfl⟩
 rcases gB h15 with ⟨h13,h15⟩ | ⟨h13,h15⟩
 exact gy h15
 exact gy h15
def ref07_Equal (n:Nat) (p1:GFS) (p2:GFS):Option (Bool) :=
 bindO (ref07_Compare n p1 p2) fun r3 =>
 some (r3 == 0)
theorem ref07_Equal_0 (n:Nat) (p1:GFS) (p2:GFS) (r:Bool) (hF:ref07_Equal n p1 p2=some r):EvU Try.prog 16 [.agg [.isl false (List.map cGNode p1.Nodes)],.agg [.isl false (List.map cGNode p2.Nodes)]] ⟨[],0⟩ (fun u _=>u = .bool r∧Bel 0 u):=by
 unfold ref07_Equal at hF
 refine bg2 9 fn16 ?_
 obtain ⟨r3,h4,hF⟩:=bindO_some hF
 refine go ?_
 refine RS.cl rfl (pC (ref07_Compare_0 n p1 p2 r3 h4) _) fn25 ?_
 exact gx hF
def law12_of (n:Nat) (p1:List GNode):Option (GFS) :=
 some (GFS.mk p1)
theorem law12_of_0 (n:Nat) (p1:List GNode) (r:GFS) (hF:law12_of n p1=some r):EvU Try.prog 12 [.isl false (List.map cGNode p1)] ⟨[],0⟩ (fun u _=>u = .agg [.isl false (List.map cGNode r.Nodes)]∧Bel 0 u):=by
 unfold law12_of at hF
 refine bg1 5 fn12 ?_
 refine go ?_
 obtain rfl:=sI hF
 exact rT (res_c (ld_agg un35.h rfl (sz_of if35.h) rfl rfl rfl) (res_n)) (Gh.toR _ rfl)
def law12_node_K1 (p1:Int) (l12:List GArc):Option (GNode) :=
 some (GNode.mk p1 l12)
def law12_node_L1 (p1:Int) (p2:List Int):Nat→Int→(List GArc)→Option (GNode)
 | 0,_,_=>none
 | m1+1,z9,l10 =>
  cond (decide ((IntKind.i64.wrap (z9+1))<(p2.length:Int)))
   (bindO (idxO p2 z9) fun x15 =>
   bindO (idxO p2 (IntKind.i64.wrap (z9+1))) fun x17 =>
   needO ((l10.length+1)*16≤140737488355328∧l10.length+1≤140737488355328) (
   (law12_node_L1 p1 p2 m1) (IntKind.i64.wrap (z9+2)) (l10++[(GArc.mk x15 x17)])))
   (law12_node_K1 p1 l10)
def law12_node (n:Nat) (p1:Int) (p2:List Int):Option (GNode) :=
 law12_node_L1 p1 p2 n 0 ([]:List GArc)
theorem law12_node_0 (n:Nat) (p1:Int) (p2:List Int) (r:GNode) (hF:law12_node n p1 p2=some r):EvU Try.prog 13 [.int .i64 p1,.isl false (List.map (cI .i64) p2)] ⟨[],0⟩ (fun u _=>u = .agg (cGNode r)∧Bel 0 u):=by
 unfold law12_node at hF
 refine bg2 32 fn13 ?_
 refine gr ?_
 refine gr ?_
 refine gr ?_
 refine WPU.ghost (tm':=fr 32 [(1,.iM (cI .i64) p2),(4,.ptr 0 0 0),(5,.ptr 1 0 0),(6,.i6 0)]) (σ':=⟨[(2,.vec (List.map cGArc ([]:List GArc)).flatten 68 2 0),(1,.row [.i6 p1,.vl 2 0 0 (([]:List GArc).length)] 42),(0,.row [.i6 0,.nils] 42)],3⟩) (Gh.trans (Gh.nilC 1 1 68 2 (by decide) NZ rfl rfl) (Gh.eqS ⟨rfl,rfl,rfl,rfl,trivial⟩ rfl)) NZ ?_
 refine gS (l':=[(1,_),(4,_),(5,_),(6,_)]) ?_
 refine WPU.loopK (fun m tm σ=>∃ z9:Int,∃ l10:List GArc,∃ t11:Nat,law12_node_L1 p1 p2 m z9 l10=some r∧tm=fr 32 [(1,.iM (cI .i64) p2),(4,.ptr 0 0 0),(5,.ptr 1 0 0),(6,.i6 z9)]∧σ=⟨[(2,.vec (List.map cGArc l10).flatten 68 2 t11),(1,.row [.i6 p1,.vl 2 t11 0 l10.length] 42),(0,.row [.i6 0,.nils] 42)],3⟩) (fun tm σ=>∃ l12:List GArc,∃ t13:Nat,law12_node_K1 p1 l12=some r∧tm=fr 32 [(4,.ptr 0 0 0),(5,.ptr 1 0 0)]∧σ=⟨[(2,.vec (List.map cGArc l12).flatten 68 2 t13),(1,.row [.i6 p1,.vl 2 t13 0 l12.length] 42),(0,.row [.i6 0,.nils] 42)],3⟩) n ⟨0,([]:List GArc),0,hF,rfl,rfl⟩ ?_ ?_
 rintro _ _ ⟨l12,t13,hF,rfl,rfl⟩
 unfold law12_node_K1 at hF
 refine go ?_
 obtain rfl:=sI hF
 exact rT (us:=[.agg [.i6 p1,.vl 2 t13 0 l12.length]]) (u:=.agg [.i6 p1,.iM cGArc l12]) (res_c (ld_agg un42.h rfl (sz_of if42.h) rfl rfl rfl) (res_n)) (fR 2 2)
 rintro (_|m1) _ _ ⟨z9,l10,t11,hF,rfl,rfl⟩
 cases hF
 unfold law12_node_L1 at hF
 refine go ?_
 refine cF hF (fun h14 hF=>?_) (fun h14 hF=>?_)
 refine go ?_
 refine WPU.block ?_
 obtain ⟨x15,h16,hF⟩:=bindO_some hF
 obtain ⟨x17,h18,hF⟩:=bindO_some hF
 obtain ⟨h19,hF⟩:=needO_some hF
 refine go ?_
 refine WPU.drawE Try.tb_ok [(0,12),(1,12)] (by kernel_rfl) ?_
 refine gd ?_
 refine RD.ix h16 ?_
 refine gd ?_
 refine RD.ix h18 ?_
 refine gd ?_
 refine RD.g ?_
 refine RD.g ?_
 refine gd ?_
 refine RD.gz ?_
 refine RD.done ⟨by kernel_rfl,⟨op_fa un42.h rfl (sz_of if40.h) rfl rfl rfl,⟨ld_one un40.h rfl rfl rfl rfl,trivial⟩⟩,?_⟩
 refine go ?_
 exact lC ⟨_,(l10++[(GArc.mk x15 x17)]),(t11+1),hF,rfl,rfl⟩
 refine go ?_
 exact xC ⟨l10,t11,hF,rfl,rfl⟩
end Go.Proofs
end
