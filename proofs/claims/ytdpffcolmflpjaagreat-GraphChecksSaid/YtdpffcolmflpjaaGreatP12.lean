/-
  Texts of the walk: Tab07z Ins07z MpS MpC MpD MpE MpF MpT MpU Fn07z H1z.
-/
import Derived.Test.YtdpffcolmflpjaaGreatProg
import Derived.Test.YtdpffcolmflpjaaGreatP11
set_option linter.unusedSimpArgs false
set_option linter.unusedVariables false
section
namespace Go.Proofs
open Go Go.Rx
noncomputable def Tryz.tb:Tb:=tbOf Tryz.prog []
theorem Tryz.mixed:Tryz.prog.follows .mixedOrders=true:=by kernel_rfl
theorem Tryz.eqs_ok:∀ t∈([]:List TypeId),Tryz.prog.stoodInHeld t=false∧Tryz.prog.eqGuardType Tryz.prog.depth t=false:=by
 intro t ht
 cases ht
theorem Tryz.names_ok : (Tryz.prog.funcs.toList.all fun f => !(f.name == "runtime.NumGoroutine")) = true := by kernel_rfl
theorem Tryz.tb_ok:qef Tryz.prog Tryz.tb:=z3w Tryz.prog [] Tryz.mixed (fun f hf _=>by
 have:=List.all_eq_true.1 Tryz.names_ok f hf
 simpa using this) Tryz.eqs_ok
theorem Tryz.und3:Tryz.tb.und 3=some (.int .i64):=by kernel_rfl
theorem Tryz.inf3:Tryz.tb.inf 3=some (1,8,.int .i64 0):=by kernel_rfl
theorem Tryz.und4:Tryz.tb.und 4=some (.bool):=by kernel_rfl
theorem Tryz.inf4:Tryz.tb.inf 4=some (1,1,.bool false):=by kernel_rfl
theorem Tryz.und9:Tryz.tb.und 9=some (.string):=by kernel_rfl
theorem Tryz.inf9:Tryz.tb.inf 9=some (1,16,.string ⟨#[]⟩):=by kernel_rfl
theorem Tryz.und22:Tryz.tb.und 22=some (.slice 69):=by kernel_rfl
theorem Tryz.und23:Tryz.tb.und 23=some (.slice 40):=by kernel_rfl
theorem Tryz.inf23:Tryz.tb.inf 23=some (1,24,.slice none 0 0):=by kernel_rfl
theorem Tryz.und25 : Tryz.tb.und 25 = some (.struct #[⟨ "Nodes", 23, 0, false, "", "", 0⟩]) := by kernel_rfl
theorem Tryz.inf25:Tryz.tb.inf 25=some (1,24,.agg #[.slice none 0 0]):=by kernel_rfl
theorem Tryz.und28:Tryz.tb.und 28=some (.slice 63):=by kernel_rfl
theorem Tryz.inf28:Tryz.tb.inf 28=some (1,24,.slice none 0 0):=by kernel_rfl
theorem Tryz.und29:Tryz.tb.und 29=some (.slice 96):=by kernel_rfl
theorem Tryz.inf29:Tryz.tb.inf 29=some (1,24,.slice none 0 0):=by kernel_rfl
theorem Tryz.und31 : Tryz.tb.und 31 = some (.struct #[⟨ "Types", 28, 0, false, "", "", 0⟩, ⟨ "Feats", 29, 1, false, "", "", 24⟩]) := by kernel_rfl
theorem Tryz.inf31:Tryz.tb.inf 31=some (2,48,.agg #[.slice none 0 0,.slice none 0 0]):=by kernel_rfl
theorem Tryz.und38:Tryz.tb.und 38=some (.slice 72):=by kernel_rfl
theorem Tryz.inf38:Tryz.tb.inf 38=some (1,24,.slice none 0 0):=by kernel_rfl
theorem Tryz.und40 : Tryz.tb.und 40 = some (.struct #[⟨ "Type", 3, 0, false, "", "", 0⟩, ⟨ "Arcs", 38, 1, false, "", "", 8⟩]) := by kernel_rfl
theorem Tryz.inf40:Tryz.tb.inf 40=some (2,32,.agg #[.int .i64 0,.slice none 0 0]):=by kernel_rfl
theorem Tryz.und49:Tryz.tb.und 49=some (.slice 61):=by kernel_rfl
theorem Tryz.und52:Tryz.tb.und 52=some (.slice 58):=by kernel_rfl
theorem Tryz.und56:Tryz.tb.und 56=some (.slice 134):=by kernel_rfl
theorem Tryz.inf56:Tryz.tb.inf 56=some (1,24,.slice none 0 0):=by kernel_rfl
theorem Tryz.und58 : Tryz.tb.und 58 = some (.struct #[⟨ "Name", 9, 0, false, "", "", 0⟩, ⟨ "Code", 56, 1, false, "", "", 16⟩]) := by kernel_rfl
theorem Tryz.inf58:Tryz.tb.inf 58=some (2,40,.agg #[.string ⟨#[]⟩,.slice none 0 0]):=by kernel_rfl
theorem Tryz.und59:Tryz.tb.und 59=some (.slice 3):=by kernel_rfl
theorem Tryz.inf59:Tryz.tb.inf 59=some (1,24,.slice none 0 0):=by kernel_rfl
theorem Tryz.und61:Tryz.tb.und 61=some (.slice 85):=by kernel_rfl
theorem Tryz.inf61:Tryz.tb.inf 61=some (1,24,.slice none 0 0):=by kernel_rfl
theorem Tryz.und63 : Tryz.tb.und 63 = some (.struct #[⟨ "Name", 9, 0, false, "", "", 0⟩, ⟨ "Code", 56, 1, false, "", "", 16⟩, ⟨ "Supers", 59, 2, false, "", "", 40⟩, ⟨ "Feats", 61, 3, false, "", "", 64⟩]) := by kernel_rfl
theorem Tryz.inf63:Tryz.tb.inf 63=some (4,88,.agg #[.string ⟨#[]⟩,.slice none 0 0,.slice none 0 0,.slice none 0 0]):=by kernel_rfl
theorem Tryz.und66:Tryz.tb.und 66=some (.slice 9):=by kernel_rfl
theorem Tryz.inf66:Tryz.tb.inf 66=some (1,24,.slice none 0 0):=by kernel_rfl
theorem Tryz.und67:Tryz.tb.und 67=some (.slice 98):=by kernel_rfl
theorem Tryz.inf67:Tryz.tb.inf 67=some (1,24,.slice none 0 0):=by kernel_rfl
theorem Tryz.und69 : Tryz.tb.und 69 = some (.struct #[⟨ "Name", 9, 0, false, "", "", 0⟩, ⟨ "Supers", 66, 1, false, "", "", 16⟩, ⟨ "Feats", 67, 2, false, "", "", 40⟩]) := by kernel_rfl
theorem Tryz.inf69:Tryz.tb.inf 69=some (3,64,.agg #[.string ⟨#[]⟩,.slice none 0 0,.slice none 0 0]):=by kernel_rfl
theorem Tryz.und72 : Tryz.tb.und 72 = some (.struct #[⟨ "Feat", 3, 0, false, "", "", 0⟩, ⟨ "To", 3, 1, false, "", "", 8⟩]) := by kernel_rfl
theorem Tryz.inf72:Tryz.tb.inf 72=some (2,16,.agg #[.int .i64 0,.int .i64 0]):=by kernel_rfl
theorem Tryz.und74:Tryz.tb.und 74=some (.slice 4):=by kernel_rfl
theorem Tryz.inf74:Tryz.tb.inf 74=some (1,24,.slice none 0 0):=by kernel_rfl
theorem Tryz.und75:Tryz.tb.und 75=some (.func #[3] #[4] false):=by kernel_rfl
theorem Tryz.inf75:Tryz.tb.inf 75=some (1,8,.nilFunc):=by kernel_rfl
theorem Tryz.und85 : Tryz.tb.und 85 = some (.struct #[⟨ "Feat", 3, 0, false, "", "", 0⟩, ⟨ "Value", 3, 1, false, "", "", 8⟩]) := by kernel_rfl
theorem Tryz.inf85:Tryz.tb.inf 85=some (2,16,.agg #[.int .i64 0,.int .i64 0]):=by kernel_rfl
theorem Tryz.und86:Tryz.tb.und 86=some (.slice 56):=by kernel_rfl
theorem Tryz.und96 : Tryz.tb.und 96 = some (.struct #[⟨ "Name", 9, 0, false, "", "", 0⟩, ⟨ "Intro", 3, 1, false, "", "", 16⟩]) := by kernel_rfl
theorem Tryz.inf96:Tryz.tb.inf 96=some (2,24,.agg #[.string ⟨#[]⟩,.int .i64 0]):=by kernel_rfl
theorem Tryz.und98 : Tryz.tb.und 98 = some (.struct #[⟨ "Feat", 9, 0, false, "", "", 0⟩, ⟨ "Value", 9, 1, false, "", "", 16⟩]) := by kernel_rfl
theorem Tryz.inf98:Tryz.tb.inf 98=some (2,32,.agg #[.string ⟨#[]⟩,.string ⟨#[]⟩]):=by kernel_rfl
theorem Tryz.und100:Tryz.tb.und 100=some (.map 3 4):=by kernel_rfl
theorem Tryz.und101:Tryz.tb.und 101=some (.map 3 3):=by kernel_rfl
theorem Tryz.inf101:Tryz.tb.inf 101=some (1,8,.map none):=by kernel_rfl
theorem Tryz.und102:Tryz.tb.und 102=some (.func #[3] #[] false):=by kernel_rfl
theorem Tryz.inf102:Tryz.tb.inf 102=some (1,8,.nilFunc):=by kernel_rfl
theorem Tryz.und128 : Tryz.tb.und 128 = some (.struct #[⟨ "f", 25, 0, false, "", "grammarlab/grammarlabref07", 0⟩, ⟨ "number", 59, 1, false, "", "grammarlab/grammarlabref07", 24⟩, ⟨ "order", 59, 2, false, "", "grammarlab/grammarlabref07", 48⟩]) := by kernel_rfl
theorem Tryz.inf128:Tryz.tb.inf 128=some (3,72,.agg #[.slice none 0 0,.slice none 0 0,.slice none 0 0]):=by kernel_rfl
theorem Tryz.und134:Tryz.tb.und 134=some (.int .u64):=by kernel_rfl
theorem Tryz.inf134:Tryz.tb.inf 134=some (1,8,.int .u64 0):=by kernel_rfl
theorem Tryz.und138:Tryz.tb.und 138=some (.int .u64):=by kernel_rfl
end Go.Proofs
end
section
namespace Go.Proofs
open Go Go.Rx Go.Vx
instance Tryz.un3:UnC Tryz.tb 3 (.int .i64):=⟨Tryz.und3⟩
instance Tryz.un4:UnC Tryz.tb 4 (.bool):=⟨Tryz.und4⟩
instance Tryz.un9:UnC Tryz.tb 9 (.string):=⟨Tryz.und9⟩
instance Tryz.un22:UnC Tryz.tb 22 (.slice 69):=⟨Tryz.und22⟩
instance Tryz.un23:UnC Tryz.tb 23 (.slice 40):=⟨Tryz.und23⟩
instance Tryz.un25 : UnC Tryz.tb 25 (.struct #[⟨ "Nodes", 23, 0, false, "", "", 0⟩]) := ⟨Tryz.und25⟩
instance Tryz.un28:UnC Tryz.tb 28 (.slice 63):=⟨Tryz.und28⟩
instance Tryz.un29:UnC Tryz.tb 29 (.slice 96):=⟨Tryz.und29⟩
instance Tryz.un31 : UnC Tryz.tb 31 (.struct #[⟨ "Types", 28, 0, false, "", "", 0⟩, ⟨ "Feats", 29, 1, false, "", "", 24⟩]) := ⟨Tryz.und31⟩
instance Tryz.un38:UnC Tryz.tb 38 (.slice 72):=⟨Tryz.und38⟩
instance Tryz.un40 : UnC Tryz.tb 40 (.struct #[⟨ "Type", 3, 0, false, "", "", 0⟩, ⟨ "Arcs", 38, 1, false, "", "", 8⟩]) := ⟨Tryz.und40⟩
instance Tryz.un49:UnC Tryz.tb 49 (.slice 61):=⟨Tryz.und49⟩
instance Tryz.un52:UnC Tryz.tb 52 (.slice 58):=⟨Tryz.und52⟩
instance Tryz.un56:UnC Tryz.tb 56 (.slice 134):=⟨Tryz.und56⟩
instance Tryz.un58 : UnC Tryz.tb 58 (.struct #[⟨ "Name", 9, 0, false, "", "", 0⟩, ⟨ "Code", 56, 1, false, "", "", 16⟩]) := ⟨Tryz.und58⟩
instance Tryz.un59:UnC Tryz.tb 59 (.slice 3):=⟨Tryz.und59⟩
instance Tryz.un61:UnC Tryz.tb 61 (.slice 85):=⟨Tryz.und61⟩
instance Tryz.un63 : UnC Tryz.tb 63 (.struct #[⟨ "Name", 9, 0, false, "", "", 0⟩, ⟨ "Code", 56, 1, false, "", "", 16⟩, ⟨ "Supers", 59, 2, false, "", "", 40⟩, ⟨ "Feats", 61, 3, false, "", "", 64⟩]) := ⟨Tryz.und63⟩
instance Tryz.un66:UnC Tryz.tb 66 (.slice 9):=⟨Tryz.und66⟩
instance Tryz.un67:UnC Tryz.tb 67 (.slice 98):=⟨Tryz.und67⟩
instance Tryz.un69 : UnC Tryz.tb 69 (.struct #[⟨ "Name", 9, 0, false, "", "", 0⟩, ⟨ "Supers", 66, 1, false, "", "", 16⟩, ⟨ "Feats", 67, 2, false, "", "", 40⟩]) := ⟨Tryz.und69⟩
instance Tryz.un72 : UnC Tryz.tb 72 (.struct #[⟨ "Feat", 3, 0, false, "", "", 0⟩, ⟨ "To", 3, 1, false, "", "", 8⟩]) := ⟨Tryz.und72⟩
instance Tryz.un74:UnC Tryz.tb 74 (.slice 4):=⟨Tryz.und74⟩
instance Tryz.un75:UnC Tryz.tb 75 (.func #[3] #[4] false):=⟨Tryz.und75⟩
instance Tryz.un85 : UnC Tryz.tb 85 (.struct #[⟨ "Feat", 3, 0, false, "", "", 0⟩, ⟨ "Value", 3, 1, false, "", "", 8⟩]) := ⟨Tryz.und85⟩
instance Tryz.un86:UnC Tryz.tb 86 (.slice 56):=⟨Tryz.und86⟩
instance Tryz.un96 : UnC Tryz.tb 96 (.struct #[⟨ "Name", 9, 0, false, "", "", 0⟩, ⟨ "Intro", 3, 1, false, "", "", 16⟩]) := ⟨Tryz.und96⟩
instance Tryz.un98 : UnC Tryz.tb 98 (.struct #[⟨ "Feat", 9, 0, false, "", "", 0⟩, ⟨ "Value", 9, 1, false, "", "", 16⟩]) := ⟨Tryz.und98⟩
instance Tryz.un100:UnC Tryz.tb 100 (.map 3 4):=⟨Tryz.und100⟩
instance Tryz.un101:UnC Tryz.tb 101 (.map 3 3):=⟨Tryz.und101⟩
instance Tryz.un102:UnC Tryz.tb 102 (.func #[3] #[] false):=⟨Tryz.und102⟩
instance Tryz.un128 : UnC Tryz.tb 128 (.struct #[⟨ "f", 25, 0, false, "", "grammarlab/grammarlabref07", 0⟩, ⟨ "number", 59, 1, false, "", "grammarlab/grammarlabref07", 24⟩, ⟨ "order", 59, 2, false, "", "grammarlab/grammarlabref07", 48⟩]) := ⟨Tryz.und128⟩
instance Tryz.un134:UnC Tryz.tb 134 (.int .u64):=⟨Tryz.und134⟩
instance Tryz.un138:UnC Tryz.tb 138 (.int .u64):=⟨Tryz.und138⟩
instance Tryz.if3:InC Tryz.tb 3 1 8 (.int .i64 0):=⟨Tryz.inf3⟩
instance Tryz.ze3:ZeC Tryz.tb 3 [.int .i64 0]:=⟨_,_,_,Tryz.inf3,rfl,rfl⟩
instance Tryz.if4:InC Tryz.tb 4 1 1 (.bool false):=⟨Tryz.inf4⟩
instance Tryz.if9:InC Tryz.tb 9 1 16 (.string ⟨#[]⟩):=⟨Tryz.inf9⟩
instance Tryz.ze9:ZeC Tryz.tb 9 [.str []]:=⟨_,_,_,Tryz.inf9,rfl,rfl⟩
instance Tryz.if23:InC Tryz.tb 23 1 24 (.slice none 0 0):=⟨Tryz.inf23⟩
instance Tryz.if25:InC Tryz.tb 25 1 24 (.agg #[.slice none 0 0]):=⟨Tryz.inf25⟩
instance Tryz.ze25:ZeC Tryz.tb 25 [.nils]:=⟨_,_,_,Tryz.inf25,rfl,rfl⟩
instance Tryz.if28:InC Tryz.tb 28 1 24 (.slice none 0 0):=⟨Tryz.inf28⟩
instance Tryz.if29:InC Tryz.tb 29 1 24 (.slice none 0 0):=⟨Tryz.inf29⟩
instance Tryz.if31:InC Tryz.tb 31 2 48 (.agg #[.slice none 0 0,.slice none 0 0]):=⟨Tryz.inf31⟩
instance Tryz.ze31:ZeC Tryz.tb 31 [.nils,.nils]:=⟨_,_,_,Tryz.inf31,rfl,rfl⟩
instance Tryz.if38:InC Tryz.tb 38 1 24 (.slice none 0 0):=⟨Tryz.inf38⟩
instance Tryz.if40:InC Tryz.tb 40 2 32 (.agg #[.int .i64 0,.slice none 0 0]):=⟨Tryz.inf40⟩
instance Tryz.ze40:ZeC Tryz.tb 40 [.int .i64 0,.nils]:=⟨_,_,_,Tryz.inf40,rfl,rfl⟩
instance Tryz.if56:InC Tryz.tb 56 1 24 (.slice none 0 0):=⟨Tryz.inf56⟩
instance Tryz.ze56:ZeC Tryz.tb 56 [.nils]:=⟨_,_,_,Tryz.inf56,rfl,rfl⟩
instance Tryz.if58:InC Tryz.tb 58 2 40 (.agg #[.string ⟨#[]⟩,.slice none 0 0]):=⟨Tryz.inf58⟩
instance Tryz.ze58:ZeC Tryz.tb 58 [.str [],.nils]:=⟨_,_,_,Tryz.inf58,rfl,rfl⟩
instance Tryz.if59:InC Tryz.tb 59 1 24 (.slice none 0 0):=⟨Tryz.inf59⟩
instance Tryz.ze59:ZeC Tryz.tb 59 [.nils]:=⟨_,_,_,Tryz.inf59,rfl,rfl⟩
instance Tryz.if61:InC Tryz.tb 61 1 24 (.slice none 0 0):=⟨Tryz.inf61⟩
instance Tryz.ze61:ZeC Tryz.tb 61 [.nils]:=⟨_,_,_,Tryz.inf61,rfl,rfl⟩
instance Tryz.if63:InC Tryz.tb 63 4 88 (.agg #[.string ⟨#[]⟩,.slice none 0 0,.slice none 0 0,.slice none 0 0]):=⟨Tryz.inf63⟩
instance Tryz.ze63:ZeC Tryz.tb 63 [.str [],.nils,.nils,.nils]:=⟨_,_,_,Tryz.inf63,rfl,rfl⟩
instance Tryz.if66:InC Tryz.tb 66 1 24 (.slice none 0 0):=⟨Tryz.inf66⟩
instance Tryz.if67:InC Tryz.tb 67 1 24 (.slice none 0 0):=⟨Tryz.inf67⟩
instance Tryz.if69:InC Tryz.tb 69 3 64 (.agg #[.string ⟨#[]⟩,.slice none 0 0,.slice none 0 0]):=⟨Tryz.inf69⟩
instance Tryz.ze69:ZeC Tryz.tb 69 [.str [],.nils,.nils]:=⟨_,_,_,Tryz.inf69,rfl,rfl⟩
instance Tryz.if72:InC Tryz.tb 72 2 16 (.agg #[.int .i64 0,.int .i64 0]):=⟨Tryz.inf72⟩
instance Tryz.ze72:ZeC Tryz.tb 72 [.int .i64 0,.int .i64 0]:=⟨_,_,_,Tryz.inf72,rfl,rfl⟩
instance Tryz.if74:InC Tryz.tb 74 1 24 (.slice none 0 0):=⟨Tryz.inf74⟩
instance Tryz.if75:InC Tryz.tb 75 1 8 (.nilFunc):=⟨Tryz.inf75⟩
instance Tryz.ze75:ZeC Tryz.tb 75 [.nilf]:=⟨_,_,_,Tryz.inf75,rfl,rfl⟩
instance Tryz.if85:InC Tryz.tb 85 2 16 (.agg #[.int .i64 0,.int .i64 0]):=⟨Tryz.inf85⟩
instance Tryz.ze85:ZeC Tryz.tb 85 [.int .i64 0,.int .i64 0]:=⟨_,_,_,Tryz.inf85,rfl,rfl⟩
instance Tryz.if96:InC Tryz.tb 96 2 24 (.agg #[.string ⟨#[]⟩,.int .i64 0]):=⟨Tryz.inf96⟩
instance Tryz.ze96:ZeC Tryz.tb 96 [.str [],.int .i64 0]:=⟨_,_,_,Tryz.inf96,rfl,rfl⟩
instance Tryz.if98:InC Tryz.tb 98 2 32 (.agg #[.string ⟨#[]⟩,.string ⟨#[]⟩]):=⟨Tryz.inf98⟩
instance Tryz.ze98:ZeC Tryz.tb 98 [.str [],.str []]:=⟨_,_,_,Tryz.inf98,rfl,rfl⟩
instance Tryz.if101:InC Tryz.tb 101 1 8 (.map none):=⟨Tryz.inf101⟩
instance Tryz.ze101:ZeC Tryz.tb 101 [.nilm]:=⟨_,_,_,Tryz.inf101,rfl,rfl⟩
instance Tryz.if102:InC Tryz.tb 102 1 8 (.nilFunc):=⟨Tryz.inf102⟩
instance Tryz.ze102:ZeC Tryz.tb 102 [.nilf]:=⟨_,_,_,Tryz.inf102,rfl,rfl⟩
instance Tryz.if128:InC Tryz.tb 128 3 72 (.agg #[.slice none 0 0,.slice none 0 0,.slice none 0 0]):=⟨Tryz.inf128⟩
instance Tryz.if134:InC Tryz.tb 134 1 8 (.int .u64 0):=⟨Tryz.inf134⟩
instance Tryz.ze134:ZeC Tryz.tb 134 [.int .u64 0]:=⟨_,_,_,Tryz.inf134,rfl,rfl⟩
end Go.Proofs
end
section
namespace Go.Vx
open Go Go.Rx
theorem qtg {q p:List U} {a n:Nat} (h:qee q a n=some p):a+n≤q.length∧(q.drop a).take n=p:=by
 unfold qee at h
 split at h
 ·rename_i hj; exact ⟨hj,Option.some.inj h⟩
 ·cases h
theorem nth_in {q p:List U} {a sz fo:Nat} {u:U} (h:qee q a sz=some p) (h2:nth p fo=some u):nth q (a+fo)=some u:=by
 obtain ⟨h1,rfl⟩:=qtg h
 rw [q1z] at h2 ⊢
 have hl:=(List.getElem?_eq_some_iff.1 h2).1
 rw [List.length_take] at hl
 rw [List.getElem?_take_of_lt (by omega),List.getElem?_drop] at h2
 exact h2
theorem put_in {q p p' cs:List U} {a sz fo:Nat} (h:qee q a sz=some p) (h2:qif p fo cs=some p'):qif q (a+fo) cs=qif q a p':=by
 obtain ⟨h1,rfl⟩:=qtg h
 unfold qif at h2
 split at h2
 ·rename_i hj
  have hp:=Option.some.inj h2
  rw [List.length_take,List.length_drop] at hj
  have hl:p'.length=sz:=by
   rw [← hp]; simp; omega
  unfold qif
  rw [if_pos (by omega),if_pos (by omega),← hp]
  congr 1
  have e1:List.take fo (List.take sz (List.drop a q))=List.take fo (List.drop a q):=by rw [List.take_take,Nat.min_eq_left (by omega)]
  have e2:List.take (a+fo) q=List.take a q++List.take fo (List.drop a q):=List.take_add
  have e3:List.drop (a+fo+cs.length) q=List.drop (fo+cs.length) (List.take sz (List.drop a q))++List.drop (a+sz) q:=by
   have:List.drop a q=List.take sz (List.drop a q)++List.drop (a+sz) q:=by rw [← List.drop_drop,List.take_append_drop]
   rw [Nat.add_assoc,← List.drop_drop]
   conv=>lhs; rw [this]
   rw [List.drop_append_of_le_length (by rw [List.length_take,List.length_drop]; omega)]
  rw [e1,e2,e3]
  simp [List.append_assoc,hl]
  omega
 ·cases h2
section
variable {T:Tb} {σ σ':Sg} {n:Nat} {l:List (Nat×U)} {u v w:U}
theorem qwp {α:Type} (c:α→List U) {t e':TypeId} {d:TypeDesc} {sz K st off m fo:Nat} {xs:List α} {i:Int} {x:α} {o:Operand} (hd:T.und t=some d) (ha:q64 d=false) (hc:∀ x,(c x).length=sz) (ho:evS n l o=some (.ptr K st (off*sz+i.toNat*sz+fo))) (hv:gt σ.h K=some (.vec (xs.map c).flatten e' sz st)) (hx:qls xs off m i=some x) (hu:nth (c x) fo=some u):opU T σ (fr n l) (.load t o)=some (u,σ):=by
 refine qyp rfl ?_
 have hb:Nat.beq st st=true:=by simp [beq_eq]
 have hg:=qr1 hc (qdi hx).2.2
 rw [Nat.add_mul] at hg
 simp only [q7c,q2g ho,cellsOf,hv,hb,cond_true,qj7,hd,ha,cond_false,nth_in hg hu]
theorem st_vf {α:Type} (c:α→List U) {t e':TypeId} {sz s K st off m fo:Nat} {xs:List α} {i:Int} {x y:α} {o z:Operand} {cs:List U} {h':List (Nat×B)} (hs:q0o T t=some s) (hc:∀ x,(c x).length=sz) (ho:evS n l o=some (.ptr K st (off*sz+i.toNat*sz+fo))) (hz:evS n l z=some v) (hcs:q8d v=some cs) (hk:okL cs=true) (hl:Nat.beq cs.length s=true) (hv:gt σ.h K=some (.vec (xs.map c).flatten e' sz st)) (hx:qls xs off m i=some x) (hy:qif (c x) fo (wkZ cs)=some (c y)) (hσ:ug σ.h K (.vec ((xs.set (off+i.toNat) y).map c).flatten e' sz st)=h'):opU T σ (fr n l) (.store t o z)=some (.junk,⟨h',σ.nx⟩):=by
 subst hσ
 have hb:Nat.beq st st=true:=by simp
 have hj:=(List.getElem?_eq_some_iff.1 (qdi hx).2.2).1
 have hg:=qr1 hc (qdi hx).2.2
 have hp:=put_in hg hy
 rw [qnj hc hj y,Nat.add_mul] at hp
 exact qxe rfl rfl (by simp only [qgj,q2g ho,q2g hz,qli,hs,hcs,hl,hk,cond_true,cellsOf,hv,hb,wkB,hp,ql6])
end
theorem qkw {σ:Sg} {k t e sz:Nat} {l:List U} (h:gt σ.h k=some (.vec l e sz t)):live σ k t=true:=by
 simp only [live,h,B.st,beq_eq,decide_true]
theorem z36 {A V:Type} (K:Nat) (b:B) (sz:Nat) (kU:A→U) (vU:V→U) [p:BFU vU] (es:List (A×V×Nat)) :
  (es.map (mE kU vU)).map (fun e=>{ e with val:=fz K b sz e.val })=es.map (mE kU vU):=by
 rw [List.map_map]
 refine List.map_congr_left fun e _=>?_
 simp only [Function.comp,mE,qsf b sz _ (p.h K e.2.1)]
end Go.Vx
end
section
namespace Go.Vx
open Go Go.Rx
def SubH (σ τ:Sg):Prop:=∀ k b,gt σ.h k=some b→gt τ.h k=some b
section
variable {σ τ:Sg} (hs:SubH σ τ)
include hs
theorem qeo {k st:Nat} (h:live σ k st=true):live τ k st=true:=by
 unfold live at *
 cases hg:gt σ.h k with
 | none=>rw [hg] at h; cases h
 | some b=>rw [hg] at h; rw [hs k b hg]; exact h
theorem qah {α:Type} {k st:Nat} {X:Option α} {u:α} (h:cond (live σ k st) X none=some u):cond (live τ k st) X none=some u:=by
 cases hl:live σ k st with
 | false=>rw [hl] at h; cases h
 | true=>rw [hl] at h; rw [qeo hs hl]; exact h
theorem qoy {k st:Nat} {l:List U} (h:cellsOf σ k st=some l):cellsOf τ k st=some l:=by
 unfold cellsOf at *
 cases hg:gt σ.h k with
 | none=>rw [hg] at h; cases h
 | some b=>rw [hg] at h; rw [hs k b hg]; exact h
theorem qn5 {k st:Nat} {l:List U×TypeId×Nat} (h:qe7 σ k st=some l):qe7 τ k st=some l:=by
 unfold qe7 at *
 cases hg:gt σ.h k with
 | none=>rw [hg] at h; cases h
 | some b=>rw [hg] at h; rw [hs k b hg]; exact h
variable {T:Tb} {tm:List U}
theorem qum {op:Op} {u:U} (h:q7c T σ tm op=some u):q7c T τ tm op=some u:=by
 cases op with
 | load t x =>
  simp only [q7c] at *
  cases hx:q0j tm x with
  | none=>rw [hx] at h; exact h
  | some a =>
   rw [hx] at h
   cases a with
   | ptr k st off =>
    simp only [] at *
    cases hc:cellsOf σ k st with
    | none=>rw [hc] at h; cases h
    | some l=>rw [hc] at h; rw [qoy hs hc]; exact h
   | _=>exact h
 | lookup t x k ok =>
  simp only [q7c] at *
  cases hd:T.und t with
  | none=>rw [hd] at h; cases h
  | some d =>
   rw [hd] at h
   cases d with
   | map kt et =>
    cases hx:q0j tm x with
    | none=>rw [hx] at h; exact h
    | some a =>
     rw [hx] at h
     cases hk:q0j tm k with
     | none=>rw [hk] at h; cases h
     | some ku =>
      rw [hk] at h
      cases a with
      | map r =>
       simp only [] at *
       cases hg:gt σ.h r with
       | none =>
        rw [hg] at h
        cases hv:toV ku with
        | none=>rw [hv] at h; exact h
        | some kv =>
         rw [hv] at h
         simp only [] at h
         cases hkx:qhu T 50 kt kv<;>rw [hkx] at h<;>cases h
       | some b=>rw [hg] at h; rw [hs r b hg]; exact h
      | _=>exact h
   | _=>exact h
 | _=>exact h
theorem qn4 {u:U} {n:Nat} (hn:n≠0) (h:there σ u=n):there τ u=n:=by
 unfold there at *
 cases u with
 | ptr k st off =>
  simp only [] at *
  cases hl:live σ k st with
  | false=>rw [hl] at h; exact absurd h.symm hn
  | true=>rw [hl] at h; rw [qeo hs hl]; exact h
 | sl k a b c =>
  simp only [] at *
  cases hl:live σ k 0 with
  | false=>rw [hl] at h; exact absurd h.symm hn
  | true=>rw [hl] at h; rw [qeo hs hl]; exact h
 | map k =>
  simp only [] at *
  cases hl:live σ k 0 with
  | false=>rw [hl] at h; exact absurd h.symm hn
  | true=>rw [hl] at h; rw [qeo hs hl]; exact h
 | vl k st off m =>
  cases m with
  | zero=>exact h
  | succ m =>
   simp only [] at *
   cases hl:live σ k st with
   | false=>rw [hl] at h; exact absurd h.symm hn
   | true=>rw [hl] at h; rw [qeo hs hl]; exact h
 | isl t l=>cases l<;>exact h
 | _=>exact h
theorem qrc {op:BinOp} {t:TypeId} {x y u:U} (h:qmv T σ op t x y=some u):qmv T τ op t x y=some u:=by
 unfold qmv at *
 by_cases hk:qcu T t=0
 ·simp only [beq_eq,hk,decide_true,cond_true] at h; cases h
 ·simp only [beq_eq,hk,decide_false,cond_false] at h ⊢
  by_cases hx:there σ x=qcu T t
  ·have:=qn4 hs hk hx
   simpa [hx,this] using h
  ·by_cases hy:there σ y=qcu T t
   ·have hy':=qn4 hs hk hy
    by_cases hn:qb0 x=qcu T t
    ·have hxx:cmpB op=some u:=by simpa [hx,hy,hn] using h
     have hz:there τ x=0:=by
      cases x<;>simp [qb0] at hn<;>first | rfl | exact absurd hn.symm hk
     have hz':¬ there τ x=qcu T t:=by rw [hz]; exact fun h=>hk h.symm
     simpa [hz',hy',hn] using hxx
    ·simp [hx,hn] at h
   ·by_cases hn:qb0 x=qcu T t
    ·simp [hx,hn,hy] at h
    ·simp [hx,hn] at h
theorem qvg {op:BinOp} {t:TypeId} {x y u:U} (h:z2i T σ op t x y=some u):z2i T τ op t x y=some u:=by
 unfold z2i at *
 cases hg:g2 (qmd T op t) x y with
 | some r=>rw [hg] at h; exact h
 | none=>rw [hg] at h; exact qrc hs h
theorem qng {t:TypeId} {x u:U} {f:Nat} (h:qcd T σ t x f=some u):qcd T τ t x f=some u:=by
 unfold qcd at *
 split at h
 ·split at h
  ·split at h
   ·split at h
    ·exact qah hs h
    ·exact h
    ·cases h
   ·cases h
  ·cases h
 ·cases h
theorem qnk {t:TypeId} {x i u:U} (h:q6s T σ t x i=some u):q6s T τ t x i=some u:=by
 unfold q6s at *
 split at h
 ·split at h
  ·split at h
   ·split at h
    ·exact qah hs h
    ·split at h
     ·rename_i hv; rw [qn5 hs hv]; exact h
     ·cases h
    ·exact h
    ·cases h
   ·cases h
  ·split at h
   ·split at h
    ·exact qah hs h
    ·exact h
    ·cases h
   ·cases h
  ·cases h
 ·cases h
theorem qwq {t:TypeId} {x u:U} (h:qnm T σ t x=some u):qnm T τ t x=some u:=by
 unfold qnm at *
 split at h
 ·split at h
  ·exact h
  ·exact qah hs h
  ·exact qah hs h
  ·exact h
  ·cases h
 ·exact h
 ·exact h
 ·split at h
  ·exact h
  ·split at h
   ·rename_i hv; rw [hs _ _ hv]; exact h
   ·cases h
  ·cases h
 ·cases h
theorem qvo {t:TypeId} {x u:U} (h:capU T σ t x=some u):capU T τ t x=some u:=by
 unfold capU at *
 split at h
 ·split at h
  ·exact h
  ·exact qah hs h
  ·cases h
 ·cases h
theorem qro {t:TypeId} {x u:U} {a b c:Option Value} (h:qf1 T σ t x a b c=some u):qf1 T τ t x a b c=some u:=by
 unfold qf1 at *
 split at h
 ·exact h
 ·split at h
  ·split at h
   ·exact h
   ·exact qah hs h
   ·split at h
    ·rename_i hv; rw [qn5 hs hv]; exact h
    ·cases h
   ·exact h
   ·cases h
  ·cases h
 ·cases h
theorem qul {op:Op} {u:U} (h:q3d T σ tm op=some u):q3d T τ tm op=some u:=by
 cases op with
 | nilCheck x =>
  simp only [q3d] at *
  split at h
  ·exact qah hs h
  ·exact h
  ·exact h
  ·cases h
 | binOp o t x y ty =>
  simp only [q3d] at *
  split at h
  ·exact qvg hs h
  ·cases h
 | slice t x lo hi mx =>
  simp only [q3d] at *
  split at h
  ·exact qro hs h
  ·cases h
 | fieldAddr t x f =>
  simp only [q3d] at *
  split at h
  ·exact qng hs h
  ·cases h
 | indexAddr t x i =>
  simp only [q3d] at *
  split at h
  ·exact qnk hs h
  ·cases h
 | call c =>
  simp only [q3d] at *
  split at h
  ·split at h
   ·exact qwq hs h
   ·cases h
  ·split at h
   ·exact qvo hs h
   ·cases h
  ·exact h
  ·exact h
  ·cases h
 | _=>exact h
def qrd:Op→Bool
 | .alloc _ | .box _ _ | .store _ _ _ | .buildSlice _ _ _ | .makeSlice _ _ _ | .makeMap _ _ | .mapUpdate _ _ _ _ | .insert _ _ _ _ | .mapEntry _ _ _ | .entryStore _ _ _ _=>false
 | .call c=>(match c.callee with
  | .builtin .append=>false
  | .builtin .copy=>false
  | .builtin .delete=>false
  | .builtin .clear=>false
  | _=>true)
 | _=>true
omit hs in
theorem qvw {op:Op} (h:qrd op=true):qgj T σ tm op=none:=by
 cases op<;>simp only [qrd] at h<;>first | rfl | (cases h) | skip
 case call c =>
  simp only [qgj]
  split<;>simp_all
theorem qww {op:Op} {u:U} (hn:qrd op=true) (h:opU T σ tm op=some (u,σ)):opU T τ tm op=some (u,τ):=by
 unfold opU at *
 cases hp:q3d T σ tm op with
 | some v =>
  rw [hp] at h; simp only [Option.some.injEq,Prod.mk.injEq,and_true] at h; subst h
  rw [qul hs hp]
 | none =>
  rw [hp] at h
  cases hr:q7c T σ tm op with
  | none=>rw [hr] at h; simp only [qvw hn] at h; cases h
  | some v =>
   rw [hr] at h; simp only [Option.some.injEq,Prod.mk.injEq,and_true] at h; subst h
   have hpt:q3d T τ tm op=none:=by
    cases op<;>first | rfl | (simp [q7c] at hr)
   rw [hpt,qum hs hr]
end
end Go.Vx
end
section
namespace Go.Vx
open Go Go.Rx
theorem qio.le {n k:Nat} (h:n≤k):(b:B)→qio n b→qio k b
 | .row l _,hb=>q1t.le h l hb
 | .vec l _ _ _,hb=>q1t.le h l hb
 | .map es _,hb=>fun e he=>⟨Bel.le h _ (hb e he).1,Bel.le h _ (hb e he).2⟩
def alU:Option Nat→Nat→U
 | none,k=>.ptr k 0 0
 | some n,k=>.sl k 0 n n
theorem z3g {F:Nat→Blk→Prop} {y:Cx} {σ:Sg} {nx0 k:Nat} {l:List U} {e:TypeId} (hy:y.σ=q5d σ (.row l e)) (hh:qcy y) (hf:Fr F y) (hk1:nx0≤k) (hk2:k<σ.nx) (hgk:gt σ.h k=none)
  (hlt:∀ j b,gt σ.h j=some b→j<σ.nx) (hl:q1t 0 l) (hrows:∀ j b,gt σ.h j=some b→qio nx0 b) :
  ∃ y':Cx,y'.σ=⟨(k,.row l e)::σ.h,σ.nx⟩∧y'.s=y.s∧qcy y'∧Fr F y'∧Ke nx0 y y'∧(∀ o v,Rel y (alU o σ.nx) v→Rel y' (alU o k) v)∧(∀ o j v,j≠k→j<σ.nx→Rel y (alU o j) v→Rel y' (alU o j) v):=by
 have gy:∀ j,gt y.σ.h j=if σ.nx=j then some (.row l e) else gt σ.h j:=fun j=>by rw [hy]; simp only [q5d,q1a]
 have gy':∀ j,gt ((k,B.row l e)::σ.h) j=if k=j then some (.row l e) else gt σ.h j:=fun j=>by rw [q1a]
 have old:∀ j b,gt σ.h j=some b→gt y.σ.h j=some b:=fun j b hb=>by
  have:=hlt j b hb
  rw [gy,if_neg (by omega)]; exact hb
 have hnk:∀ j b,gt σ.h j=some b→j≠k:=fun j b hb h=>by subst h; rw [hgk] at hb; cases hb
 have hmo:Mo nx0 y ⟨fun j=>if j=k then y.ρ σ.nx else y.ρ j,⟨(k,.row l e)::σ.h,σ.nx⟩,y.s⟩:=by
  refine ⟨fun j h1 h2=>⟨by simp only; omega,fun b' hb'=>?_⟩,fun _ _ _ h=>h⟩
  simp only [gy'] at hb'
  rw [if_neg (by omega)] at hb'
  exact ⟨b',old j b' hb',Nat.le_refl _,fun _=>⟨by simp only; rw [if_neg (by omega)],fun l e sz st h=>⟨l,h⟩⟩⟩
 refine ⟨⟨fun j=>if j=k then y.ρ σ.nx else y.ρ j,⟨(k,.row l e)::σ.h,σ.nx⟩,y.s⟩,rfl,rfl,⟨fun j b hb=>?_,fun j j' b b' i hb hb' h1 h2=>?_,hh.bd⟩,fun i b hF=>?_,hmo.ke,fun o v hv=>?_,fun o j v hj hjl hv=>?_⟩
 ·simp only [gy'] at hb
  by_cases hjk:k=j
  ·subst hjk
   rw [if_pos rfl] at hb
   cases hb
   refine ⟨hk2,?_⟩
   obtain ⟨_,h2⟩:=hh.ok σ.nx (.row l e) (by rw [gy,if_pos rfl])
   obtain ⟨q1,i,l',q2,q3,q4⟩:=h2
   exact ⟨q1,i,l',by simp [q2],q3,hmo.ke.E (q1t.le (Nat.zero_le _) l hl) q4⟩
  ·rw [if_neg hjk] at hb
   refine ⟨hlt j b hb,?_⟩
   exact (hh.ok j b (old j b hb)).2.monoB (hrows j b hb) hmo (by simp only; rw [if_neg (fun h=>hjk h.symm)]) fun _ _ _ h=>h
 ·have key:∀ j b,gt ((k,B.row l e)::σ.h) j=some b→∀ i,(if j=k then y.ρ σ.nx else y.ρ j)=some i→∃ j0 b0,gt y.σ.h j0=some b0∧y.ρ j0=some i∧(j=k∧j0=σ.nx∨j≠k∧j0=j∧j<σ.nx):=fun j b hb i hi=>by
   rw [gy'] at hb
   by_cases hjk:j=k
   ·rw [if_pos hjk] at hi
    exact ⟨σ.nx,.row l e,by rw [gy,if_pos rfl],hi,.inl ⟨hjk,rfl⟩⟩
   ·rw [if_neg (fun h=>hjk h.symm)] at hb
    rw [if_neg hjk] at hi
    exact ⟨j,b,old j b hb,hi,.inr ⟨hjk,rfl,hlt j b hb⟩⟩
  obtain ⟨a,ba,g1,g2,g3⟩:=key j b hb i h1
  obtain ⟨c,bc,g4,g5,g6⟩:=key j' b' hb' i h2
  have:=hh.inj a c ba bc i g1 g4 g2 g5
  omega
 ·obtain ⟨h1,h2⟩:=hf i b hF
  refine ⟨h1,fun j c hc=>?_⟩
  simp only [gy'] at hc
  by_cases hjk:j=k
  ·simp only [hjk,if_true]
   exact h2 σ.nx (.row l e) (by rw [gy,if_pos rfl])
  ·rw [if_neg (fun h=>hjk h.symm)] at hc
   simp only [hjk,if_false]
   exact h2 j c (old j c hc)
 ·cases o<;>(
   simp only [alU,Rel,Ref] at hv ⊢
   refine ⟨hv.1,hk2,fun b hb=>?_⟩
   simp only [gy',if_true] at hb
   have:=hv.2.2 b (by rw [gy,if_pos rfl]; exact hb)
   simpa using this)
 ·cases o<;>(
   simp only [alU,Rel,Ref] at hv ⊢
   refine ⟨hv.1,hjl,fun b hb=>?_⟩
   simp only [gy',if_neg (fun h:k=j=>hj h.symm)] at hb
   have:=hv.2.2 b (old j b hb)
   simpa [hj] using this)
structure Al where
 i:Nat
 k:Nat
 o:Option Nat
 l:List U
 e:TypeId
structure Loc (T:Tb) (ops:List Oper) (als:List Al) (i:Nat) (r:q50) (K:Nat) (q q':List U) (e:TypeId):Prop where
 name:∃ al∈als,al.k=K
 row:gt r.s.h K=some (.row q e)
 out:r.s'=⟨ug r.s.h K (.row q' e),r.s.nx⟩
 dst:r.o.dst=none
 run:∀ τ:Sg,gt τ.h K=some (.row q e)→opU T τ r.tm r.o.op=some (r.u,⟨ug τ.h K (.row q' e),τ.nx⟩)
 pre:∀ al∈als,Pre ops i al.i∨(al.k≠K∧q1t al.k q')
 want:q07 ops r.tm r.o=some true
structure ChA (P:Program) (T:Tb) (ops:List Oper) (tm₀:List U) (σb σ1:Sg) (rs:List q50) (als:List Al):Prop where
 some:als≠[]
 names:∀ al∈als,σb.nx≤al.k∧al.k<σ1.nx
 nodup:∀ a∈als,∀ b∈als,a.k=b.k→a.i=b.i
 le:σb.nx≤σ1.nx
 at_:∀ al∈als,∃ r d,rs[al.i]? = .some r∧r.u=alU al.o al.k∧r.act=false∧r.mv=true∧(∀ σ,opU T σ r.tm r.o.op = .some (alU al.o σ.nx,q5d σ (.row al.l al.e)))∧r.o.guard=none∧r.o.dst = .some d
 row:∀ al∈als,q1t 0 al.l
 all:∀ (i:Nat) (r:q50),rs[i]? = .some r→r.act=false→r.mv=true→∃ al∈als,al.i=i
 own:∀ al∈als,gt σ1.h al.k = .some (.row al.l al.e)
 oth:∀ j,(∀ al∈als,al.k≠j)→gt σ1.h j=gt σb.h j
 acts:∀ (i:Nat) (r:q50),rs[i]? = .some r→r.act=true→(∀ al∈als,Pre ops i al.i)∨∃ K q q' e,Loc T ops als i r K q q' e
 early:∀ (i:Nat) (r:q50),rs[i]? = .some r→r.act=false→r.mv=false→(∀ al∈als,Pre ops i al.i)∨(Bel σb.nx r.u∧(q07 ops r.tm r.o = .some true→opU T r.s r.tm r.o.op = .some (r.u,r.s')→qrd r.o.op=true∧opU T ⟨σb.h,σ1.nx⟩ r.tm r.o.op = .some (r.u,⟨σb.h,σ1.nx⟩)))
section
variable {P:Program} {T:Tb} (hT:qef P T) (ops:Array Oper) {tm₀:List U} {σb σ1:Sg} {rs:List q50} {tm':List U} {σ':Sg} {als:List Al}
 (htr:TrU P T ops.toList tm₀ σ1 rs tm' σ') (hst:q91 ops.toList=true) (hch:ChU T ops.toList rs) (hal:ChA P T ops.toList tm₀ σb σ1 rs als)
include htr hal
theorem factsA (hbr:∀ j b,gt σb.h j=some b→j<σb.nx∧qio σb.nx b) {al:Al} (hm:al∈als):∀ p,p≤rs.length→(∀ (e:Nat) (q:q50),rs[e]? = some q→q.act=true→e<p→¬ Pre ops.toList e al.i) →
  gt (uAt rs σ' p).h al.k=some (.row al.l al.e)∧(∀ j b,gt (uAt rs σ' p).h j=some b→qio al.k b)∧(∀ j,(∀ al∈als,al.k≠j)→gt (uAt rs σ' p).h j=gt σb.h j)∧(uAt rs σ' p).nx=σ1.nx:=by
 intro p
 induction p with
 | zero =>
  intro _ _
  rw [htr.s0]
  refine ⟨hal.own al hm,fun j b hb=>?_,hal.oth,rfl⟩
  by_cases hj:∀ al∈als,al.k≠j
  ·rw [hal.oth j hj] at hb
   exact qio.le (hal.names al hm).1 _ (hbr j b hb).2
  ·have:∃ al∈als,al.k=j:=by
    apply Classical.byContradiction
    intro hc
    exact hj fun al hm h=>hc ⟨al,hm,h⟩
   obtain ⟨al',hm',rfl⟩:=this
   rw [hal.own al' hm'] at hb
   cases hb
   exact q1t.le (Nat.zero_le _) _ (hal.row al' hm')
 | succ p ih =>
  intro hp hno
  have hr:rs[p]? = some rs[p]:=by simp [show p<rs.length by omega]
  obtain ⟨f1,f2,f3,f4⟩:=ih (by omega) fun e q h1 h2 h3=>hno e q h1 h2 (by omega)
  obtain ⟨_,g2,g3,_⟩:=htr.all p _ hr
  have e1:uAt rs σ' p=rs[p].s:=by simp [uAt,hr]
  rw [g3]
  rw [e1] at f1 f2 f3 f4
  cases ha:rs[p].act with
  | false=>rw [g2.quiet ha]; exact ⟨f1,f2,f3,f4⟩
  | true =>
   rcases hal.acts p _ hr ha with h | ⟨K,q,q',e,hL⟩
   ·exact absurd (h al hm) (hno p _ hr ha (Nat.lt_succ_self _))
   ·have hK:al.k≠K∧q1t al.k q':=by
     rcases hL.pre al hm with h | h
     ·exact absurd h (hno p _ hr ha (Nat.lt_succ_self _))
     ·exact h
    obtain ⟨alK,hmK,hkK⟩:=hL.name
    rw [hL.out]
    refine ⟨?_,fun j b hb=>?_,fun j hj=>?_,f4⟩
    ·show gt (ug rs[p].s.h K _) al.k=_
     rw [qga,if_neg fun h=>hK.1 h.symm]; exact f1
    ·simp only [qga] at hb
     by_cases hj:K=j
     ·rw [if_pos hj,hL.row] at hb
      cases hb
      exact hK.2
     ·rw [if_neg hj] at hb; exact f2 j b hb
    ·show gt (ug rs[p].s.h K _) j=_
     rw [qga,if_neg fun h=>hj alK hmK (hkK.trans h)]; exact f3 j hj
include hT hst hch
theorem z2g {ro:Option Nat} {n0:Nat} (hn0:n0≤σb.nx) (hb0:q1t σb.nx tm₀) (hbr:∀ j b,gt σb.h j=some b→j<σb.nx∧qio σb.nx b) {F:Nat→Blk→Prop} {x0:Cx} {m0:Nm} {w0:World} {E:Exit→Act→World→Prop} {df:List Deferred} (hQ:∀ y tv m w a,y.σ=σ'→St F y tm' tv m w a→Adv m0 x0.s w0 m y.s w→Ke n0 x0 y→n0≤y.σ.nx→a.defers=df→E .normal a w) :
  ∀ (fuel:Nat) (listed:Array Bool) (a:Act) (w:World) (m:Nm) (tm:List U) (tv:List Value) (x:Cx) (p:Nat),p≤rs.length→(∀ (e:Nat) (r:q50),rs[e]? = some r→r.act=true→(listed.getD e false=true↔e<p))→listed.size=ops.size→listed.toList.count false=fuel →
   Closed ops.toList (fun k=>listed.getD k false=true)→qjx tm₀ rs (fun k=>listed.getD k false=true) tm→(∃ al∈als,¬ listed.getD al.i false=true) →
   x.σ.nx=σ1.nx→(∀ al∈als,gt x.σ.h al.k=if listed.getD al.i false=true then gt (uAt rs σ' p).h al.k else none)→(∀ j,(∀ al∈als,al.k≠j)→gt x.σ.h j=gt σb.h j) →
   St F x tm tv m w a→Adv m0 x0.s w0 m x.s w→Ke n0 x0 x→a.defers=df →
   wpAnyIn (qom ro) 0 P .any ops E fuel listed a w:=by
 have hn:rs.length=ops.size:=by simpa using htr.len
 intro fuel
 induction fuel with
 | zero =>
  intro listed a w m tm tv x p hp hacts hsz hcnt hcl hsees hun hnx hrow hoth hstt hadv hke hdf
  exfalso
  obtain ⟨al,hm,hu⟩:=hun
  obtain ⟨r,d,h1,_⟩:=hal.at_ al hm
  have hlt:=(List.getElem?_eq_some_iff.1 h1).1
  have hk':al.i<listed.size:=by omega
  have:listed[al.i]≠false:=fun hf=>by
   have hm:false∈listed.toList:=by rw [← hf]; simp
   have:=List.count_pos_iff.2 hm
   omega
  have this':listed[al.i]=true:=by simpa using this
  exact hu (by simp [Array.getD,hk',this'])
 | succ fuel ih =>
  intro listed a w m tm tv x p hp hacts hsz hcnt hcl hsees hun hnx hrow hoth hstt hadv hke hdf
  have mem_ready:∀ i,i∈Region.ready .any ops listed↔i<ops.size∧listed.getD i true=false∧∃ o,ops[i]? = some o∧∀ e∈o.after.toList,Region.binds .any e=true→listed.getD e.on false=true:=by
   intro i
   unfold Region.ready
   rw [List.mem_filter,List.mem_range]
   refine and_congr_right fun hi=>?_
   have ho:ops[i]? = some ops[i]:=by simp [hi]
   simp only [ho,Option.map_some,Option.getD_some,Bool.and_eq_true,Bool.not_eq_true',Array.all_eq_true_iff_forall_mem,Bool.or_eq_true]
   refine and_congr_right fun _=>?_
   constructor
   ·intro h
    refine ⟨_,rfl,fun e he hb=>?_⟩
    rcases h e (by simpa using he) with h1 | h1
    ·simp [hb] at h1
    ·exact h1
   ·rintro ⟨o,ho',h⟩ e he
    cases ho'
    cases hb:Region.binds .any e with
    | false=>exact .inl rfl
    | true=>exact .inr (h e (by simpa using he) hb)
  refine ⟨fun hnil=>?_,fun i hi=>?_⟩
  ·exfalso
   have hex:∃ i,i<ops.size∧listed.getD i true=false:=by
    have hpos:0<listed.toList.count false:=by omega
    obtain ⟨i,hi,e⟩:=List.mem_iff_getElem.1 (List.count_pos_iff.1 hpos)
    simp at hi
    refine ⟨i,by omega,?_⟩
    simp only [Array.getElem_toList] at e
    simp [Array.getD,hi,e]
   have hmin:∀ n,n<ops.size→listed.getD n true=false→False:=by
    intro n
    induction n using Nat.strongRecOn with
    | _ n ihn =>
     intro hn1 hn2
     have:n∈Region.ready .any ops listed:=(mem_ready n).2 ⟨hn1,hn2,ops[n],by simp [hn1],fun e he hb=>by
      have hlt:=z0j hst (i:=n) (o:=ops[n]) (by simp [hn1]) e he hb
      have hk':e.on<listed.size:=by omega
      cases hv:listed[e.on] with
      | true=>simp [Array.getD,hk',hv]
      | false=>exact (ihn e.on hlt (by omega) (by simp [Array.getD,hk',hv])).elim⟩
     rw [hnil] at this
     cases this
   obtain ⟨i,h1,h2⟩:=hex
   exact hmin i h1 h2
  ·obtain ⟨hilt,hil,o,ho,hedges⟩:=(mem_ready i).1 hi
   have hisz:i<listed.size:=by omega
   have hLi:¬ listed.getD i false=true:=by
    simp [Array.getD,hisz] at hil ⊢
    exact hil
   have hol:ops.toList[i]? = some o:=by simpa using ho
   obtain ⟨r,hr,hro⟩:=z1w ops htr hol
   subst hro
   have hrd:∀ q,ops.toList[i]? = some q→∀ e∈q.after.toList,Region.binds .any e=true→listed.getD e.on false=true:=fun q hq=>by
    rw [hol] at hq; cases hq; exact hedges
   have hlooks:=qld ops htr hst hcl hsees hr hLi hrd
   obtain ⟨_,hgood,hs1,_⟩:=htr.all i r hr
   have hget:∀ k,((listed.setIfInBounds i true).getD k false=true)↔(listed.getD k false=true∨k=i):=fun k=>by
    by_cases hk:k=i
    ·subst hk; simp [Array.getD,hisz]
    ·by_cases hks:k<listed.size
     ·simp [Array.getD,hks,hk,Ne.symm hk]
     ·simp [Array.getD,hks,hk]
   have hcl':Closed ops.toList (fun k=>(listed.setIfInBounds i true).getD k false=true):=fun k q hk hq e he hb=>by
    refine (hget e.on).2 (.inl ?_)
    rcases (hget k).1 hk with hk | rfl
    ·exact hcl k q hk hq e he hb
    ·exact hrd q hq e he hb
   have hsees':qjx tm₀ rs (fun k=>(listed.setIfInBounds i true).getD k false=true) (q5l tm r.o.dst r.u):=by
    have:=qle ops htr hst hsees hr
    exact ⟨this.len,fun k q d a b c hL=>this.yes k q d a b c ((hget k).1 hL),fun k q d a b hL=>this.no k q d a b fun x=>hL ((hget k).2 x),this.other⟩
   have hcnt':(listed.setIfInBounds i true).toList.count false=fuel:=by
    have hv:listed[i]=false:=by simpa [Array.getD,hisz] using hil
    rw [Array.toList_setIfInBounds,List.count_set (by simpa using hisz)]
    have hc2:Array.count false listed=fuel+1:=by simpa using hcnt
    simp [hv]
    omega
   obtain ⟨hopc,hwc⟩:=z1k hlooks
   have notall:¬ (∀ al∈als,Pre ops.toList i al.i):=fun h=>by
    obtain ⟨al,hm,hu⟩:=hun
    exact hu (qao hst hcl hrd (h al hm))
   by_cases hact:r.act=true
   ·rcases hal.acts i r hr hact with h | ⟨K,q,q',e,hL⟩
    ·exact absurd h notall
    ·obtain ⟨alK,hmK,hkK⟩:=hL.name
     have hpi:p≤i:=by
      rcases Nat.lt_or_ge i p with h | h
      ·exact absurd ((hacts i r hr hact).2 h) hLi
      ·exact h
     have hil':i<rs.length:=(List.getElem?_eq_some_iff.1 hr).1
     have hbetween:∀ (e:Nat) (q:q50),p≤e→e<i→rs[e]? = some q→q.act=false:=fun e q h1 h2 h3=>by
      cases hb:q.act with
      | false=>rfl
      | true =>
       have:=qao hst hcl hrd (hch.acts i e r q hr h3 hact hb h2)
       have:=(hacts e q h3 hb).1 this
       omega
     have hsi:uAt rs σ' i=r.s:=by simp [uAt,hr]
     have hps:uAt rs σ' p=r.s:=(qe6 ops htr hpi (by omega) hbetween).trans hsi
     have hKl:listed.getD alK.i false=true:=by
      rcases hL.pre alK hmK with h | h
      ·exact qao hst hcl hrd h
      ·exact absurd hkK h.1
     have hgK:gt x.σ.h K=some (.row q e):=by
      have:=hrow alK hmK
      rw [if_pos hKl,hkK,hps,hL.row] at this
      exact this
     have hop':opU T x.σ tm r.o.op=some (r.u,⟨ug x.σ.h K (.row q' e),x.σ.nx⟩):=by rw [qbw hopc]; exact hL.run _ hgK
     unfold wpOpIn
     simp only [ho]
     rw [qhr (hstt.act m (Agree.refl _ _)) ops r.o,q32 hstt.e (hwc.trans hL.want)]
     simp only [if_true]
     refine q9i (qiz hop') (hstt.op hT r.o hop' fun y tv' m₁ w₁ a₁ e1 st' hadv' hke' hnx' hdf'=>?_)
     have hge:∀ al∈als,((listed.setIfInBounds i true).getD al.i false=true)↔listed.getD al.i false=true:=fun al hm=>by
      have:al.i≠i:=fun h=>by
       obtain ⟨q,d,q1,_,q3,_⟩:=hal.at_ al hm
       rw [h,hr] at q1; cases q1; rw [hact] at q3; cases q3
      rw [hget]; simp [this]
     refine ih _ _ _ m₁ _ tv' y (i+1) (by omega) (fun e' q1 hq hqk=>?_) (by simpa using hsz) hcnt' hcl' hsees' ?_ (by rw [e1]; exact hnx) (fun al hm=>?_) (fun j hj=>?_) st' (hadv.trans hadv') (hke.trans (hke'.le (by rw [hnx]; have:=hal.le; omega))) (hdf'.trans hdf)
     ·rw [hget]
      by_cases hei:e'=i
      ·subst hei; simp
      ·simp only [hei,or_false]
       constructor
       ·intro hLe
        have:=(hacts e' q1 hq hqk).1 hLe
        omega
       ·intro hlt
        exact qao hst hcl hrd (hch.acts i e' r q1 hr hq hact hqk (by omega))
     ·obtain ⟨al,hm,hu⟩:=hun
      exact ⟨al,hm,fun h=>hu ((hge al hm).1 h)⟩
     ·rw [e1,hs1,hL.out]
      by_cases hl:listed.getD al.i false=true
      ·rw [if_pos ((hge al hm).2 hl)]
       show gt (ug x.σ.h K _) al.k=gt (ug r.s.h K _) al.k
       rw [qga,qga,hgK,hL.row,hrow al hm,if_pos hl,hps]
      ·rw [if_neg (fun h=>hl ((hge al hm).1 h))]
       show gt (ug x.σ.h K _) al.k=_
       rw [qga]
       have hne:K≠al.k:=fun h=>by
        have:=hal.nodup alK hmK al hm (hkK.trans h)
        rw [← this] at hl
        exact hl hKl
       rw [if_neg hne,hrow al hm,if_neg hl]
     ·rw [e1]
      show gt (ug x.σ.h K _) j=_
      rw [qga,if_neg (fun h=>hj alK hmK (hkK.trans h)),hoth j hj]
   have noact:r.act=false:=by simpa using hact
   have hacts':∀ (e:Nat) (q:q50),rs[e]? = some q→q.act=true→((listed.setIfInBounds i true).getD e false=true↔e<p):=fun e q hq hqk=>by
    rw [hget]
    by_cases hei:e=i
    ·subst hei; rw [hr] at hq; cases hq; rw [noact] at hqk; cases hqk
    ·simp only [hei,or_false]; exact hacts e q hq hqk
   have stay:r.mv=false→∀ y tv' m₁ w₁ a₁,y.σ=x.σ→St F y (q5l tm r.o.dst r.u) tv' m₁ w₁ a₁→Adv m0 x0.s w0 m₁ y.s w₁→Ke n0 x0 y→a₁.defers=df→wpAnyIn (qom ro) 0 P .any ops E fuel (listed.setIfInBounds i true) a₁ w₁:=fun hmv y tv' m₁ w₁ a₁ h1 h2 h3 h4 h6=>by
    have hne:∀ al∈als,al.i≠i:=fun al hm h=>by
     obtain ⟨q,d,q1,_,_,q2,_⟩:=hal.at_ al hm
     rw [h,hr] at q1; cases q1; rw [hmv] at q2; cases q2
    have hge:∀ al∈als,((listed.setIfInBounds i true).getD al.i false=true)↔listed.getD al.i false=true:=fun al hm=>by
     rw [hget]; simp [hne al hm]
    refine ih _ _ _ m₁ _ tv' y p hp hacts' (by simpa using hsz) hcnt' hcl' hsees' ?_ (by rw [h1]; exact hnx) (fun al hm=>?_) (by rw [h1]; exact hoth) h2 h3 h4 h6
    ·obtain ⟨al,hm,hu⟩:=hun
     exact ⟨al,hm,fun h=>hu ((hge al hm).1 h)⟩
    ·rw [h1,hrow al hm]
     by_cases hL:listed.getD al.i false=true
     ·rw [if_pos hL,if_pos ((hge al hm).2 hL)]
     ·rw [if_neg hL,if_neg fun h=>hL ((hge al hm).1 h)]
   have hsub:SubH ⟨σb.h,σ1.nx⟩ x.σ:=fun k b hb=>by
    rw [hoth k fun al hm h=>?_]
    ·exact hb
    ·have:=(hbr k b hb).1
     have:=(hal.names al hm).1
     omega
   unfold wpOpIn
   simp only [ho]
   rw [qhr (hstt.act m (Agree.refl _ _)) ops r.o]
   cases hmv:r.mv with
   | true =>
    obtain ⟨al,hm,hi'⟩:=hal.all i r hr noact hmv
    obtain ⟨q,d,q1,q2,q3,q4,q5,q6,q7⟩:=hal.at_ al hm
    rw [hi',hr] at q1; cases q1
    have r2:=hal.row al hm
    have hw:q07 ops.toList tm r.o=some true:=by unfold q07; rw [q6]
    rw [q32 hstt.e hw]
    simp only [if_true]
    have hop':opU T x.σ tm r.o.op=some (alU al.o x.σ.nx,q5d x.σ (.row al.l al.e)):=by rw [qbw hopc]; exact q5 _
    refine q9i (qiz hop') (hstt.op hT r.o hop' fun y tv' m₁ w₁ a₁ e1 st' hadv' hke' hnx' hdf'=>?_)
    have hnoact:∀ (e:Nat) (q:q50),rs[e]? = some q→q.act=true→e<p→¬ Pre ops.toList e al.i:=fun e q h1 h2 h3 h4=>by
     have:=qbq hst hcl e al.i ((hacts e q h1 h2).2 h3) h4
     simp only [hi'] at this
     exact hLi this
    obtain ⟨F1,F2,F3,F4⟩:=factsA ops htr hal hbr hm p hp hnoact
    have hrows:∀ j b,gt x.σ.h j=some b→qio al.k b:=fun j b hb=>by
     by_cases hj:∀ al∈als,al.k≠j
     ·rw [hoth j hj,← F3 j hj] at hb; exact F2 j b hb
     ·have:∃ al∈als,al.k=j:=by
       apply Classical.byContradiction
       intro hc
       exact hj fun al hm h=>hc ⟨al,hm,h⟩
      obtain ⟨al',hm',rfl⟩:=this
      rw [hrow al' hm'] at hb
      split at hb
      ·exact F2 _ b hb
      ·cases hb
    have hgk:gt x.σ.h al.k=none:=by rw [hrow al hm,if_neg (by rw [hi']; exact hLi)]
    obtain ⟨y',z1,z2,z3,z4,z5,z6,z7⟩:=z3g (F:=F) (nx0:=al.k) (k:=al.k) e1 st'.h st'.fr (Nat.le_refl _) (by rw [hnx]; exact (hal.names al hm).2) hgk (fun j b hb=>(hstt.h.ok j b hb).1) r2 hrows
    have hlen:tm.length=tm₀.length:=hsees.len
    have hslots:q0x y' (q5l tm r.o.dst r.u) tv':=by
     have he:=st'.e
     rw [q7] at he ⊢
     simp only [q5l] at he ⊢
     refine q0x.mk' (by have:=he.2; simpa using this) fun t u hu=>?_
     by_cases ht:t=d
     ·subst ht
      have htl:t<tm.length:=by have:=(List.getElem?_eq_some_iff.1 hu).1; simpa using this
      rw [List.getElem?_set_self htl] at hu
      obtain ⟨v,v1,v2⟩:=he.get (i:=t) (u:=alU al.o x.σ.nx) (by rw [List.getElem?_set_self htl])
      cases hu
      rw [q2]
      exact ⟨v,v1,z6 _ v v2⟩
     ·rw [List.getElem?_set_ne (fun h=>ht h.symm)] at hu
      obtain ⟨v,v1,v2⟩:=he.get (i:=t) (u:=u) (by rw [List.getElem?_set_ne (fun h=>ht h.symm)]; exact hu)
      refine ⟨v,v1,?_⟩
      have hold:tm₀[t]? = some u→Rel y' u v:=fun h=>z5 u v (Bel.le (hal.names al hm).1 u ((qb5 _ _).1 hb0 u (List.mem_of_getElem? h))) v2
      by_cases hno:∀ (k:Nat) (q:q50),rs[k]? = some q→q.o.dst≠some t
      ·rw [hsees.other t hno] at hu; exact hold hu
      ·have:∃ (k:Nat) (q:q50),rs[k]? = some q∧q.o.dst=some t:=by
        apply Classical.byContradiction
        intro hn
        exact hno fun k r hr hd=>hn ⟨k,r,hr,hd⟩
       obtain ⟨k,q,hq,hd⟩:=this
       by_cases hL:listed.getD k false=true
       ·have htl:t<tm₀.length:=by rw [← hlen]; exact (List.getElem?_eq_some_iff.1 hu).1
        rw [hsees.yes k q t hq hd htl hL] at hu
        cases hu
        cases ha:q.act with
        | true =>
         exfalso
         rcases hal.acts k q hq ha with h | ⟨K,_,_,_,hLc⟩
         ·obtain ⟨al',hm',hu'⟩:=hun
          exact hu' (qbq hst hcl k al'.i hL (h al' hm'))
         ·rw [hLc.dst] at hd; cases hd
        | false =>
         cases hm2:q.mv with
         | true =>
          obtain ⟨al',hm',hi2⟩:=hal.all k q hq ha hm2
          obtain ⟨q',d',p1,p2,_⟩:=hal.at_ al' hm'
          rw [hi2,hq] at p1; cases p1
          rw [p2] at v2 ⊢
          refine z7 _ _ v (fun h=>?_) (by rw [hnx]; exact (hal.names al' hm').2) v2
          have:=hal.nodup al' hm' al hm h
          rw [hi2,hi'] at this
          subst this
          exact hLi hL
         | false =>
          rcases hal.early k q hq ha hm2 with h | h
          ·exfalso
           obtain ⟨al',hm',hu'⟩:=hun
           exact hu' (qbq hst hcl k al'.i hL (h al' hm'))
          ·exact z5 _ v (Bel.le (hal.names al hm).1 _ h.1) v2
       ·rw [hsees.no k q t hq hd hL] at hu; exact hold hu
    have st2:St F y' (q5l tm r.o.dst r.u) tv' m₁ w₁ a₁:=⟨z3,z4,hslots,by rw [z2]; exact st'.fits,by rw [z2]; exact st'.act⟩
    have hke2:Ke n0 x0 y':=(hke.trans (hke'.le (by rw [hnx]; have:=hal.le; omega))).trans (z5.le (Nat.le_trans hn0 (hal.names al hm).1))
    have hadv2:Adv m0 x0.s w0 m₁ y'.s w₁:=by rw [z2]; exact hadv.trans hadv'
    have hnx2:y'.σ.nx=σ1.nx:=by rw [z1]; exact hnx
    have hrow2:∀ al'∈als,gt y'.σ.h al'.k=if (listed.setIfInBounds i true).getD al'.i false=true then gt (uAt rs σ' p).h al'.k else none:=fun al' hm'=>by
     rw [z1]
     simp only [q1a]
     by_cases hkk:al.k=al'.k
     ·have hii:=hal.nodup al hm al' hm' hkk
      rw [if_pos hkk,if_pos ((hget _).2 (.inr (by rw [← hii,hi'])))]
      rw [← hkk]; exact F1.symm
     ·rw [if_neg hkk,hrow al' hm']
      have hne:al'.i≠i:=fun h=>hkk (by
       obtain ⟨q',d',p1,p2,_⟩:=hal.at_ al' hm'
       rw [h,hr] at p1; cases p1
       rw [q2] at p2
       cases ho:al.o<;>cases ho':al'.o<;>rw [ho,ho'] at p2<;>simp only [alU] at p2<;>first | (cases p2; done) | (simp only [U.ptr.injEq,U.sl.injEq] at p2; exact p2.1))
      have:((listed.setIfInBounds i true).getD al'.i false=true)↔listed.getD al'.i false=true:=by rw [hget]; simp [hne]
      by_cases hL:listed.getD al'.i false=true
      ·rw [if_pos hL,if_pos (this.2 hL)]
      ·rw [if_neg hL,if_neg fun h=>hL (this.1 h)]
    have hoth2:∀ j,(∀ al∈als,al.k≠j)→gt y'.σ.h j=gt σb.h j:=fun j hj=>by
     rw [z1]; simp only [q1a]
     rw [if_neg (hj al hm)]; exact hoth j hj
    by_cases hmore:∃ al∈als,¬ (listed.setIfInBounds i true).getD al.i false=true
    ·exact ih _ _ _ m₁ _ tv' y' p hp hacts' (by simpa using hsz) hcnt' hcl' hsees' hmore hnx2 hrow2 hoth2 st2 hadv2 hke2 (hdf'.trans hdf)
    ·-- all allocs have come
     have hdone:∀ al∈als,(listed.setIfInBounds i true).getD al.i false=true:=fun al hm=>by
      apply Classical.byContradiction
      intro h
      exact hmore ⟨al,hm,h⟩
     have hgt:∀ k,gt (uAt rs σ' p).h k=gt y'.σ.h k:=fun k=>by
      by_cases hj:∀ al∈als,al.k≠k
      ·rw [F3 k hj,hoth2 k hj]
      ·have:∃ al∈als,al.k=k:=by
        apply Classical.byContradiction
        intro hc
        exact hj fun al hm h=>hc ⟨al,hm,h⟩
       obtain ⟨al',hm',rfl⟩:=this
       rw [hrow2 al' hm',if_pos (hdone al' hm')]
     obtain ⟨y2,k1,k2,k3,k4,k5,k6⟩:=Gh.same (n0:=n0) (tm:=q5l tm r.o.dst r.u) (σ:=y'.σ) (uAt rs σ' p).h hgt F y' tv' rfl st2.h st2.fr st2.e
     have hσ2:y2.σ=uAt rs σ' p:=by rw [k2,hnx2,← F4]
     have hadv3:=k1 m₁ w₁ st2.fits
     refine qv7 hT ops htr hst hch (n0:=n0) (F:=F) (x0:=x0) (m0:=m0) (w0:=w0) (df:=df) hQ fuel (listed.setIfInBounds i true) a₁ w₁ m₁ p (q5l tm r.o.dst r.u) tv' y2 (by simpa using hsz) hcnt' hcl' (fun e q h1 h2 h3=>?_) hsees' hp hacts' hσ2 ⟨k3,k4,k5,hadv3.fits,st2.act.ext hadv3.agree hadv3.nx⟩ (hadv2.trans hadv3) (hke2.trans k6) (by rw [hσ2,F4]; have:=hal.le; omega) (hdf'.trans hdf)
     ·obtain ⟨al',hm',hi2⟩:=hal.all e q h1 h2 h3
      rw [← hi2]; exact hdone al' hm'
   | false =>
    rcases hgood with ⟨hw,hu,ha,_⟩ | ⟨hw,hop,hqu⟩ | ⟨hw,ha,f,args,hcall,hev⟩ | ⟨hw,ha,_,hfree⟩ | ⟨ha,hm,_⟩ | ⟨hw,ha,_⟩
    ·rw [q32 hstt.e (hwc.trans hw)]
     simp only [Bool.false_eq_true,if_false]
     rw [hu] at stay
     exact ⟨fun _ _=>trivial,stay hmv x _ m w _ rfl (hstt.skip r.o.dst) hadv hke ((q7y _ _ _).trans hdf)⟩
    ·rw [q32 hstt.e (hwc.trans hw)]
     simp only [if_true]
     rcases hal.early i r hr noact hmv with h | h
     ·exact absurd h notall
     ·obtain ⟨g1,g2⟩:=h.2 hw hop
      have hop':opU T x.σ tm r.o.op=some (r.u,x.σ):=by
       rw [qbw hopc]; exact qww hsub g1 g2
      exact q9i (qiz hop') (hstt.op hT r.o hop' fun y tv' m₁ w₁ a₁ e1 st' hadv' hke' hnx' hdf'=>stay hmv y tv' m₁ w₁ a₁ e1 st' (hadv.trans hadv') (hke.trans (hke'.le (by rw [hnx]; have:=hal.le; omega))) (hdf'.trans hdf))
    ·rw [noact] at ha; cases ha
    ·rw [q32 hstt.e (hwc.trans hw)]
     simp only [if_true]
     exact q9i (hfree.congr hopc).nd (hstt.free hT r.o (hfree.congr hopc) fun y tv' m₁ w₁ a₁ e1 st' hadv' hke' hnx' hdf'=>stay hmv y tv' m₁ w₁ a₁ e1 st' (hadv.trans hadv') (hke.trans (hke'.le (by rw [hnx]; have:=hal.le; omega))) (hdf'.trans hdf))
    ·rw [hmv] at hm; cases hm
    ·rw [noact] at ha; cases ha
end
end Go.Vx
end
section
namespace Go.Vx
open Go Go.Rx
def locP (mk K:Nat) (q':List U):List Al→Prop
 | []=>True
 | al::r=>(Nat.testBit mk al.i=true∨(al.k≠K∧q1t al.k q'))∧locP mk K q' r
theorem qwv {mk K:Nat} {q':List U}:∀ {l:List Al},locP mk K q' l→∀ al∈l,Nat.testBit mk al.i=true∨(al.k≠K∧q1t al.k q')
 | [],_,al,h=>by cases h
 | x::r,hl,al,h=>by
  rcases List.mem_cons.1 h with rfl | h
  ·exact hl.1
  ·exact qwv hl.2 al h
def RA (P:Program) (T:Tb) (ops:List Oper) (nb:Nat) (σe:Sg) (qa:List Al):List Oper→List U→Sg→List RK→List Al→(List RK→List U→Sg→Prop)→Prop
 | [],tm,σ,acc,q,K=>q=[]∧K acc tm σ
 | o::r,tm,σ,acc,q,K =>
  (q07 ops tm o=some true∧∃ u,opU T σ tm o.op=some (u,σ)∧RA P T ops nb σe qa r (q5l tm o.dst u) σ ((1,⟨tm,o,u,false,false,σ,σ⟩)::acc) q K) ∨
  (q07 ops tm o=some true∧∃ u σ',opU T σ tm o.op=some (u,σ')∧RA P T ops nb σe qa r (q5l tm o.dst u) σ' ((3,⟨tm,o,u,true,true,σ,σ'⟩)::acc) q K) ∨
  (q07 ops tm o=some true∧∃ f args u,q5y T tm o.op=some (f,args)∧EvU P f args σ (fun u' σ'=>u'=u∧σ'=σ)∧RA P T ops nb σe qa r (q5l tm o.dst u) σ ((2,⟨tm,o,u,true,false,σ,σ⟩)::acc) q K) ∨
  (q07 ops tm o=some true∧∃ f args u σ',q5y T tm o.op=some (f,args)∧EvU P f args σ (fun u' s'=>u'=u∧s'=σ')∧RA P T ops nb σe qa r (q5l tm o.dst u) σ' ((3,⟨tm,o,u,true,true,σ,σ'⟩)::acc) q K) ∨
  (q07 ops tm o=some false∧RA P T ops nb σe qa r (q5l tm o.dst (.tup [])) σ ((0,⟨tm,o,.tup [],false,false,σ,σ⟩)::acc) q K) ∨
  (q07 ops tm o=some true∧∃ u,q95 P T tm o.op u∧Bel nb u∧RA P T ops nb σe qa r (q5l tm o.dst u) σ ((6,⟨tm,o,u,false,false,σ,σ⟩)::acc) q K) ∨
  (q07 ops tm o=some true∧∃ u,opU T σ tm o.op=some (u,σ)∧opU T σe tm o.op=some (u,σe)∧qrd o.op=true∧Bel nb u∧RA P T ops nb σe qa r (q5l tm o.dst u) σ ((5,⟨tm,o,u,false,false,σ,σ⟩)::acc) q K) ∨
  (∃ al q' d,q=al::q'∧al.i=acc.length∧(∀ s,opU T s tm o.op=some (alU al.o s.nx,q5d s (.row al.l al.e)))∧o.guard=none∧o.dst=some d∧RA P T ops nb σe qa r (q5l tm o.dst (alU al.o al.k)) σ ((4,⟨tm,o,alU al.o al.k,false,true,σ,σ⟩)::acc) q' K) ∨
  (q07 ops tm o=some true∧∃ u KK c c' e mk,(masks ops [])[acc.length]? = some mk∧o.dst=none∧gt σ.h KK=some (.row c e)∧(∀ τ:Sg,gt τ.h KK=some (.row c e)→opU T τ tm o.op=some (u,⟨ug τ.h KK (.row c' e),τ.nx⟩))∧(∃ al∈qa,al.k=KK)∧locP mk KK c' qa ∧
   RA P T ops nb σe qa r (q5l tm o.dst u) ⟨ug σ.h KK (.row c' e),σ.nx⟩ ((7,⟨tm,o,u,true,true,σ,⟨ug σ.h KK (.row c' e),σ.nx⟩⟩)::acc) q K)
theorem qyz {T:Tb} {σ:Sg} {tm:List U} {op:Op} {u u':U} {b:B} (h':opU T σ tm op=some (u',q5d σ b)) (h:opU T σ tm op=some (u,σ)):False:=by
 rw [h'] at h
 simp only [Option.some.injEq,Prod.mk.injEq] at h
 have:=congrArg Sg.nx h.2
 simp only [q5d] at this
 omega
structure KA (P:Program) (T:Tb) (ops:List Oper) (nb:Nat) (σe:Sg) (x:RK):Prop where
 good:Good P T ops x.2
 sm:x.1≠3→x.1≠7→x.2.s'=x.2.s
 act:x.2.act=true↔(x.1=2∨x.1=3∨x.1=7)
 mv:x.2.act=false→(x.2.mv=true↔x.1=4)
 lk:x.2.act=false→q07 ops x.2.tm x.2.o=some true→opU T x.2.s x.2.tm x.2.o.op=some (x.2.u,x.2.s')→x.1=1∨x.1=5
 ear:x.2.act=false→x.2.mv=false→x.1=1∨(Bel nb x.2.u∧(q07 ops x.2.tm x.2.o=some true→opU T x.2.s x.2.tm x.2.o.op=some (x.2.u,x.2.s')→qrd x.2.o.op=true∧opU T σe x.2.tm x.2.o.op=some (x.2.u,σe)))
theorem ra_ok {P:Program} {T:Tb} {ops:List Oper} {nb:Nat} {σe:Sg} {qa:List Al}:∀ (rest:List Oper) (tm:List U) (σ:Sg) (acc:List RK) (q:List Al) (K:List RK→List U→Sg→Prop),RA P T ops nb σe qa rest tm σ acc q K →
  ∃ (ks:List RK) (tm':List U) (σ':Sg),K (ks.reverse++acc) tm' σ'∧ks.length=rest.length∧uAt (ks.map (·.2)) σ' 0=σ∧vAt (ks.map (·.2)) tm' 0=tm ∧
   (∀ (i:Nat) (x:RK),ks[i]? = some x→rest[i]? = some x.2.o∧KA P T ops nb σe x∧uAt (ks.map (·.2)) σ' (i+1)=x.2.s'∧vAt (ks.map (·.2)) tm' (i+1)=q5l x.2.tm x.2.o.dst x.2.u) ∧
   (∀ (i:Nat) (x:RK),ks[i]? = some x→x.1=7→∃ KK c c' e,Loc T ops qa (acc.length+i) x.2 KK c c' e) ∧
   (∀ (i:Nat) (x:RK),ks[i]? = some x→x.1=4→∃ al∈q,al.i=acc.length+i) ∧
   (∀ al∈q,∃ (i:Nat) (x:RK) (d:Tmp),al.i=acc.length+i∧ks[i]? = some x∧x.1=4∧x.2.u=alU al.o al.k∧(∀ s,opU T s x.2.tm x.2.o.op=some (alU al.o s.nx,q5d s (.row al.l al.e)))∧x.2.o.guard=none∧x.2.o.dst=some d)
 | [],tm,σ,acc,q,K,h=>by
  obtain ⟨rfl,h⟩:=h
  exact ⟨[],tm,σ,h,rfl,rfl,rfl,fun i x hx=>by simp at hx,fun i x hx=>by simp at hx,fun i x hx=>by simp at hx,fun al h=>by cases h⟩
 | o::rest,tm,σ,acc,q,K,h=>by
  have step:∀ (k:Nat) (u:U) (ac mv:Bool) (σ1:Sg) (q':List Al),RA P T ops nb σe qa rest (q5l tm o.dst u) σ1 ((k,⟨tm,o,u,ac,mv,σ,σ1⟩)::acc) q' K→KA P T ops nb σe (k,⟨tm,o,u,ac,mv,σ,σ1⟩) →
    (k=7→∃ KK c c' e,Loc T ops qa acc.length ⟨tm,o,u,ac,mv,σ,σ1⟩ KK c c' e) →
    (k≠4∧q=q'∨∃ al d,q=al::q'∧al.i=acc.length∧k=4∧u=alU al.o al.k∧(∀ s,opU T s tm o.op=some (alU al.o s.nx,q5d s (.row al.l al.e)))∧o.guard=none∧o.dst=some d) →
    ∃ (ks:List RK) (tm':List U) (σ':Sg),K (ks.reverse++acc) tm' σ'∧ks.length=(o::rest).length∧uAt (ks.map (·.2)) σ' 0=σ∧vAt (ks.map (·.2)) tm' 0=tm ∧
     (∀ (i:Nat) (x:RK),ks[i]? = some x→(o::rest)[i]? = some x.2.o∧KA P T ops nb σe x∧uAt (ks.map (·.2)) σ' (i+1)=x.2.s'∧vAt (ks.map (·.2)) tm' (i+1)=q5l x.2.tm x.2.o.dst x.2.u) ∧
     (∀ (i:Nat) (x:RK),ks[i]? = some x→x.1=7→∃ KK c c' e,Loc T ops qa (acc.length+i) x.2 KK c c' e) ∧
     (∀ (i:Nat) (x:RK),ks[i]? = some x→x.1=4→∃ al∈q,al.i=acc.length+i) ∧
     (∀ al∈q,∃ (i:Nat) (x:RK) (d:Tmp),al.i=acc.length+i∧ks[i]? = some x∧x.1=4∧x.2.u=alU al.o al.k∧(∀ s,opU T s x.2.tm x.2.o.op=some (alU al.o s.nx,q5d s (.row al.l al.e)))∧x.2.o.guard=none∧x.2.o.dst=some d):=by
   intro k u ac mv σ1 q' h hk hloc hq
   obtain ⟨ks,tm',σ',g1,g2,g3,g4,g5,g9,g6,g7⟩:=ra_ok rest _ _ _ _ _ h
   refine ⟨(k,⟨tm,o,u,ac,mv,σ,σ1⟩)::ks,tm',σ',by simpa using g1,by simp [g2],rfl,rfl,fun i x hx=>?_,fun i x hx h7=>?_,fun i x hx h4=>?_,fun al hal=>?_⟩
   ·cases i with
    | zero =>
     simp at hx; subst hx
     refine ⟨rfl,hk,?_,?_⟩
     ·simp only [uAt,List.map_cons,List.getElem?_cons_succ]; exact g3
     ·simp only [vAt,List.map_cons,List.getElem?_cons_succ]; exact g4
    | succ i =>
     simp only [List.getElem?_cons_succ] at hx
     obtain ⟨k1,k2,k3,k4⟩:=g5 i x hx
     refine ⟨by simpa using k1,k2,?_,?_⟩
     ·simp only [uAt,List.map_cons,List.getElem?_cons_succ]; exact k3
     ·simp only [vAt,List.map_cons,List.getElem?_cons_succ]; exact k4
   ·cases i with
    | zero =>
     simp at hx; subst hx
     exact hloc h7
    | succ i =>
     simp only [List.getElem?_cons_succ] at hx
     have:=g9 i x hx h7
     have e:((k,(⟨tm,o,u,ac,mv,σ,σ1⟩:q50))::acc).length+i=acc.length+(i+1):=by simp; omega
     rwa [e] at this
   ·cases i with
    | zero =>
     simp at hx; subst hx
     rcases hq with ⟨hne,_⟩ | ⟨al,d,rfl,hi,_⟩
     ·exact absurd h4 hne
     ·exact ⟨al,by simp,by omega⟩
    | succ i =>
     simp only [List.getElem?_cons_succ] at hx
     obtain ⟨al,h1,h2⟩:=g6 i x hx h4
     refine ⟨al,?_,by simp at h2; omega⟩
     rcases hq with ⟨_,rfl⟩ | ⟨al',d,rfl,_⟩
     ·exact h1
     ·exact List.mem_cons_of_mem _ h1
   ·have later:al∈q'→∃ (i:Nat) (x:RK) (d:Tmp),al.i=acc.length+i∧((k,(⟨tm,o,u,ac,mv,σ,σ1⟩:q50))::ks)[i]? = some x∧x.1=4∧x.2.u=alU al.o al.k∧(∀ s,opU T s x.2.tm x.2.o.op=some (alU al.o s.nx,q5d s (.row al.l al.e)))∧x.2.o.guard=none∧x.2.o.dst=some d:=fun hm=>by
     obtain ⟨i,x,d,h1,h2,h3⟩:=g7 al hm
     exact ⟨i+1,x,d,by simp at h1; omega,by simpa using h2,h3⟩
    rcases hq with ⟨_,rfl⟩ | ⟨al',d,rfl,hi,hk4,hu,ho,hg,hd⟩
    ·exact later hal
    ·rcases List.mem_cons.1 hal with rfl | hal
     ·exact ⟨0,_,d,by omega,rfl,hk4,hu,ho,hg,hd⟩
     ·exact later hal
  simp only [RA] at h
  rcases h with ⟨hw,u,h1,h2⟩ | ⟨hw,u,σ1,h1,h2⟩ | ⟨hw,f,args,u,h1,h2,h3⟩ | ⟨hw,f,args,u,σ1,h1,h2,h3⟩ | ⟨hw,h1⟩ | ⟨hw,u,h1,hb,h3⟩ | ⟨hw,u,h1,h2,h3,hb,h4⟩ | ⟨al,q',d,hq,hi,ho,hg,hd,h1⟩ | ⟨hw,u,KK,c,c',e,mk,hmk,hd,hg,hrun,hnm,hlp,h1⟩
  ·exact step 1 u false false σ q h2 ⟨.inr (.inl ⟨hw,h1,fun _=>rfl⟩),fun _ _=>rfl,by simp,by simp,fun _ _ _=>.inl rfl,fun _ _=>.inl rfl⟩ (fun h=>by omega) (.inl ⟨by omega,rfl⟩)
  ·exact step 3 u true true σ1 q h2 ⟨.inr (.inl ⟨hw,h1,by simp⟩),by simp,by simp,by simp,by simp,by simp⟩ (fun h=>by omega) (.inl ⟨by omega,rfl⟩)
  ·exact step 2 u true false σ q h3 ⟨.inr (.inr (.inl ⟨hw,rfl,f,args,h1,h2⟩)),fun _ _=>rfl,by simp,by simp,by simp,by simp⟩ (fun h=>by omega) (.inl ⟨by omega,rfl⟩)
  ·exact step 3 u true true σ1 q h3 ⟨.inr (.inr (.inl ⟨hw,rfl,f,args,h1,h2⟩)),by simp,by simp,by simp,by simp,by simp⟩ (fun h=>by omega) (.inl ⟨by omega,rfl⟩)
  ·exact step 0 _ false false σ q h1 ⟨.inl ⟨hw,rfl,rfl,rfl⟩,fun _ _=>rfl,by simp,by simp,(fun _ h=>by rw [hw] at h; cases h),fun _ _=>.inr ⟨by simp [Bel,q1t],fun h=>by rw [hw] at h; cases h⟩⟩ (fun h=>by omega) (.inl ⟨by omega,rfl⟩)
  ·exact step 6 u false false σ q h3 ⟨.inr (.inr (.inr (.inl ⟨hw,rfl,rfl,h1⟩))),fun _ _=>rfl,by simp,by simp,(fun _ _ h=>absurd h (h1.noop _)),fun _ _=>.inr ⟨hb,fun _ h=>absurd h (h1.noop _)⟩⟩ (fun h=>by omega) (.inl ⟨by omega,rfl⟩)
  ·exact step 5 u false false σ q h4 ⟨.inr (.inl ⟨hw,h1,fun _=>rfl⟩),fun _ _=>rfl,by simp,by simp,fun _ _ _=>.inr rfl,fun _ _=>.inr ⟨hb,fun _ _=>⟨h3,h2⟩⟩⟩ (fun h=>by omega) (.inl ⟨by omega,rfl⟩)
  ·exact step 4 _ false true σ q' h1 ⟨.inr (.inr (.inr (.inr (.inl ⟨rfl,rfl,rfl⟩)))),fun _ _=>rfl,by simp,by simp,(fun _ _ h=>(qyz (ho _) h).elim),by simp⟩ (fun h=>by omega) (.inr ⟨al,d,hq,hi,rfl,rfl,ho,hg,hd⟩)
  ·exact step 7 u true true _ q h1 ⟨.inr (.inl ⟨hw,hrun σ hg,by simp⟩),by simp,by simp,by simp,by simp,by simp⟩ (fun _=>⟨KK,c,c',e,⟨hnm,hg,rfl,hd,hrun,fun al hm=>by
    rcases qwv hlp al hm with h | h
    ·exact .inl ⟨mk,hmk,h⟩
    ·exact .inr h,hw⟩⟩) (.inl ⟨by omega,rfl⟩)
def kf (k:Nat):Nat:=cond (Nat.beq k 4) 0 (cond (Nat.beq k 5) 1 (cond (Nat.beq k 6) 0 (cond (Nat.beq k 7) 3 k)))
def lateB (ai:List Nat) (m:Nat):Bool:=ai.all fun i=>Nat.testBit m i
def quc (ai:List Nat):List Nat→List Nat→Bool
 | k::ks,m::ms=>cond (Nat.ble 1 k) (cond (Nat.ble k 3) (lateB ai m) true) true&&quc ai ks ms
 | [],_=>true
 | _::_,[]=>false
theorem qsn {ai:List Nat}:∀ {ks ms:List Nat},quc ai ks ms=true→∀ {i k:Nat},ks[i]? = some k→1≤k→k≤3→∃ m,ms[i]? = some m∧∀ a∈ai,m.testBit a=true
 | [],ms,_,i,k,hk,_,_=>by simp at hk
 | _::_,[],h,_,_,_,_,_=>by simp [quc] at h
 | k0::ks,m0::ms,h,i,k,hk,h1,h3=>by
  simp only [quc,Bool.and_eq_true] at h
  cases i with
  | zero =>
   simp at hk; subst hk
   have a1:Nat.ble 1 k0=true:=by rw [Nat.ble_eq]; exact h1
   have a2:Nat.ble k0 3=true:=by rw [Nat.ble_eq]; exact h3
   have:=h.1
   rw [a1,a2] at this
   simp only [cond_true,lateB,List.all_eq_true] at this
   exact ⟨m0,rfl,this⟩
  | succ i =>
   simp only [List.getElem?_cons_succ] at hk ⊢
   exact qsn h.2 hk h1 h3
section
variable {P:Program} {T:Tb}
theorem chU_of {ops : Array Oper} {nb : Nat} {σe : Sg} {tm : List U} {σ : Sg} {ks : List RK} {tm' : List U} {σ' : Sg} {pr : List (Nat × Nat)} (hst : q91 ops.toList = true) (htr : TrU P T ops.toList tm σ (ks.map (·.2)) tm' σ')
    (hkk : ∀ (i : Nat) (x : RK), ks[i]? = some x → KA P T ops.toList nb σe x) (hfl : flE ops.toList (ks.map fun x => kf x.1) pr = true) (hpr : qie T ks pr) : ChU T ops.toList (ks.map (·.2)) := by
  have hlen : (ks.map (·.2)).length = ops.toList.length := htr.len
  have same : ∀ (p q : Nat), p ≤ q → q ≤ ks.length → (∀ (e : Nat) (x : RK), p ≤ e → e < q → ks[e]? = some x → x.1 ≠ 3 ∧ x.1 ≠ 7) → uAt (ks.map (·.2)) σ' p = uAt (ks.map (·.2)) σ' q := by
    intro p q hpq hq hno
    induction q with
    | zero => have : p = 0 := by omega
              rw [this]
    | succ q ih =>
      rcases Nat.lt_or_ge q p with h | h
      · have : p = q + 1 := by omega
        rw [this]
      · rw [ih h (by omega) fun e r h1 h2 h3 => hno e r h1 (by omega) h3]
        have hr : ks[q]? = some ks[q] := by simp [show q < ks.length by omega]
        have hr2 : (ks.map (·.2))[q]? = some ks[q].2 := by simp [hr]
        have k3 := (htr.all q _ hr2).2.2.1
        rw [k3, (hkk q _ hr).sm (hno q _ h (Nat.lt_succ_self _) hr).1 (hno q _ h (Nat.lt_succ_self _) hr).2]
        simp [uAt, hr2]
  have at_ : ∀ (i : Nat) (r : q50), (ks.map (·.2))[i]? = some r → ∃ k, ks[i]? = some (k, r) := by
    intro i r hr
    simp only [List.getElem?_map] at hr
    cases hk : ks[i]? with
    | none => rw [hk] at hr; simp at hr
    | some x =>
      obtain ⟨k, r'⟩ := x
      rw [hk] at hr; simp at hr; subst hr
      exact ⟨k, rfl⟩
  have trp : ∀ (i k : Nat) (r : q50), ks[i]? = some (k, r) → ∃ m, (masks ops.toList [])[i]? = some m ∧ (trip 0 (ks.map fun x => kf x.1) (masks ops.toList []))[i]? = some (kf k, m, qec ((ks.map fun x => kf x.1).take i)) := by
    intro i k r hk
    obtain ⟨m1, _, _⟩ := qh7 ops.toList []
    have hi : i < ops.toList.length := by rw [← hlen]; simp only [List.length_map]; exact (List.getElem?_eq_some_iff.1 hk).1
    have hm : i < (masks ops.toList []).length := by rw [m1]; simpa using hi
    refine ⟨(masks ops.toList [])[i], by simp [hm], ?_⟩
    have := qrs (ks.map fun x => kf x.1) (masks ops.toList []) 0 i (kf k) _ (by simp [hk]) (show (masks ops.toList [])[i]? = some (masks ops.toList [])[i] by simp [hm])
    rwa [Nat.zero_add] at this
  have chk : ∀ (i k ki kk : Nat) (r q : q50), ks[i]? = some (ki, r) → ks[k]? = some (kk, q) → ∃ mi mk, (masks ops.toList [])[i]? = some mi ∧ (masks ops.toList [])[k]? = some mk ∧
      okE pr i (kf ki, mi, qec ((ks.map fun x => kf x.1).take i)) k (kf kk, mk, qec ((ks.map fun x => kf x.1).take k)) = true := by
    intro i k ki kk r q hi hk
    obtain ⟨mi, e1, e2⟩ := trp i ki r hi
    obtain ⟨mk, e3, e4⟩ := trp k kk q hk
    refine ⟨mi, mk, e1, e3, ?_⟩
    have h1 := qjz hfl e2
    have h2 := qjz h1 e4
    simpa using h2
  have nomv : ∀ (p q : Nat), p ≤ q → q ≤ ks.length → qec ((ks.map fun x => kf x.1).take p) = qec ((ks.map fun x => kf x.1).take q) → uAt (ks.map (·.2)) σ' p = uAt (ks.map (·.2)) σ' q := by
    intro p q hpq hq hc
    refine same p q hpq hq fun e x h1 h2 h3 => ?_
    have := qs2 hpq (by simp; omega) hc e (kf x.1) h1 h2 (by simp [h3])
    exact ⟨fun h4 => this (by rw [h4]; rfl), fun h4 => this (by rw [h4]; rfl)⟩
  have kact : ∀ (i : Nat) (r : q50), (ks.map (·.2))[i]? = some r → r.act = true → ∃ k, ks[i]? = some (k, r) ∧ Nat.ble 2 (kf k) = true ∧ (k = 2 ∨ k = 3 ∨ k = 7) := by
    intro i r hr ha
    obtain ⟨k, hk⟩ := at_ i r hr
    have := (hkk i _ hk).act.1 ha
    refine ⟨k, hk, ?_, this⟩
    rcases this with h | h | h <;> (simp only [] at h; subst h; rfl)
  have kqu : ∀ (i : Nat) (r : q50), (ks.map (·.2))[i]? = some r → r.act = false → q07 ops.toList r.tm r.o = some true → opU T r.s r.tm r.o.op = some (r.u, r.s') → ∃ k, ks[i]? = some (k, r) ∧ kf k = 1 := by
    intro i r hr ha hw hl
    obtain ⟨k, hk⟩ := at_ i r hr
    refine ⟨k, hk, ?_⟩
    rcases (hkk i _ hk).lk ha hw hl with h | h <;> (simp only [] at h; subst h; rfl)
  have succ : ∀ (l : List Nat) (a k : Nat), l[a]? = some k → qec (l.take (a + 1)) = qec (l.take a) + isM k := by
    intro l
    induction l with
    | nil => intro a k h; simp at h
    | cons x l ih =>
      intro a k h
      cases a with
      | zero => simp at h; subst h; simp [qec]
      | succ a => simp only [List.getElem?_cons_succ] at h; simp only [List.take_succ_cons, qec]; rw [ih a k h]; omega
  have hb1 : Nat.ble 2 1 = false := rfl
  have hb2 : Nat.beq 1 1 = true := rfl
  refine ⟨fun i k r q hr hq ha hb hlt => ?_, fun i k r q hr hq ha hw hl hb hlt => ?_, fun i k r q hr hq ha hw hl hb hlt => ?_⟩
  · obtain ⟨ki, h1, h2, _⟩ := kact i r hr ha
    obtain ⟨kk, h3, h4, _⟩ := kact k q hq hb
    obtain ⟨mi, mk, e1, e2, e3⟩ := chk i k ki kk r q h1 h3
    simp only [okE, h2, h4, cond_true, q4z hlt] at e3
    exact ⟨mi, e1, e3⟩
  · obtain ⟨ki, h1, hk1⟩ := kqu i r hr ha hw hl
    obtain ⟨kk, h3, h4, _⟩ := kact k q hq hb
    obtain ⟨mi, mk, e1, e2, e3⟩ := chk i k ki kk r q h1 h3
    simp only [okE, hk1, hb1, hb2, h4, cond_true, cond_false, q4z hlt, Bool.or_eq_true] at e3
    rcases e3 with e3 | e3 | e3
    · exact .inl ⟨mi, e1, e3⟩
    · have := nomv k i (by omega) (by have := (List.getElem?_eq_some_iff.1 h1).1; omega) (Nat.eq_of_beq_eq_true e3)
      exact .inr (.inl (by simpa [uAt, h1, h3] using this))
    · have := qby hpr _ (qky e3)
      simp only [qmr, q1z, h1, h3, q4z hlt, cond_true] at this
      exact .inr (.inr this)
  · obtain ⟨ki, h1, hk1⟩ := kqu i r hr ha hw hl
    obtain ⟨kk, h3, h4, _⟩ := kact k q hq hb
    obtain ⟨mi, mk, e1, e2, e3⟩ := chk i k ki kk r q h1 h3
    simp only [okE, hk1, hb1, hb2, h4, cond_true, cond_false, qax (show ¬ k < i by omega), Bool.or_eq_true] at e3
    rcases e3 with e3 | e3 | e3
    · exact .inl ⟨mk, e2, e3⟩
    · have hc : qec ((ks.map fun x => kf x.1).take i) = qec ((ks.map fun x => kf x.1).take (k + 1)) := by
        rw [succ _ k (kf kk) (by simp [h3])]; exact Nat.eq_of_beq_eq_true e3
      have := nomv i (k + 1) (by omega) (by have := (List.getElem?_eq_some_iff.1 h3).1; omega) hc
      have h2 := (htr.all k q hq).2.2.1
      rw [h2] at this
      exact .inr (.inl (by simpa [uAt, h1] using this.symm))
    · have := qby hpr _ (qky e3)
      simp only [qmr, q1z, h1, h3, qax (show ¬ k < i by omega), cond_false] at this
      exact .inr (.inr this)
end
def qtv:Sg→List (Nat×Option Nat×List U×TypeId)→Sg
 | σ,[]=>σ
 | σ,x::r=>qtv (q5d σ (.row x.2.2.1 x.2.2.2)) r
def qol:Nat→List (Nat×Option Nat×List U×TypeId)→List Al
 | _,[]=>[]
 | n,x::r=>⟨x.1,n,x.2.1,x.2.2.1,x.2.2.2⟩::qol (n+1) r
theorem qhw:∀ (L:List (Nat×Option Nat×List U×TypeId)) (σ:Sg),(qtv σ L).nx=σ.nx+L.length
 | [],σ=>rfl
 | x::r,σ=>by simp only [qtv,qhw r,q5d,List.length_cons]; omega
theorem qm9:∀ {L:List (Nat×Option Nat×List U×TypeId)} {n:Nat} {al:Al},al∈qol n L→n≤al.k∧al.k<n+L.length
 | [],n,al,h=>by cases h
 | x::r,n,al,h=>by
  rcases List.mem_cons.1 h with rfl | h
  ·simp
  ·have:=qm9 h; simp only [List.length_cons]; omega
theorem qv5:∀ {L:List (Nat×Option Nat×List U×TypeId)} {n:Nat} {a b:Al},a∈qol n L→b∈qol n L→a.k=b.k→a=b
 | [],n,a,b,h,_,_=>by cases h
 | x::r,n,a,b,ha,hb,hk=>by
  rcases List.mem_cons.1 ha with rfl | ha
  ·rcases List.mem_cons.1 hb with rfl | hb
   ·rfl
   ·have:=qm9 hb; simp only at hk; omega
  ·rcases List.mem_cons.1 hb with rfl | hb
   ·have:=qm9 ha; simp only at hk; omega
   ·exact qv5 ha hb hk
theorem qn7:∀ (L:List (Nat×Option Nat×List U×TypeId)) (σ:Sg) {j:Nat},(∀ al∈qol σ.nx L,al.k≠j)→gt (qtv σ L).h j=gt σ.h j
 | [],σ,j,_=>rfl
 | x::r,σ,j,hj=>by
  have h1:=hj ⟨x.1,σ.nx,x.2.1,x.2.2.1,x.2.2.2⟩ (by simp [qol])
  simp only [qtv]
  rw [qn7 r (q5d σ (.row x.2.2.1 x.2.2.2)) fun al hm=>hj al (by simp only [qol,List.mem_cons]; exact .inr hm)]
  simp only [q5d,q1a]
  rw [if_neg h1]
theorem qru:∀ {L:List (Nat×Option Nat×List U×TypeId)} {σ:Sg} {al:Al},al∈qol σ.nx L→gt (qtv σ L).h al.k=some (.row al.l al.e)
 | [],σ,al,h=>by cases h
 | x::r,σ,al,h=>by
  rcases List.mem_cons.1 h with rfl | h
  ·simp only [qtv]
   rw [qn7 r (q5d σ (.row x.2.2.1 x.2.2.2)) fun al hm=>?_]
   ·simp [q5d,q1a]
   ·have:=qm9 hm; simp only [q5d] at this; omega
  ·exact qru (σ:=q5d σ (.row x.2.2.1 x.2.2.2)) h
def qtu:List (Nat×Option Nat×List U×TypeId)→Prop
 | []=>True
 | x::r=>q1t 0 x.2.2.1∧qtu r
theorem qqn:∀ {L:List (Nat×Option Nat×List U×TypeId)} {n:Nat},qtu L→∀ al∈qol n L,q1t 0 al.l
 | [],n,_,al,h=>by cases h
 | x::r,n,hz,al,h=>by
  rcases List.mem_cons.1 h with rfl | h
  ·exact hz.1
  ·exact qqn hz.2 al h
section
variable {C:PG} {T:Tb} (hT:qef C.prog T) {n0:Nat} {Q:Exit→List U→Sg→Prop} {tm:List U} {σ:Sg}
include hT
theorem WPU.drawA {id:Nat} {ops:Array Oper} (L:List (Nat×Option Nat×List U×TypeId)) (pr:List (Nat×Nat)) (hst:q91 ops.toList=true) (hL:L≠[]) (hz:qtu L)
  (h:RA C.prog T ops.toList σ.nx ⟨σ.h,σ.nx+L.length⟩ (qol σ.nx L) ops.toList tm (qtv σ L) [] (qol σ.nx L) (fun ks tm' σ'=>flE ops.toList (ks.reverse.map fun x=>kf x.1) pr=true∧quc (L.map (·.1)) (ks.reverse.map (·.1)) (masks ops.toList [])=true∧qie T ks.reverse pr∧Q .normal tm' σ')):WPU C n0 (.region id ops true) tm σ Q:=fun hn F x tv m w a b0 hx st hG hd ro hro=>by
 obtain ⟨ks,tm',σ',⟨hfl,hlate,hpr,hQ⟩,g2,g3,g4,g5,g9,g6,g7⟩:=ra_ok _ _ _ _ _ _ h
 simp only [List.append_nil,List.reverse_reverse,List.length_nil,Nat.zero_add] at hfl hlate hpr g6 g7 g9
 have ati:∀ (i:Nat) (r:q50),(ks.map (·.2))[i]? = some r→∃ k,ks[i]? = some (k,r):=by
  intro i r hr
  simp only [List.getElem?_map] at hr
  cases hk:ks[i]? with
  | none=>rw [hk] at hr; simp at hr
  | some x =>
   obtain ⟨k,r'⟩:=x
   rw [hk] at hr; simp at hr; subst hr
   exact ⟨k,rfl⟩
 have htr:TrU C.prog T ops.toList tm (qtv σ L) (ks.map (·.2)) tm' σ':=⟨by simpa using g2,g3,g4,fun i r hr=>by
  obtain ⟨k,hk⟩:=ati i r hr
  obtain ⟨a,b,c,d⟩:=g5 i _ hk
  exact ⟨a,b.good,c,d⟩⟩
 have hch:ChU T ops.toList (ks.map (·.2)):=chU_of hst htr (fun i x hx=>(g5 i x hx).2.1) hfl hpr
 have inai:∀ al∈qol σ.nx L,al.i∈L.map (·.1):=by
  have:∀ (L:List (Nat×Option Nat×List U×TypeId)) (n:Nat),∀ al∈qol n L,al.i∈L.map (·.1):=by
   intro L
   induction L with
   | nil=>intro n al h; cases h
   | cons x r ih =>
    intro n al h
    rcases List.mem_cons.1 h with rfl | h
    ·simp
    ·simp only [List.map_cons,List.mem_cons]; exact .inr (ih _ al h)
  exact this L σ.nx
 have late:∀ (i k:Nat) (r:q50),ks[i]? = some (k,r)→1≤k→k≤3→∀ al∈qol σ.nx L,Pre ops.toList i al.i:=fun i k r hk h1 h3 al hm=>by
  obtain ⟨mk,e1,e2⟩:=qsn hlate (i:=i) (k:=k) (by simp [hk]) h1 h3
  exact ⟨mk,e1,e2 _ (inai al hm)⟩
 have hal:ChA C.prog T ops.toList tm σ (qtv σ L) (ks.map (·.2)) (qol σ.nx L):=by
  refine ⟨?_,fun al hm=>by rw [qhw]; exact qm9 hm,fun a ha b hb hk=>by rw [qv5 ha hb hk],by rw [qhw]; omega,fun al hm=>?_,qqn hz,fun i r hr ha hv=>?_,fun al hm=>qru hm,fun j hj=>qn7 L σ hj,fun i r hr ha=>?_,fun i r hr ha hv=>?_⟩
  ·cases L with
   | nil=>exact absurd rfl hL
   | cons x r=>simp [qol]
  ·obtain ⟨i,x,d,e1,e2,e3,e4,e5,e6,e7⟩:=g7 al hm
   have hk:=(g5 i x e2).2.1
   have hact:x.2.act=false:=by
    cases hb:x.2.act with
    | false=>rfl
    | true=>have:=hk.act.1 hb; omega
   exact ⟨x.2,d,by rw [e1]; simp [e2],e4,hact,(hk.mv hact).2 e3,e5,e6,e7⟩
  ·obtain ⟨k,hk⟩:=ati i r hr
   have:=((g5 i _ hk).2.1.mv ha).1 hv
   exact g6 i _ hk this
  ·obtain ⟨k,hk⟩:=ati i r hr
   have:=(g5 i _ hk).2.1.act.1 ha
   simp only [] at this
   by_cases h7:k=7
   ·exact .inr (g9 i _ hk h7)
   ·exact .inl (late i k r hk (by omega) (by omega))
  ·obtain ⟨k,hk⟩:=ati i r hr
   rcases (g5 i _ hk).2.1.ear ha hv with h | h
   ·simp only [] at h
    exact .inl (late i k r hk (by omega) (by omega))
   ·rw [qhw]; exact .inr h
 subst hx
 have hup:Mo x.σ.nx x ⟨x.ρ,⟨x.σ.h,(qtv x.σ L).nx⟩,x.s⟩:=⟨fun k _ h2=>⟨by simp only [qhw]; omega,fun b hb=>⟨b,hb,Nat.le_refl _,fun _=>⟨rfl,fun l e sz st h=>⟨l,h⟩⟩⟩⟩,fun _ _ _ h=>h⟩
 have hbr:∀ j b,gt x.σ.h j=some b→j<x.σ.nx∧qio x.σ.nx b:=fun j b hb=>⟨(st.h.ok j b hb).1,(st.h.ok j b hb).2.belB⟩
 have hno:∀ k,(Array.replicate ops.size false).getD k false=false:=fun k=>by
  by_cases hk:k<ops.size<;>simp [Array.getD,hk]
 refine wpIn_region_any hT.mixed ?_
 refine z2g (ro:=ro) hT ops htr hst hch hal hn st.e.bel hbr (F:=F) (x0:=x) (m0:=m) (w0:=w) (df:=a.defers) (fun y tv' m' w' a' h1 h2 h3 h4 h5 h6=>⟨y,tm',tv',m',h1 ▸ hQ,h2,h3,h4,h5,by rw [h6]; exact hd.adv st.fits h3⟩) ops.size (Array.replicate ops.size false) a _ m tm tv ⟨x.ρ,⟨x.σ.h,(qtv x.σ L).nx⟩,x.s⟩ 0 (Nat.zero_le _) (fun e r _ _=>by rw [hno]; simp) (by simp) (by simp) ?_ ?_ ?_ rfl ?_ (fun _ _=>rfl) ?_ ?_ (hup.ke.le hn) rfl
 ·intro k q hk; rw [hno] at hk; cases hk
 ·have:=qim (rs:=ks.map (·.2)) (tm₀:=tm)
  exact ⟨this.len,fun k r d _ _ _ hL=>(by rw [hno] at hL; cases hL),fun k r d g1 g2 _=>this.no k r d g1 g2 (fun x=>x),this.other⟩
 ·cases hA:qol x.σ.nx L with
  | nil=>exact absurd hA hal.some
  | cons al r=>exact ⟨al,by simp,by rw [hno]; simp⟩
 ·intro al hm
  rw [hno]
  simp only [Bool.false_eq_true,if_false]
  cases hg:gt x.σ.h al.k with
  | none=>rfl
  | some b=>have:=(hbr _ _ hg).1; have:=(qm9 hm).1; omega
 ·refine ⟨⟨fun k b hb=>?_,st.h.inj,st.h.bd⟩,st.fr,hup.ke.E st.e.bel st.e,(Adv.draw _ st.fits).fits,st.act⟩
  obtain ⟨h1,h2⟩:=st.h.ok k b hb
  exact ⟨by simp only [qhw]; omega,h2.mono hup rfl fun _ _ _ h=>h⟩
 ·exact Adv.draw _ st.fits
end
end Go.Vx
end
section
namespace Go.Vx
open Go Go.Rx
section
variable {P:Program} {T:Tb} {ops r:List Oper} {o:Oper} {n nb:Nat} {σe:Sg} {l:List (Nat×U)} {σ σ':Sg} {acc:List RK} {q qa:List Al} {K:List RK→List U→Sg→Prop} {u:U}
theorem RQ.act (hw:q07 ops (fr n l) o=some true) (h:opU T σ (fr n l) o.op=some (u,σ')) {d:Tmp} (he:o.dst=some d) (hd:Nat.blt d n=true) (hk:RA P T ops nb σe qa r (fr n ((d,u)::l)) σ' ((3,⟨fr n l,o,u,true,true,σ,σ'⟩)::acc) q K):RA P T ops nb σe qa (o::r) (fr n l) σ acc q K :=
 .inr (.inl ⟨hw,u,σ',h,by rw [he,q7z (d:=some d) u hd]; exact hk⟩)
theorem RQ.actn (hw:q07 ops (fr n l) o=some true) (h:opU T σ (fr n l) o.op=some (u,σ')) (he:o.dst=none) (hk:RA P T ops nb σe qa r (fr n l) σ' ((3,⟨fr n l,o,u,true,true,σ,σ'⟩)::acc) q K):RA P T ops nb σe qa (o::r) (fr n l) σ acc q K :=
 .inr (.inl ⟨hw,u,σ',h,by rw [he]; exact hk⟩)
theorem RQ.call {f:FuncId} {args:List U} (hw:q07 ops (fr n l) o=some true) (hc:q5y T (fr n l) o.op=some (f,args)) (hev:EvU P f args σ (fun u' σ'=>u'=u∧σ'=σ)) {d:Tmp} (he:o.dst=some d) (hd:Nat.blt d n=true) (hk:RA P T ops nb σe qa r (fr n ((d,u)::l)) σ ((2,⟨fr n l,o,u,true,false,σ,σ⟩)::acc) q K):RA P T ops nb σe qa (o::r) (fr n l) σ acc q K :=
 .inr (.inr (.inl ⟨hw,f,args,u,hc,hev,by rw [he,q7z (d:=some d) u hd]; exact hk⟩))
theorem RQ.early (hw:q07 ops (fr n l) o=some true) (h:opU T σ (fr n l) o.op=some (u,σ)) (h0:opU T σe (fr n l) o.op=some (u,σe)) (hn:qrd o.op=true) (hb:Bel nb u) {d:Tmp} (he:o.dst=some d) (hd:Nat.blt d n=true) (hk:RA P T ops nb σe qa r (fr n ((d,u)::l)) σ ((5,⟨fr n l,o,u,false,false,σ,σ⟩)::acc) q K):RA P T ops nb σe qa (o::r) (fr n l) σ acc q K :=
 .inr (.inr (.inr (.inr (.inr (.inr (.inl ⟨hw,u,h,h0,hn,hb,by rw [he,q7z (d:=some d) u hd]; exact hk⟩))))))
theorem RQ.alloc {al:Al} (hi:al.i=acc.length) (ho:∀ s,opU T s (fr n l) o.op=some (alU al.o s.nx,q5d s (.row al.l al.e))) (hg:o.guard=none) {d:Tmp} (he:o.dst=some d) (hd:Nat.blt d n=true) (hk:RA P T ops nb σe qa r (fr n ((d,alU al.o al.k)::l)) σ ((4,⟨fr n l,o,alU al.o al.k,false,true,σ,σ⟩)::acc) q K):RA P T ops nb σe qa (o::r) (fr n l) σ acc (al::q) K :=
 .inr (.inr (.inr (.inr (.inr (.inr (.inr (.inl ⟨al,q,d,rfl,hi,ho,hg,he,by rw [he,q7z (d:=some d) _ hd]; exact hk⟩)))))))
theorem hasK {qa:List Al} {K:Nat} (h:(qa.any fun al=>Nat.beq al.k K)=true):∃ al∈qa,al.k=K:=by
 obtain ⟨al,h1,h2⟩:=List.any_eq_true.1 h
 exact ⟨al,h1,Nat.eq_of_beq_eq_true h2⟩
theorem RQ.loc {KK mk:Nat} {c c':List U} {e:TypeId} {σ':Sg} (hw:q07 ops (fr n l) o=some true) (hrun:∀ τ:Sg,gt τ.h KK=some (.row c e)→opU T τ (fr n l) o.op=some (u,⟨ug τ.h KK (.row c' e),τ.nx⟩)) (hmk:(masks ops [])[acc.length]? = some mk) (hd:o.dst=none) (hg:gt σ.h KK=some (.row c e)) (hs:(⟨ug σ.h KK (.row c' e),σ.nx⟩:Sg)=σ')
  (hn:(qa.any fun al=>Nat.beq al.k KK)=true) (hl:locP mk KK c' qa) (hk:RA P T ops nb σe qa r (fr n l) σ' ((7,⟨fr n l,o,u,true,true,σ,σ'⟩)::acc) q K):RA P T ops nb σe qa (o::r) (fr n l) σ acc q K:=by
 subst hs
 exact .inr (.inr (.inr (.inr (.inr (.inr (.inr (.inr ⟨hw,u,KK,c,c',e,mk,hmk,hd,hg,hrun,hasK hn,hl,by rw [hd]; exact hk⟩)))))))
theorem qyc {t:TypeId} {a x:Operand} {v:U} {k off sz:Nat} {cs c c':List U} {e:TypeId} (hs:q0o T t=some sz) (ha:evS n l a=some (.ptr k 0 off)) (hx:evS n l x=some v) (hc:q8d v=some cs) (hl:Nat.beq cs.length sz=true) (hk:okL cs=true) (hp:qif c off cs=some c') (τ:Sg) (hg:gt τ.h k=some (.row c e)) :
  opU T τ (fr n l) (.store t a x)=some (.junk,⟨ug τ.h k (.row c' e),τ.nx⟩):=by
 have hb:Nat.beq 0 0=true:=rfl
 exact qnt hs ha hx hc hl hk (q:=c) (q':=c') (by simp only [cellsOf,hg,hb,cond_true]) (by simp only [wkB,hg]; exact hp) (by simp only [ql6,hg])
theorem RQ.done (h:K acc (fr n l) σ):RA P T ops nb σe qa [] (fr n l) σ acc [] K:=⟨rfl,h⟩
end
section
variable {C:PG} {T:Tb} (hT:qef C.prog T) {n0:Nat} {Q:Exit→List U→Sg→Prop} {tm:List U} {σ:Sg}
include hT
theorem WPU.drawQ {id:Nat} {ops:Array Oper} (L:List (Nat×Option Nat×List U×TypeId)) (pr:List (Nat×Nat)) {nb:Nat} {σe σ1:Sg} {q:List Al} (hst:q91 ops.toList=true) (hL:L≠[]) (hz:qtu L)
  (h1:σ.nx=nb) (h2:(⟨σ.h,σ.nx+L.length⟩:Sg)=σe) (h3:qtv σ L=σ1) (h4:qol σ.nx L=q)
  (h:RA C.prog T ops.toList nb σe q ops.toList tm σ1 [] q (fun ks tm' σ'=>flE ops.toList (ks.reverse.map fun x=>kf x.1) pr=true∧quc (L.map (·.1)) (ks.reverse.map (·.1)) (masks ops.toList [])=true∧qie T ks.reverse pr∧Q .normal tm' σ')):WPU C n0 (.region id ops true) tm σ Q:=by
 subst h1 h2 h3 h4
 exact WPU.drawA hT L pr hst hL hz h
end
end Go.Vx
end
section
namespace Go.Vx
open Go Go.Rx
theorem qpn {P:Program} {T:Tb} (hT:qef P T) {m:Nm} {s:S} (w:World) {t e:TypeId} {sz by_ n:Nat} {z:Value} {ps:List (Nat×Value)} {cps:List (Nat×Value)} {cs:List Value}
  (hps:∀ m',Agree s.nx m m'→ps.map (fun p=>(p.1,ren m' p.2))=cps) (hd:T.und t=some (.slice e)) (hi:T.inf e=some (sz,by_,z)) (h1:Nat.ble (n*sz) 16777216=true) (h2:z.cells.toList.length=sz)
  (h3:qi2 (fun i=>some (i*sz,sz)) (zeros z.cells.toList n) ps=some cs) :
  ∃ cl,qgl m s.nx cs cl∧(Instr.buildSlice t n cps.toArray).run P w = .ok (.slice (some ⟨w.heap.size,0,none⟩) n n) (w.alloc (.cells ⟨cl⟩ e)):=by
 have hsz:q0o T e=some sz:=by simp [q0o,hi]
 have hz:=fun m'=>q8z hT m' w hi
 have hzc:=qbr hT hi
 simp only at hz hzc
 have h1':n*sz≤16777216:=by simpa [Nat.ble_eq] using h1
 have hfill:∀ m',Agree s.nx m m'→Instr.fill (fun i=>some (i*sz,sz)) ⟨zeros z.cells.toList n⟩ cps=some ⟨q0r m' cs⟩:=fun m' ha=>by
  have:=qkj m' _ ps _ _ h3
  rw [hps m' ha,qf2 hzc] at this
  exact this
 have hcl:qgl m s.nx cs (q0r m cs):=fun m' ha=>by
  have e1:=hfill m' ha
  have e2:=hfill m (Agree.refl _ _)
  rw [e1] at e2
  simpa using e2
 have hcells:z.cells.size=sz:=by simpa using h2
 refine ⟨q0r m cs,hcl,?_⟩
 have hzeros:(Array.range (n*sz)).map (fun i=>(if n*sz=0 then (#[]:Array Value) else z.cells)[i % (if n*sz=0 then (#[]:Array Value) else z.cells).size]!)=⟨zeros z.cells.toList n⟩:=by
  by_cases h0:n*sz=0
  ·rw [h0]
   apply Array.ext'
   have:(zeros z.cells.toList n).length=0:=by rw [qht,h2,h0]
   simp [List.length_eq_zero_iff.1 this]
  ·simp only [if_neg h0]
   have:=qhs z.cells n
   rw [hcells] at this
   rw [← this]
   simp [hcells]
 have hf2:=hfill m (Agree.refl _ _)
 have hnot:¬ n*sz > 2 ^ 24:=by omega
 have hzz:=(hz m).1
 by_cases h0:n*sz=0
 ·simp only [if_pos h0] at hzeros
  simp only [Instr.buildSlice,Sem.run_bind,q0s hT w hd,Result.andThen_ok,q1h hT w hsz,Sem.run_ite,if_neg hnot,Sem.run_pure,if_pos h0]
  rw [hzeros,hf2]
  simp [Go.newRow]
 ·simp only [if_neg h0] at hzeros
  simp only [Instr.buildSlice,Sem.run_bind,q0s hT w hd,Result.andThen_ok,q1h hT w hsz,Sem.run_ite,if_neg hnot,Sem.run_pure,if_neg h0,hzz]
  rw [hzeros,hf2]
  simp [Go.newRow]
theorem qhv.bslw {C:PG} {T:Tb} (hT:qef C.prog T) {σ:Sg} {tm:List U} {o:Oper} {t e:TypeId} {k sz b:Nat} {z:Value} {zu cs0 cs:List U} {ps:Array (Nat×Operand)} {qs:List (Nat×U)} (ho:o.op = .buildSlice t k ps) (hd:T.und t=some (.slice e)) (hi:T.inf e=some (sz,b,z))
  (h:qb2 tm ps.toList=some qs) (h1:Nat.ble (k*sz) 16777216=true) (h3:Nat.beq z.cells.toList.length sz=true) (hz:qiy z.cells.toList=some zu) (hf:qcs (fun i=>some (i*sz,sz)) (q87 zu k) qs=some cs0) (hw:WkL cs0 cs) (hk:okL cs=true) (hl:Nat.beq cs.length (k*sz)=true) (hs:Nat.blt 0 sz=true) :
  qhv C σ tm o (fun u σ'=>u = .vl σ.nx 0 0 k∧σ'=q5d σ (.vec cs e sz 0)):=fun F x tv m w a next Q hxσ st hG hn ro hro=>by
 subst hxσ
 obtain ⟨vs,ev,hp⟩:=qki st.e h
 have hzr:=(qdp _ _ hz).2 x
 obtain ⟨rv,f1,f2⟩:=qgu hp (qdd hzr k) hf
 have f2:q0x x cs rv:=⟨hw.rel f2.1,by rw [hw.len]; exact f2.2⟩
 have h2:z.cells.toList.length=sz:=by simpa [beq_eq] using h3
 obtain ⟨cl,g1,g2⟩:=qpn hT (m:=m) (s:=x.s) w (cps:=ps.toList.map fun p=>(p.1,a.eval p.2)) (fun m' hm'=>(qne (st.act m' hm') ev).symm) hd hi h1 h2 f1
 have e1:(ps.map fun (i,x)=>(i,a.eval x))=(ps.toList.map fun p=>(p.1,a.eval p.2)).toArray:=by cases ps; simp
 have hrun:(execOp a.eval o).run C.prog w = .ok (.value (.slice (some ⟨w.heap.size,0,none⟩) k k)) (w.alloc (.cells ⟨cl⟩ e)):=by
  simp only [execOp,ho]
  rw [e1]
  simp only [Sem.run_bind,g2,Result.andThen_ok,Sem.run_pure]
 have hlen:rv.length=k*sz:=by
  have h5:=f2.2
  have h6:cs.length=k*sz:=by simpa [beq_eq] using hl
  rw [← h5,h6]
 have hadv:Adv m x.s w (m.set x.s.nx w.heap.size 0 k) (Rx.newRow x.s rv e (sz+2)) (w.alloc (.cells ⟨cl⟩ e)):=by
  have:=qch st.fits (rest:=[]) g1 e k sz (by simpa using hlen)
  simpa using this
 have hsz:0<sz:=by simpa [Nat.blt_eq] using hs
 have hout:=qfd st.h f2 hk e hsz
 have hrel:q79 (m.set x.s.nx w.heap.size 0 k) (x.s.nx+1) (.slice (some ⟨x.s.nx,0,none⟩) k q06) (.slice (some ⟨w.heap.size,0,none⟩) k k):=fun m' ha=>by
  obtain ⟨q1,q2,q3⟩:=ha x.s.nx (Nat.lt_succ_self _)
  obtain ⟨r1,r2,r3⟩:=q90 m x.s.nx w.heap.size 0 k
  simp [ren,q1,q2,r1,r2,capOf,capD,q3,r3]
 refine q9i (by rw [ho]; intro c hc; cases hc) ?_
 unfold Oper.wp
 rw [hrun]
 exact hn _ ⟨qfx x.ρ x.σ.nx (some x.s.nx),q5d x.σ (.vec cs e sz 0),Rx.newRow x.s rv e (sz+2)⟩ (qyq tv o.dst (.slice (some ⟨x.s.nx,0,none⟩) k q06)) _ _ _ ⟨rfl,rfl⟩
  ⟨hout.h,hout.fr F st.fr,qig (hout.mo.ke.E st.e.bel st.e) qfh _,hadv.fits,(st.act.ext hadv.agree hadv.nx).put hrel o.dst⟩ hadv hout.mo.ke hout.mo.nx (q7y _ _ _)
theorem qhv.bslv {C:PG} {T:Tb} (hT:qef C.prog T) {σ:Sg} {tm:List U} {o:Oper} {t e:TypeId} {k sz b:Nat} {z:Value} {zu cs:List U} {ps:Array (Nat×Operand)} {qs:List (Nat×U)} (ho:o.op = .buildSlice t k ps) (hd:T.und t=some (.slice e)) (hi:T.inf e=some (sz,b,z))
  (h:qb2 tm ps.toList=some qs) (h1:Nat.ble (k*sz) 16777216=true) (h3:Nat.beq z.cells.toList.length sz=true) (hz:qiy z.cells.toList=some zu) (hf:qcs (fun i=>some (i*sz,sz)) (q87 zu k) qs=some cs) (hk:okL cs=true) (hl:Nat.beq cs.length (k*sz)=true) (hs:Nat.blt 0 sz=true) :
  qhv C σ tm o (fun u σ'=>u = .vl σ.nx 0 0 k∧σ'=q5d σ (.vec cs e sz 0)):=qhv.bslw hT ho hd hi h h1 h3 hz hf (WkL.refl _) hk hl hs
end Go.Vx
end
section
namespace Go.Vx
open Go Go.Rx
def mvN (K K2 k:Nat):Nat:=cond (Nat.beq k K) K2 k
def mvH (K K2:Nat):List (Nat×B)→List (Nat×B)
 | []=>[]
 | (k,b)::h=>cond (Nat.beq k K) (mvH K K2 h) (cond (Nat.beq k K2) ((K,b)::mvH K K2 h) ((k,b)::mvH K K2 h))
theorem qwi {K K2:Nat} (hne:K≠K2):∀ (h:List (Nat×B)) (j:Nat),gt (mvH K K2 h) j=if j=K then gt h K2 else if j=K2 then none else gt h j
 | [],j=>by simp [mvH,gt]
 | (k,b)::h,j=>by
  have ih:=qwi hne h j
  simp only [mvH,beq_eq]
  by_cases e1:k=K
  ·subst e1
   simp only [decide_true,cond_true,ih,q1a]
   by_cases e2:j=k
   ·subst e2; simp [hne]
   ·simp [e2,Ne.symm e2]
  ·by_cases e2:k=K2
   ·subst e2
    simp only [e1,decide_false,cond_false,decide_true,cond_true,q1a,ih]
    by_cases e3:j=K
    ·subst e3; simp
    ·by_cases e4:j=k
     ·simp [e4,e1,Ne.symm e3]
      intro h; exact absurd h.symm e1
     ·simp [e3,e4,Ne.symm e3,Ne.symm e4]
   ·simp only [e1,e2,decide_false,cond_false,q1a,ih]
    by_cases e3:j=K
    ·subst e3; simp [e1,e2]
    ·by_cases e4:j=K2
     ·subst e4; simp [e3,e2]
     ·simp [e3,e4]
def rS (π:Nat→Nat):List (Nat×U)→List (Nat×U)
 | []=>[]
 | (i,u)::l=>(i,rU π u)::rS π l
theorem qsr (π:Nat→Nat):∀ (l:List (Nat×U)) (i:Nat),q88 (rS π l) i=(q88 l i).map (rU π)
 | [],i=>rfl
 | (j,u)::l,i=>by
  simp only [rS,q88,beq_eq,qsr π l i]
  by_cases e:j=i<;>simp [e]
theorem qxo (π:Nat→Nat):∀ (l:List U) (i:Nat),(rUL π l)[i]? = (l[i]?).map (rU π)
 | [],i=>by simp [rUL]
 | u::l,0=>by simp [rUL]
 | u::l,i+1=>by simp [rUL,qxo π l i]
theorem rUL_fr (π:Nat→Nat) (n:Nat) (l:List (Nat×U)):rUL π (fr n l)=fr n (rS π l):=by
 apply List.ext_getElem?
 intro k
 rw [qxo]
 by_cases hk:k<n
 ·rw [qgz n l hk,qgz n _ hk,qsr]
  cases q88 l k with
  | none=>simp [rU]
  | some w=>rfl
 ·rw [List.getElem?_eq_none (by simp [qel]; omega),List.getElem?_eq_none (by simp [qel]; omega)]
  rfl
def avH (π:Nat→Nat):List (Nat×B)→Prop
 | []=>True
 | (_,b)::h=>rB π b=b∧avH π h
theorem z0t {π:Nat→Nat}:∀ {h:List (Nat×B)},avH π h→∀ k b,gt h k=some b→rB π b=b
 | [],_,k,b,hg=>by cases hg
 | (j,c)::h,ha,k,b,hg=>by
  rw [q1a] at hg
  by_cases e:j=k
  ·rw [if_pos e] at hg; cases hg; exact ha.1
  ·rw [if_neg e] at hg; exact z0t ha.2 k b hg
theorem Gh.mv {n0 n:Nat} {l l':List (Nat×U)} {σ:Sg} {h':List (Nat×B)} (K K2:Nat) (h0:n0≤K) (hK:Nat.blt K σ.nx=true) (hne:Nat.beq K K2=false) (hl:rS (mvN K K2) l'=l) (hm:mvH K K2 σ.h=h') (ha:avH (mvN K K2) h') [hb:BS σ.nx l']:Gh n0 (fr n l) σ (fr n l') ⟨h',σ.nx⟩:=fun F x tv hx hr hf he=>by
 subst hx; subst hl; subst hm
 have hK':K<x.σ.nx:=by simpa [Nat.blt_eq] using hK
 have hne':K≠K2:=by simpa [beq_eq] using hne
 have key:∀ k b,gt (mvH K K2 x.σ.h) k=some b→gt x.σ.h (mvN K K2 k)=some b:=fun k b hg=>by
  rw [qwi hne'] at hg
  simp only [mvN,beq_eq]
  by_cases e:k=K
  ·rw [if_pos e] at hg; simpa [e] using hg
  ·rw [if_neg e] at hg
   by_cases e2:k=K2
   ·rw [if_pos e2] at hg; cases hg
   ·rw [if_neg e2] at hg; simpa [e] using hg
 let y:Cx:=⟨fun k=>x.ρ (mvN K K2 k),⟨mvH K K2 x.σ.h,x.σ.nx⟩,x.s⟩
 have hU:qjy x.σ.nx (mvN K K2) x y:=⟨fun k st off v hk h=>by
   simp only [Rel,Ref] at h ⊢
   exact ⟨h.1,hk,fun b hb=>h.2.2 b (key k b hb)⟩,fun k off m c v hk h=>by
   simp only [Rel,Ref] at h ⊢
   exact ⟨h.1,hk,fun b hb=>h.2.2 b (key k b hb)⟩,fun k st off m v hk h=>by
   simp only [Rel] at h ⊢
   exact ⟨h.1,hk,fun b hb=>h.2.2 b (key k b hb)⟩,fun k v hk h=>by
   simp only [Rel,Ref] at h ⊢
   exact ⟨h.1,hk,fun b hb=>h.2.2 b (key k b hb)⟩,fun _ _ _ h=>h⟩
 have hback:∀ u,Bel n0 u→rU (mvN K K2) u=u:=fun u hbu=>by
  have:=qxp (π:=id) (κ:=mvN K K2) (n:=n0) (fun k hk=>by
   have:¬ k=K:=by omega
   simp [mvN,beq_eq,this]) u hbu
  rwa [rid] at this
 refine ⟨y,fun m w hf=>Adv.refl hf,rfl,⟨fun k b hb=>?_,fun k k' b b' i hb hb' h1 h2=>?_,hr.bd⟩,fun i b hF=>?_,?_,fun u v hbu hv=>?_⟩
 ·have hg:=key k b hb
  obtain ⟨g1,g2⟩:=hr.ok _ _ hg
  have hkl:k<x.σ.nx:=by
   by_cases e:k=K
   ·omega
   ·have e2:mvN K K2 k=k:=by simp [mvN,beq_eq,e]
    rw [e2] at g1; exact g1
  refine ⟨hkl,BOk.unleaf hU g2.belB rfl (fun _ _ _ h=>h) ?_⟩
  rw [z0t ha k b hb]; exact g2
 ·have e:=hr.inj _ _ b b' i (key k b hb) (key k' b' hb') h1 h2
  have hn2:∀ k b,gt (mvH K K2 x.σ.h) k=some b→k≠K2:=fun k b hb h=>by
   subst h
   rw [qwi hne',if_neg (Ne.symm hne'),if_pos rfl] at hb
   cases hb
  have q1:=hn2 k b hb
  have q2:=hn2 k' b' hb'
  simp only [mvN,beq_eq] at e
  by_cases e1:k=K
  ·by_cases e2:k'=K
   ·rw [e1,e2]
   ·simp [e1,e2] at e; exact absurd e.symm q2
  ·by_cases e2:k'=K
   ·simp [e1,e2] at e; exact absurd e q1
   ·simpa [e1,e2] using e
 ·obtain ⟨h1,h2⟩:=hf i b hF
  exact ⟨h1,fun k c hc=>h2 _ c (key k c hc)⟩
 ·refine q0x.unleaf hU (qve hb.h) ?_
  rw [rUL_fr]; exact he
 ·exact Rel.unleaf hU u v (Bel.le (by omega) u hbu) (by rw [hback u hbu]; exact hv)
end Go.Vx
end
section
namespace Go.Proofs
open Go Go.Rx
theorem Tryz.fn3:Tryz.tb.fn 3=some Tryz.f3:=by kernel_rfl
theorem Tryz.hb3:Tryz.f3.body.isSome=true:=rfl
theorem Tryz.fn4:Tryz.tb.fn 4=some Tryz.f4:=by kernel_rfl
theorem Tryz.fn5:Tryz.tb.fn 5=some Tryz.f5:=by kernel_rfl
theorem Tryz.fn6:Tryz.tb.fn 6=some Tryz.f6:=by kernel_rfl
theorem Tryz.fn7:Tryz.tb.fn 7=some Tryz.f7:=by kernel_rfl
theorem Tryz.fn8:Tryz.tb.fn 8=some Tryz.f8:=by kernel_rfl
theorem Tryz.fn9:Tryz.tb.fn 9=some Tryz.f9:=by kernel_rfl
theorem Tryz.fn10:Tryz.tb.fn 10=some Tryz.f10:=by kernel_rfl
theorem Tryz.fn11:Tryz.tb.fn 11=some Tryz.f11:=by kernel_rfl
theorem Tryz.hb11:Tryz.f11.body.isSome=true:=rfl
theorem Tryz.fn12:Tryz.tb.fn 12=some Tryz.f12:=by kernel_rfl
theorem Tryz.hb12:Tryz.f12.body.isSome=true:=rfl
theorem Tryz.fn13:Tryz.tb.fn 13=some Tryz.f13:=by kernel_rfl
theorem Tryz.fn14:Tryz.tb.fn 14=some Tryz.f14:=by kernel_rfl
theorem Tryz.fn15:Tryz.tb.fn 15=some Tryz.f15:=by kernel_rfl
theorem Tryz.fn16:Tryz.tb.fn 16=some Tryz.f16:=by kernel_rfl
theorem Tryz.fn17:Tryz.tb.fn 17=some Tryz.f17:=by kernel_rfl
theorem Tryz.fn18:Tryz.tb.fn 18=some Tryz.f18:=by kernel_rfl
theorem Tryz.fn19:Tryz.tb.fn 19=some Tryz.f19:=by kernel_rfl
theorem Tryz.fn20:Tryz.tb.fn 20=some Tryz.f20:=by kernel_rfl
theorem Tryz.fn21:Tryz.tb.fn 21=some Tryz.f21:=by kernel_rfl
theorem Tryz.fn22:Tryz.tb.fn 22=some Tryz.f22:=by kernel_rfl
theorem Tryz.fn23:Tryz.tb.fn 23=some Tryz.f23:=by kernel_rfl
theorem Tryz.fn24:Tryz.tb.fn 24=some Tryz.f24:=by kernel_rfl
theorem Tryz.fn25:Tryz.tb.fn 25=some Tryz.f25:=by kernel_rfl
theorem Tryz.fn26:Tryz.tb.fn 26=some Tryz.f26:=by kernel_rfl
theorem Tryz.fn27:Tryz.tb.fn 27=some Tryz.f27:=by kernel_rfl
theorem Tryz.fn28:Tryz.tb.fn 28=some Tryz.f28:=by kernel_rfl
theorem Tryz.hb28:Tryz.f28.body.isSome=true:=rfl
theorem Tryz.fn29:Tryz.tb.fn 29=some Tryz.f29:=by kernel_rfl
theorem Tryz.fn30:Tryz.tb.fn 30=some Tryz.f30:=by kernel_rfl
theorem Tryz.fn31:Tryz.tb.fn 31=some Tryz.f31:=by kernel_rfl
theorem Tryz.fn32:Tryz.tb.fn 32=some Tryz.f32:=by kernel_rfl
theorem Tryz.fn33:Tryz.tb.fn 33=some Tryz.f33:=by kernel_rfl
theorem Tryz.fn34:Tryz.tb.fn 34=some Tryz.f34:=by kernel_rfl
theorem Tryz.fn35:Tryz.tb.fn 35=some Tryz.f35:=by kernel_rfl
theorem Tryz.fn36:Tryz.tb.fn 36=some Tryz.f36:=by kernel_rfl
theorem Tryz.fn37:Tryz.tb.fn 37=some Tryz.f37:=by kernel_rfl
theorem Tryz.fn38:Tryz.tb.fn 38=some Tryz.f38:=by kernel_rfl
theorem Tryz.fn39:Tryz.tb.fn 39=some Tryz.f39:=by kernel_rfl
theorem Tryz.fn40:Tryz.tb.fn 40=some Tryz.f40:=by kernel_rfl
theorem Tryz.fn41:Tryz.tb.fn 41=some Tryz.f41:=by kernel_rfl
theorem Tryz.fn42:Tryz.tb.fn 42=some Tryz.f42:=by kernel_rfl
theorem Tryz.fn43:Tryz.tb.fn 43=some Tryz.f43:=by kernel_rfl
theorem Tryz.fn44:Tryz.tb.fn 44=some Tryz.f44:=by kernel_rfl
theorem Tryz.fn45:Tryz.tb.fn 45=some Tryz.f45:=by kernel_rfl
theorem Tryz.fn46:Tryz.tb.fn 46=some Tryz.f46:=by kernel_rfl
theorem Tryz.fn47:Tryz.tb.fn 47=some Tryz.f47:=by kernel_rfl
theorem Tryz.hb47:Tryz.f47.body.isSome=true:=rfl
theorem Tryz.fn48:Tryz.tb.fn 48=some Tryz.f48:=by kernel_rfl
theorem Tryz.hb48:Tryz.f48.body.isSome=true:=rfl
theorem Tryz.fn49:Tryz.tb.fn 49=some Tryz.f49:=by kernel_rfl
theorem Tryz.hb49:Tryz.f49.body.isSome=true:=rfl
theorem Tryz.fn50:Tryz.tb.fn 50=some Tryz.f50:=by kernel_rfl
theorem Tryz.fn51:Tryz.tb.fn 51=some Tryz.f51:=by kernel_rfl
theorem Tryz.hb51:Tryz.f51.body.isSome=true:=rfl
theorem Tryz.fn52:Tryz.tb.fn 52=some Tryz.f52:=by kernel_rfl
theorem Tryz.fn53:Tryz.tb.fn 53=some Tryz.f53:=by kernel_rfl
theorem Tryz.hb53:Tryz.f53.body.isSome=true:=rfl
theorem Tryz.fn54:Tryz.tb.fn 54=some Tryz.f54:=by kernel_rfl
theorem Tryz.fn55:Tryz.tb.fn 55=some Tryz.f55:=by kernel_rfl
theorem Tryz.fn56:Tryz.tb.fn 56=some Tryz.f56:=by kernel_rfl
theorem Tryz.fn57:Tryz.tb.fn 57=some Tryz.f57:=by kernel_rfl
theorem Tryz.fn58:Tryz.tb.fn 58=some Tryz.f58:=by kernel_rfl
theorem Tryz.fn59:Tryz.tb.fn 59=some Tryz.f59:=by kernel_rfl
theorem Tryz.fn60:Tryz.tb.fn 60=some Tryz.f60:=by kernel_rfl
theorem Tryz.fn61:Tryz.tb.fn 61=some Tryz.f61:=by kernel_rfl
theorem Tryz.fn62:Tryz.tb.fn 62=some Tryz.f62:=by kernel_rfl
theorem Tryz.fn63:Tryz.tb.fn 63=some Tryz.f63:=by kernel_rfl
theorem Tryz.fn64:Tryz.tb.fn 64=some Tryz.f64:=by kernel_rfl
theorem Tryz.fn65:Tryz.tb.fn 65=some Tryz.f65:=by kernel_rfl
theorem Tryz.fn66:Tryz.tb.fn 66=some Tryz.f66:=by kernel_rfl
theorem Tryz.fn67:Tryz.tb.fn 67=some Tryz.f67:=by kernel_rfl
theorem Tryz.hb67:Tryz.f67.body.isSome=true:=rfl
theorem Tryz.fn68:Tryz.tb.fn 68=some Tryz.f68:=by kernel_rfl
theorem Tryz.fn69:Tryz.tb.fn 69=some Tryz.f69:=by kernel_rfl
theorem Tryz.fn70:Tryz.tb.fn 70=some Tryz.f70:=by kernel_rfl
theorem Tryz.fn71:Tryz.tb.fn 71=some Tryz.f71:=by kernel_rfl
theorem Tryz.fn72:Tryz.tb.fn 72=some Tryz.f72:=by kernel_rfl
theorem Tryz.fn73:Tryz.tb.fn 73=some Tryz.f73:=by kernel_rfl
theorem Tryz.fn74:Tryz.tb.fn 74=some Tryz.f74:=by kernel_rfl
theorem Tryz.fn75:Tryz.tb.fn 75=some Tryz.f75:=by kernel_rfl
theorem Tryz.fn76:Tryz.tb.fn 76=some Tryz.f76:=by kernel_rfl
theorem Tryz.hb76:Tryz.f76.body.isSome=true:=rfl
theorem Tryz.fn77:Tryz.tb.fn 77=some Tryz.f77:=by kernel_rfl
theorem Tryz.hb77:Tryz.f77.body.isSome=true:=rfl
theorem Tryz.fn78:Tryz.tb.fn 78=some Tryz.f78:=by kernel_rfl
theorem Tryz.hb78:Tryz.f78.body.isSome=true:=rfl
theorem Tryz.fn79:Tryz.tb.fn 79=some Tryz.f79:=by kernel_rfl
theorem Tryz.hb79:Tryz.f79.body.isSome=true:=rfl
theorem Tryz.fn80:Tryz.tb.fn 80=some Tryz.f80:=by kernel_rfl
theorem Tryz.fn81:Tryz.tb.fn 81=some Tryz.f81:=by kernel_rfl
theorem Tryz.fn82:Tryz.tb.fn 82=some Tryz.f82:=by kernel_rfl
theorem Tryz.fn83:Tryz.tb.fn 83=some Tryz.f83:=by kernel_rfl
theorem Tryz.fn84:Tryz.tb.fn 84=some Tryz.f84:=by kernel_rfl
theorem Tryz.fn85:Tryz.tb.fn 85=some Tryz.f85:=by kernel_rfl
theorem Tryz.fn86:Tryz.tb.fn 86=some Tryz.f86:=by kernel_rfl
theorem Tryz.fn87:Tryz.tb.fn 87=some Tryz.f87:=by kernel_rfl
theorem Tryz.fn88:Tryz.tb.fn 88=some Tryz.f88:=by kernel_rfl
theorem Tryz.fn89:Tryz.tb.fn 89=some Tryz.f89:=by kernel_rfl
theorem Tryz.fn90:Tryz.tb.fn 90=some Tryz.f90:=by kernel_rfl
theorem Tryz.hb90:Tryz.f90.body.isSome=true:=rfl
theorem Tryz.fn91:Tryz.tb.fn 91=some Tryz.f91:=by kernel_rfl
theorem Tryz.fn92:Tryz.tb.fn 92=some Tryz.f92:=by kernel_rfl
theorem Tryz.fn93:Tryz.tb.fn 93=some Tryz.f93:=by kernel_rfl
theorem Tryz.fn94:Tryz.tb.fn 94=some Tryz.f94:=by kernel_rfl
theorem Tryz.fn104:Tryz.tb.fn 104=some Tryz.f104:=by kernel_rfl
theorem Tryz.fn105:Tryz.tb.fn 105=some Tryz.f105:=by kernel_rfl
theorem Tryz.fn111:Tryz.tb.fn 111=some Tryz.f111:=by kernel_rfl
theorem Tryz.fn112:Tryz.tb.fn 112=some Tryz.f112:=by kernel_rfl
end Go.Proofs
end
section
namespace Go.Proofs
open Go Go.Rx Go.Vx Tryz
instance:TbP Tryz.prog Tryz.tb:=⟨Tryz.tb_ok⟩
set_option maxRecDepth 20000
structure q0m where
 Feat:Int
 To:Int
def q08 (x:q0m):List U:=[.int .i64 x.Feat,.int .i64 x.To]
theorem qgm (n:Nat) (x:q0m):q1t n (q08 x):=by
 simp only [q08,q1t,Bel,true_and,and_true]
theorem q1f (x:q0m):(q08 x).length=2:=rfl
instance:qm7 q08 2:=⟨q1f⟩
instance:BF q08:=⟨qgm⟩
instance (n:Nat) (x:q0m):BUL n (q08 x):=⟨qgm n x⟩
def q6q (n:Nat) (p1:Int):Option (Bool) :=
 some (p1 != p1)
theorem qei (n:Nat) (p1:Int) (r:Bool) (hF:q6q n p1=some r):EvU Tryz.prog 52 [.int .i64 p1] ⟨[],0⟩ (fun u _=>u = .bool r∧Bel 0 u):=by
 unfold q6q at hF
 refine bg1 6 fn52 ?_
 exact gx hF
def q1p (n:Nat) (p1:Int) (p2:Int):Option (Int) :=
 q05 (q6q n p1) fun r3 =>
 q05 (q6q n p2) fun r5 =>
 cond r3
  (cond r5
   (some 0)
   (some (-1)))
  (cond r5
   (some 1)
   (cond (decide (p1<p2))
    (some (-1))
    (cond (decide (p1 > p2))
     (some 1)
     (some 0))))
theorem q45 (n:Nat) (p1:Int) (p2:Int) (r:Int) (hF:q1p n p1 p2=some r):EvU Tryz.prog 29 [.int .i64 p1,.int .i64 p2] ⟨[],0⟩ (fun u _=>u = .int .i64 r∧Bel 0 u):=by
 unfold q1p at hF
 refine bg2 20 fn29 ?_
 obtain ⟨r3,h4,hF⟩:=q00 hF
 refine go ?_
 refine RS.cl rfl (pC (qei n p1 r3 h4) _) fn52 ?_
 obtain ⟨r5,h6,hF⟩:=q00 hF
 refine go ?_
 refine RS.cl rfl (pC (qei n p2 r5 h6) _) fn52 ?_
 refine go ?_
 refine cF hF (fun h7 hF=>?_) (fun h7 hF=>?_)
 refine go ?_
 refine cF hF (fun h8 hF=>?_) (fun h8 hF=>?_)
 exact gx hF
 exact gx hF
 refine go ?_
 refine cF hF (fun h9 hF=>?_) (fun h9 hF=>?_)
 exact gx hF
 refine go ?_
 refine cF hF (fun h10 hF=>?_) (fun h10 hF=>?_)
 exact gx hF
 refine go ?_
 refine cF hF (fun h11 hF=>?_) (fun h11 hF=>?_)
 exact gx hF
 exact gx hF
def q1q (n:Nat) (p1:q0m) (p2:q0m):Option (Int) :=
 q05 (q1p n p1.Feat p2.Feat) fun r3 =>
 some r3
theorem qi8 (n:Nat) (p1:q0m) (p2:q0m) (r:Int) (hF:q1q n p1 p2=some r):EvU Tryz.prog 50 [.agg (q08 p1),.agg (q08 p2)] ⟨[],0⟩ (fun u _=>u = .int .i64 r∧Bel 0 u):=by
 unfold q1q at hF
 refine bg2 10 fn50 ?_
 obtain ⟨r3,h4,hF⟩:=q00 hF
 refine go ?_
 refine RS.cl rfl (pC (q45 n p1.Feat p2.Feat r3 h4) _) fn29 ?_
 exact gx hF
end Go.Proofs
end
