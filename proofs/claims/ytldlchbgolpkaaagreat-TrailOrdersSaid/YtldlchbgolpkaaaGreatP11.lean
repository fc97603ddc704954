import Derived.Test.YtldlchbgolpkaaaGreatProg
import Derived.Test.YtldlchbgolpkaaaGreatP10
set_option linter.all false
namespace Go.Proofs
open Go Go.Rx
noncomputable def Tryz.tb:Tb:=C3 Tryz.prog []
theorem Tryz.mixed:Tryz.prog.follows .mixedOrders=true:=by kernel_rfl
theorem ZK:∀t∈([]:List TypeId),Tryz.prog.stoodInHeld t=false/\Tryz.prog.eqGuardType Tryz.prog.depth t=false:=by
 intro t ht;cases ht
theorem Tryz.names_ok : (Tryz.prog.funcs.toList.all fun f => !(f.name == "runtime.NumGoroutine")) = true := by kernel_rfl
theorem tb_ok:kS Tryz.prog Tryz.tb:=z7s Tryz.prog [] Tryz.mixed (fun f hf _=>by
 have:=List.all_eq_true.1 Tryz.names_ok f hf;simpa using this) ZK
theorem yn:Tryz.tb.und 3=some (.int .i64):=by kernel_rfl
theorem Pe:Tryz.tb.inf 3=some (1,8,.int .i64 0):=by kernel_rfl
theorem ym:Tryz.tb.und 4=some (.bool):=by kernel_rfl
theorem Pc:Tryz.tb.inf 4=some (1,1,.bool false):=by kernel_rfl
theorem yl:Tryz.tb.und 9=some (.string):=by kernel_rfl
theorem Ox:Tryz.tb.inf 9=some (1,16,.string ⟨#[]⟩):=by kernel_rfl
theorem He:Tryz.tb.und 22=some (.slice 138):=by kernel_rfl
theorem Hc:Tryz.tb.und 24=some (.slice 132):=by kernel_rfl
theorem Pg:Tryz.tb.inf 24=some (1,24,.slice none 0 0):=by kernel_rfl
theorem Hb:Tryz.tb.und 25=some (.slice 187):=by kernel_rfl
theorem Pf:Tryz.tb.inf 25=some (1,24,.slice none 0 0):=by kernel_rfl
theorem Ha : Tryz.tb.und 27 = some (.struct #[⟨ "Types", 24, 0, false, "", "", 0⟩, ⟨ "Feats", 25, 1, false, "", "", 24⟩]) := by kernel_rfl
theorem QP:Tryz.tb.inf 27=some (2,48,.agg #[.slice none 0 0,.slice none 0 0]):=by kernel_rfl
theorem Gz:Tryz.tb.und 31=some (.pointer 85):=by kernel_rfl
theorem Gy:Tryz.tb.und 33=some (.slice 78):=by kernel_rfl
theorem Pd:Tryz.tb.inf 33=some (1,24,.slice none 0 0):=by kernel_rfl
theorem Gx:Tryz.tb.und 34=some (.slice 3):=by kernel_rfl
theorem QO:Tryz.tb.inf 34=some (1,24,.slice none 0 0):=by kernel_rfl
theorem Gw : Tryz.tb.und 40 = some (.struct #[⟨ "Nodes", 33, 0, false, "", "", 0⟩]) := by kernel_rfl
theorem QN:Tryz.tb.inf 40=some (1,24,.agg #[.slice none 0 0]):=by kernel_rfl
theorem Gv:Tryz.tb.und 48=some (.slice 40):=by kernel_rfl
theorem Gu:Tryz.tb.und 66=some (.slice 4):=by kernel_rfl
theorem Gt:Tryz.tb.und 76=some (.slice 98):=by kernel_rfl
theorem QM:Tryz.tb.inf 76=some (1,24,.slice none 0 0):=by kernel_rfl
theorem Gs : Tryz.tb.und 78 = some (.struct #[⟨ "Type", 3, 0, false, "", "", 0⟩, ⟨ "Arcs", 76, 1, false, "", "", 8⟩]) := by kernel_rfl
theorem QL:Tryz.tb.inf 78=some (2,32,.agg #[.int .i64 0,.slice none 0 0]):=by kernel_rfl
theorem Gr:Tryz.tb.und 81=some (.slice 96):=by kernel_rfl
theorem Pb:Tryz.tb.inf 81=some (1,24,.slice none 0 0):=by kernel_rfl
theorem Gq:Tryz.tb.und 82=some (.slice 151):=by kernel_rfl
theorem Pa:Tryz.tb.inf 82=some (1,24,.slice none 0 0):=by kernel_rfl
theorem Gp:Tryz.tb.und 83=some (.slice 94):=by kernel_rfl
theorem Oz:Tryz.tb.inf 83=some (1,24,.slice none 0 0):=by kernel_rfl
theorem Gn : Tryz.tb.und 85 = some (.struct #[⟨ "h", 27, 0, false, "", "grammarlab/trail", 0⟩, ⟨ "cells", 81, 2, false, "", "grammarlab/trail", 48⟩, ⟨ "trail", 82, 3, false, "", "grammarlab/trail", 72⟩, ⟨ "marks", 83, 4, false, "", "grammarlab/trail", 96⟩]) := by kernel_rfl
theorem Oy:Tryz.tb.inf 85=some (5,120,.agg #[.slice none 0 0,.slice none 0 0,.slice none 0 0,.slice none 0 0,.slice none 0 0]):=by kernel_rfl
theorem Gm : Tryz.tb.und 94 = some (.struct #[⟨ "cells", 3, 0, false, "", "grammarlab/trail", 0⟩, ⟨ "changes", 3, 1, false, "", "grammarlab/trail", 8⟩]) := by kernel_rfl
theorem QK:Tryz.tb.inf 94=some (2,16,.agg #[.int .i64 0,.int .i64 0]):=by kernel_rfl
theorem Gl : Tryz.tb.und 96 = some (.struct #[⟨ "forward", 3, 0, false, "", "grammarlab/trail", 0⟩, ⟨ "kind", 3, 1, false, "", "grammarlab/trail", 8⟩, ⟨ "arcs", 76, 2, false, "", "grammarlab/trail", 16⟩]) := by kernel_rfl
theorem QJ:Tryz.tb.inf 96=some (3,40,.agg #[.int .i64 0,.int .i64 0,.slice none 0 0]):=by kernel_rfl
theorem Gk : Tryz.tb.und 98 = some (.struct #[⟨ "Feat", 3, 0, false, "", "", 0⟩, ⟨ "To", 3, 1, false, "", "", 8⟩]) := by kernel_rfl
theorem QI:Tryz.tb.inf 98=some (2,16,.agg #[.int .i64 0,.int .i64 0]):=by kernel_rfl
theorem U7:Tryz.tb.und 100=some (.array 2 3):=by kernel_rfl
theorem GS:Tryz.tb.inf 100=some (2,16,.agg #[.int .i64 0,.int .i64 0]):=by kernel_rfl
theorem U6:Tryz.tb.und 101=some (.slice 100):=by kernel_rfl
theorem GR:Tryz.tb.inf 101=some (1,24,.slice none 0 0):=by kernel_rfl
theorem U5:Tryz.tb.und 102=some (.func #[3] #[3] false):=by kernel_rfl
theorem GQ:Tryz.tb.inf 102=some (1,8,.nilFunc):=by kernel_rfl
theorem U4:Tryz.tb.und 113=some (.pointer 116):=by kernel_rfl
theorem U3:Tryz.tb.und 114=some (.slice 76):=by kernel_rfl
theorem XT:Tryz.tb.inf 114=some (1,24,.slice none 0 0):=by kernel_rfl
theorem U2 : Tryz.tb.und 116 = some (.struct #[⟨ "h", 27, 0, false, "", "grammarlab/unify", 0⟩, ⟨ "parent", 34, 2, false, "", "grammarlab/unify", 48⟩, ⟨ "types", 34, 3, false, "", "grammarlab/unify", 72⟩, ⟨ "arcs", 114, 4, false, "", "grammarlab/unify", 96⟩]) := by kernel_rfl
theorem XS:Tryz.tb.inf 116=some (5,120,.agg #[.slice none 0 0,.slice none 0 0,.slice none 0 0,.slice none 0 0,.slice none 0 0]):=by kernel_rfl
theorem TZ:Tryz.tb.und 118=some (.map 3 3):=by kernel_rfl
theorem GP:Tryz.tb.inf 118=some (1,8,.map none):=by kernel_rfl
theorem TY:Tryz.tb.und 119=some (.slice 130):=by kernel_rfl
theorem TX:Tryz.tb.und 122=some (.slice 128):=by kernel_rfl
theorem TW:Tryz.tb.und 126=some (.slice 191):=by kernel_rfl
theorem GO:Tryz.tb.inf 126=some (1,24,.slice none 0 0):=by kernel_rfl
theorem TV : Tryz.tb.und 128 = some (.struct #[⟨ "Name", 9, 0, false, "", "", 0⟩, ⟨ "Code", 126, 1, false, "", "", 16⟩]) := by kernel_rfl
theorem GN:Tryz.tb.inf 128=some (2,40,.agg #[.string ⟨#[]⟩,.slice none 0 0]):=by kernel_rfl
theorem TU:Tryz.tb.und 130=some (.slice 176):=by kernel_rfl
theorem GM:Tryz.tb.inf 130=some (1,24,.slice none 0 0):=by kernel_rfl
theorem TT : Tryz.tb.und 132 = some (.struct #[⟨ "Name", 9, 0, false, "", "", 0⟩, ⟨ "Code", 126, 1, false, "", "", 16⟩, ⟨ "Supers", 34, 2, false, "", "", 40⟩, ⟨ "Feats", 130, 3, false, "", "", 64⟩]) := by kernel_rfl
theorem GL:Tryz.tb.inf 132=some (4,88,.agg #[.string ⟨#[]⟩,.slice none 0 0,.slice none 0 0,.slice none 0 0]):=by kernel_rfl
theorem TR:Tryz.tb.und 135=some (.slice 9):=by kernel_rfl
theorem XR:Tryz.tb.inf 135=some (1,24,.slice none 0 0):=by kernel_rfl
theorem TQ:Tryz.tb.und 136=some (.slice 141):=by kernel_rfl
theorem XQ:Tryz.tb.inf 136=some (1,24,.slice none 0 0):=by kernel_rfl
theorem TP : Tryz.tb.und 138 = some (.struct #[⟨ "Name", 9, 0, false, "", "", 0⟩, ⟨ "Supers", 135, 1, false, "", "", 16⟩, ⟨ "Feats", 136, 2, false, "", "", 40⟩]) := by kernel_rfl
theorem GK:Tryz.tb.inf 138=some (3,64,.agg #[.string ⟨#[]⟩,.slice none 0 0,.slice none 0 0]):=by kernel_rfl
theorem TO : Tryz.tb.und 141 = some (.struct #[⟨ "Feat", 9, 0, false, "", "", 0⟩, ⟨ "Value", 9, 1, false, "", "", 16⟩]) := by kernel_rfl
theorem GJ:Tryz.tb.inf 141=some (2,32,.agg #[.string ⟨#[]⟩,.string ⟨#[]⟩]):=by kernel_rfl
theorem TN : Tryz.tb.und 151 = some (.struct #[⟨ "at", 3, 0, false, "", "grammarlab/trail", 0⟩, ⟨ "old", 96, 1, false, "", "grammarlab/trail", 8⟩]) := by kernel_rfl
theorem GI:Tryz.tb.inf 151=some (4,48,.agg #[.int .i64 0,.int .i64 0,.int .i64 0,.slice none 0 0]):=by kernel_rfl
theorem TM : Tryz.tb.und 176 = some (.struct #[⟨ "Feat", 3, 0, false, "", "", 0⟩, ⟨ "Value", 3, 1, false, "", "", 8⟩]) := by kernel_rfl
theorem GH:Tryz.tb.inf 176=some (2,16,.agg #[.int .i64 0,.int .i64 0]):=by kernel_rfl
theorem TL:Tryz.tb.und 177=some (.slice 126):=by kernel_rfl
theorem TK : Tryz.tb.und 187 = some (.struct #[⟨ "Name", 9, 0, false, "", "", 0⟩, ⟨ "Intro", 3, 1, false, "", "", 16⟩]) := by kernel_rfl
theorem GG:Tryz.tb.inf 187=some (2,24,.agg #[.string ⟨#[]⟩,.int .i64 0]):=by kernel_rfl
theorem TJ:Tryz.tb.und 191=some (.int .u64):=by kernel_rfl
theorem GF:Tryz.tb.inf 191=some (1,8,.int .u64 0):=by kernel_rfl
theorem TI:Tryz.tb.und 193=some (.int .u64):=by kernel_rfl
theorem TH : Tryz.tb.und 214 = some (.struct #[⟨ "f", 40, 0, false, "", "grammarlab/grammarlabref07", 0⟩, ⟨ "number", 34, 1, false, "", "grammarlab/grammarlabref07", 24⟩, ⟨ "order", 34, 2, false, "", "grammarlab/grammarlabref07", 48⟩]) := by kernel_rfl
theorem XP:Tryz.tb.inf 214=some (3,72,.agg #[.slice none 0 0,.slice none 0 0,.slice none 0 0]):=by kernel_rfl
end Go.Proofs
namespace Go.Proofs
open Go Go.Rx Go.Vx
instance kL:eZ Tryz.tb 3 (.int .i64):=⟨yn⟩
instance Vf:eZ Tryz.tb 4 (.bool):=⟨ym⟩
instance IZ:eZ Tryz.tb 9 (.string):=⟨yl⟩
instance Hi:eZ Tryz.tb 22 (.slice 138):=⟨He⟩
instance FK:eZ Tryz.tb 24 (.slice 132):=⟨Hc⟩
instance:eZ Tryz.tb 25 (.slice 187):=⟨Hb⟩
instance uE : eZ Tryz.tb 27 (.struct #[⟨ "Types", 24, 0, false, "", "", 0⟩, ⟨ "Feats", 25, 1, false, "", "", 24⟩]) := ⟨Ha⟩
instance Hh:eZ Tryz.tb 31 (.pointer 85):=⟨Gz⟩
instance uD:eZ Tryz.tb 33 (.slice 78):=⟨Gy⟩
instance eP:eZ Tryz.tb 34 (.slice 3):=⟨Gx⟩
instance jV : eZ Tryz.tb 40 (.struct #[⟨ "Nodes", 33, 0, false, "", "", 0⟩]) := ⟨Gw⟩
instance yq:eZ Tryz.tb 48 (.slice 40):=⟨Gv⟩
instance yp:eZ Tryz.tb 66 (.slice 4):=⟨Gu⟩
instance dB:eZ Tryz.tb 76 (.slice 98):=⟨Gt⟩
instance C2 : eZ Tryz.tb 78 (.struct #[⟨ "Type", 3, 0, false, "", "", 0⟩, ⟨ "Arcs", 76, 1, false, "", "", 8⟩]) := ⟨Gs⟩
instance mI:eZ Tryz.tb 81 (.slice 96):=⟨Gr⟩
instance pB:eZ Tryz.tb 82 (.slice 151):=⟨Gq⟩
instance U8:eZ Tryz.tb 83 (.slice 94):=⟨Gp⟩
instance yK : eZ Tryz.tb 85 (.struct #[⟨ "h", 27, 0, false, "", "grammarlab/trail", 0⟩, ⟨ "cells", 81, 2, false, "", "grammarlab/trail", 48⟩, ⟨ "trail", 82, 3, false, "", "grammarlab/trail", 72⟩, ⟨ "marks", 83, 4, false, "", "grammarlab/trail", 96⟩]) := ⟨Gn⟩
instance Hg : eZ Tryz.tb 94 (.struct #[⟨ "cells", 3, 0, false, "", "grammarlab/trail", 0⟩, ⟨ "changes", 3, 1, false, "", "grammarlab/trail", 8⟩]) := ⟨Gm⟩
instance pA : eZ Tryz.tb 96 (.struct #[⟨ "forward", 3, 0, false, "", "grammarlab/trail", 0⟩, ⟨ "kind", 3, 1, false, "", "grammarlab/trail", 8⟩, ⟨ "arcs", 76, 2, false, "", "grammarlab/trail", 16⟩]) := ⟨Gl⟩
instance uC : eZ Tryz.tb 98 (.struct #[⟨ "Feat", 3, 0, false, "", "", 0⟩, ⟨ "To", 3, 1, false, "", "", 8⟩]) := ⟨Gk⟩
instance oL:eZ Tryz.tb 100 (.array 2 3):=⟨U7⟩
instance qL:eZ Tryz.tb 101 (.slice 100):=⟨U6⟩
instance:eZ Tryz.tb 102 (.func #[3] #[3] false):=⟨U5⟩
instance Hn:eZ Tryz.tb 113 (.pointer 116):=⟨U4⟩
instance AG:eZ Tryz.tb 114 (.slice 76):=⟨U3⟩
instance OH : eZ Tryz.tb 116 (.struct #[⟨ "h", 27, 0, false, "", "grammarlab/unify", 0⟩, ⟨ "parent", 34, 2, false, "", "grammarlab/unify", 48⟩, ⟨ "types", 34, 3, false, "", "grammarlab/unify", 72⟩, ⟨ "arcs", 114, 4, false, "", "grammarlab/unify", 96⟩]) := ⟨U2⟩
instance OG:eZ Tryz.tb 118 (.map 3 3):=⟨TZ⟩
instance:eZ Tryz.tb 119 (.slice 130):=⟨TY⟩
instance qK:eZ Tryz.tb 122 (.slice 128):=⟨TX⟩
instance fT:eZ Tryz.tb 126 (.slice 191):=⟨TW⟩
instance OF : eZ Tryz.tb 128 (.struct #[⟨ "Name", 9, 0, false, "", "", 0⟩, ⟨ "Code", 126, 1, false, "", "", 16⟩]) := ⟨TV⟩
instance:eZ Tryz.tb 130 (.slice 176):=⟨TU⟩
instance FN : eZ Tryz.tb 132 (.struct #[⟨ "Name", 9, 0, false, "", "", 0⟩, ⟨ "Code", 126, 1, false, "", "", 16⟩, ⟨ "Supers", 34, 2, false, "", "", 40⟩, ⟨ "Feats", 130, 3, false, "", "", 64⟩]) := ⟨TT⟩
instance jH:eZ Tryz.tb 135 (.slice 9):=⟨TR⟩
instance FM:eZ Tryz.tb 136 (.slice 141):=⟨TQ⟩
instance vX : eZ Tryz.tb 138 (.struct #[⟨ "Name", 9, 0, false, "", "", 0⟩, ⟨ "Supers", 135, 1, false, "", "", 16⟩, ⟨ "Feats", 136, 2, false, "", "", 40⟩]) := ⟨TP⟩
instance Hm : eZ Tryz.tb 141 (.struct #[⟨ "Feat", 9, 0, false, "", "", 0⟩, ⟨ "Value", 9, 1, false, "", "", 16⟩]) := ⟨TO⟩
instance FL : eZ Tryz.tb 151 (.struct #[⟨ "at", 3, 0, false, "", "grammarlab/trail", 0⟩, ⟨ "old", 96, 1, false, "", "grammarlab/trail", 8⟩]) := ⟨TN⟩
instance Hl : eZ Tryz.tb 176 (.struct #[⟨ "Feat", 3, 0, false, "", "", 0⟩, ⟨ "Value", 3, 1, false, "", "", 8⟩]) := ⟨TM⟩
instance qJ:eZ Tryz.tb 177 (.slice 126):=⟨TL⟩
instance Hk : eZ Tryz.tb 187 (.struct #[⟨ "Name", 9, 0, false, "", "", 0⟩, ⟨ "Intro", 3, 1, false, "", "", 16⟩]) := ⟨TK⟩
instance Hj:eZ Tryz.tb 191 (.int .u64):=⟨TJ⟩
instance AF:eZ Tryz.tb 193 (.int .u64):=⟨TI⟩
instance OE : eZ Tryz.tb 214 (.struct #[⟨ "f", 40, 0, false, "", "grammarlab/grammarlabref07", 0⟩, ⟨ "number", 34, 1, false, "", "grammarlab/grammarlabref07", 24⟩, ⟨ "order", 34, 2, false, "", "grammarlab/grammarlabref07", 48⟩]) := ⟨TH⟩
instance fW:j8 Tryz.tb 3 1 8 (.int .i64 0):=⟨Pe⟩
instance:oK Tryz.tb 3 [.int .i64 0]:=⟨_,_,_,Pe,rfl,rfl⟩
instance:j8 Tryz.tb 4 1 1 (.bool false):=⟨Pc⟩
instance:oK Tryz.tb 4 [.bool false]:=⟨_,_,_,Pc,rfl,rfl⟩
instance GT:j8 Tryz.tb 9 1 16 (.string ⟨#[]⟩):=⟨Ox⟩
instance:oK Tryz.tb 9 [.str []]:=⟨_,_,_,Ox,rfl,rfl⟩
instance XV:j8 Tryz.tb 24 1 24 (.slice none 0 0):=⟨Pg⟩
instance:j8 Tryz.tb 25 1 24 (.slice none 0 0):=⟨Pf⟩
instance CZ:j8 Tryz.tb 27 2 48 (.agg #[.slice none 0 0,.slice none 0 0]):=⟨QP⟩
instance:oK Tryz.tb 27 [.nils,.nils]:=⟨_,_,_,QP,rfl,rfl⟩
instance XU:j8 Tryz.tb 33 1 24 (.slice none 0 0):=⟨Pd⟩
instance Pk:j8 Tryz.tb 34 1 24 (.slice none 0 0):=⟨QO⟩
instance:oK Tryz.tb 34 [.nils]:=⟨_,_,_,QO,rfl,rfl⟩
instance lO:j8 Tryz.tb 40 1 24 (.agg #[.slice none 0 0]):=⟨QN⟩
instance:oK Tryz.tb 40 [.nils]:=⟨_,_,_,QN,rfl,rfl⟩
instance oE:j8 Tryz.tb 76 1 24 (.slice none 0 0):=⟨QM⟩
instance:oK Tryz.tb 76 [.nils]:=⟨_,_,_,QM,rfl,rfl⟩
instance uL:j8 Tryz.tb 78 2 32 (.agg #[.int .i64 0,.slice none 0 0]):=⟨QL⟩
instance:oK Tryz.tb 78 [.int .i64 0,.nils]:=⟨_,_,_,QL,rfl,rfl⟩
instance tf:j8 Tryz.tb 81 1 24 (.slice none 0 0):=⟨Pb⟩
instance MS:j8 Tryz.tb 82 1 24 (.slice none 0 0):=⟨Pa⟩
instance te:j8 Tryz.tb 83 1 24 (.slice none 0 0):=⟨Oz⟩
instance td:j8 Tryz.tb 85 5 120 (.agg #[.slice none 0 0,.slice none 0 0,.slice none 0 0,.slice none 0 0,.slice none 0 0]):=⟨Oy⟩
instance MR:j8 Tryz.tb 94 2 16 (.agg #[.int .i64 0,.int .i64 0]):=⟨QK⟩
instance:oK Tryz.tb 94 [.int .i64 0,.int .i64 0]:=⟨_,_,_,QK,rfl,rfl⟩
instance iS:j8 Tryz.tb 96 3 40 (.agg #[.int .i64 0,.int .i64 0,.slice none 0 0]):=⟨QJ⟩
instance:oK Tryz.tb 96 [.int .i64 0,.int .i64 0,.nils]:=⟨_,_,_,QJ,rfl,rfl⟩
instance eR:j8 Tryz.tb 98 2 16 (.agg #[.int .i64 0,.int .i64 0]):=⟨QI⟩
instance:oK Tryz.tb 98 [.int .i64 0,.int .i64 0]:=⟨_,_,_,QI,rfl,rfl⟩
instance oT:j8 Tryz.tb 100 2 16 (.agg #[.int .i64 0,.int .i64 0]):=⟨GS⟩
instance:oK Tryz.tb 100 [.int .i64 0,.int .i64 0]:=⟨_,_,_,GS,rfl,rfl⟩
instance:j8 Tryz.tb 101 1 24 (.slice none 0 0):=⟨GR⟩
instance:oK Tryz.tb 101 [.nils]:=⟨_,_,_,GR,rfl,rfl⟩
instance:j8 Tryz.tb 102 1 8 (.nilFunc):=⟨GQ⟩
instance:oK Tryz.tb 102 [.nilf]:=⟨_,_,_,GQ,rfl,rfl⟩
instance:j8 Tryz.tb 114 1 24 (.slice none 0 0):=⟨XT⟩
instance Po:j8 Tryz.tb 116 5 120 (.agg #[.slice none 0 0,.slice none 0 0,.slice none 0 0,.slice none 0 0,.slice none 0 0]):=⟨XS⟩
instance:j8 Tryz.tb 118 1 8 (.map none):=⟨GP⟩
instance:oK Tryz.tb 118 [.nilm]:=⟨_,_,_,GP,rfl,rfl⟩
instance oS:j8 Tryz.tb 126 1 24 (.slice none 0 0):=⟨GO⟩
instance:oK Tryz.tb 126 [.nils]:=⟨_,_,_,GO,rfl,rfl⟩
instance qP:j8 Tryz.tb 128 2 40 (.agg #[.string ⟨#[]⟩,.slice none 0 0]):=⟨GN⟩
instance:oK Tryz.tb 128 [.str [],.nils]:=⟨_,_,_,GN,rfl,rfl⟩
instance:j8 Tryz.tb 130 1 24 (.slice none 0 0):=⟨GM⟩
instance:oK Tryz.tb 130 [.nils]:=⟨_,_,_,GM,rfl,rfl⟩
instance GU:j8 Tryz.tb 132 4 88 (.agg #[.string ⟨#[]⟩,.slice none 0 0,.slice none 0 0,.slice none 0 0]):=⟨GL⟩
instance:oK Tryz.tb 132 [.str [],.nils,.nils,.nils]:=⟨_,_,_,GL,rfl,rfl⟩
instance:j8 Tryz.tb 135 1 24 (.slice none 0 0):=⟨XR⟩
instance QR:j8 Tryz.tb 136 1 24 (.slice none 0 0):=⟨XQ⟩
instance wI:j8 Tryz.tb 138 3 64 (.agg #[.string ⟨#[]⟩,.slice none 0 0,.slice none 0 0]):=⟨GK⟩
instance:oK Tryz.tb 138 [.str [],.nils,.nils]:=⟨_,_,_,GK,rfl,rfl⟩
instance QQ:j8 Tryz.tb 141 2 32 (.agg #[.string ⟨#[]⟩,.string ⟨#[]⟩]):=⟨GJ⟩
instance:oK Tryz.tb 141 [.str [],.str []]:=⟨_,_,_,GJ,rfl,rfl⟩
instance oR:j8 Tryz.tb 151 4 48 (.agg #[.int .i64 0,.int .i64 0,.int .i64 0,.slice none 0 0]):=⟨GI⟩
instance:oK Tryz.tb 151 [.int .i64 0,.int .i64 0,.int .i64 0,.nils]:=⟨_,_,_,GI,rfl,rfl⟩
instance Pn:j8 Tryz.tb 176 2 16 (.agg #[.int .i64 0,.int .i64 0]):=⟨GH⟩
instance:oK Tryz.tb 176 [.int .i64 0,.int .i64 0]:=⟨_,_,_,GH,rfl,rfl⟩
instance Pm:j8 Tryz.tb 187 2 24 (.agg #[.string ⟨#[]⟩,.int .i64 0]):=⟨GG⟩
instance:oK Tryz.tb 187 [.str [],.int .i64 0]:=⟨_,_,_,GG,rfl,rfl⟩
instance kX:j8 Tryz.tb 191 1 8 (.int .u64 0):=⟨GF⟩
instance:oK Tryz.tb 191 [.int .u64 0]:=⟨_,_,_,GF,rfl,rfl⟩
instance Pl:j8 Tryz.tb 214 3 72 (.agg #[.slice none 0 0,.slice none 0 0,.slice none 0 0]):=⟨XP⟩
end Go.Proofs
