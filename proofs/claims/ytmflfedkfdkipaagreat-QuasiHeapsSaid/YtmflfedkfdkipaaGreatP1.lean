import Derived.KernelRfl
import Derived.Carry
import Derived.ChangeSame
import Derived.OpenShut
set_option linter.all false
open List Go.IntKind
open Nat hiding beq_eq
namespace Go
def hF:=@getElem?_eq_getElem
def iy:=@if_neg
def kh:=@if_pos
def kj:=@mem_cons_of_mem
def kl:=@getElem?_append_left
def kq:=@getElem?_append_right
def qq:=@zero_le
def vt:=@mem_append_left
def vz:=@getElem?_map
def It:=@if_true
def LX:=@if_false
def LY:=@map_append
def Ty:=@getElem?_set_ne
def Wt:=@le_succ
def Wu:=@map_congr_left
def Wv:=@Ne.symm
def Ww:=@take_append_drop
def Wx:=@flatten_cons
def Wy:=@Nat.zero_add
def Wz:=@length_take
def W2:=@mem_map_of_mem
def Xi:=@getElem?_eq_none
def Xj:=@Nat.lt_of_lt_of_le
def Xk:=@drop_eq_getElem_cons
def Xl:=@drop_zero
def Xm:=@lt_succ_of_lt
def XK:=@le_succ_of_le
def XL:=@Nat.lt_or_ge
def XM:=@Bool.false_eq_true
def XN:=@pairwise_map
def X0:=@eq_nil_of_length_eq_zero
def X1:=@and_true
def dT:=@map_map
def f_:=@nodup_append
def eJ:=@decide_eq_false
def eY:=@nil_append
def eb:=@Nat.le_trans
def fV:=@cons_append
def fO:=@Bool.and_eq_true
def dR:=@Nat.add_mul
def gP:=@not_false_eq_true
def ek:=@Nat.add_zero
def mc:=@getElem?_of_mem
def gK:=@Option.getD_some
def nv:=@Nat.add_sub_cancel_left
def l8:=@getElem?_take
def na:=@getElem?_drop
def qj:=@Nat.exists_eq_add_of_le'
def my:=@Nat.add_assoc
def jG:=@le_add_right
def il:=@append_nil
def di:=@true_and
def eF:=@succ_mul
def eW:=@Nat.le_of_lt
def fX:=@Bool.not_true
def kG:=@getElem_mem
def ll:=@filter_cons
def jl:=@decide_eq_true
def qe:=@getElem?_set_self
def mi:=@getElem?_set
def me:=@ext_getElem?
def mq:=@mem_singleton
def qa:=@mem_append_right
def nh:=@bne_self_eq_false
def mm:=@size_toArray
def ya:=@take_append_of_le_length
def qp:=@pairwise_append
def zi:=@drop_append_of_le_length
def gf:=@mem_map
def gg:=@map_nil
def od:=@filter_append
def lu:=@length_set
def lf:=@Bool.not_false
def ml:=@not_mem_nil
def oy:=@length_drop
def tA:=@ble_eq_true_of_le
def ns:=@idxOf_append
def ri:=@mul_le_mul_right
def mh:=@drop_drop
def zg:=@Classical.byContradiction
def vv:=@getElem?_toArray
def lg:=@Nat.zero_mul
def la:=@Nat.le_of_eq
def nw:=@Bool.or_eq_true
def oe:=@foldl_cons
def vg:=@mod_eq_of_lt
def wz:=@pairwise_cons
def uO:=@drop_length
def rj:=@all_eq_true
def mr:=@Nat.sub_self
def zn:=@mem_of_mem_take
def Bm:=@decide_eq_false_iff_not
def vP:=@Bool.not_eq_true'
def uv:=@Option.map_none
def ve:=@Bool.eq_iff_iff
def Aa:=@drop_eq_nil_of_le
def Ac:=@Array.getElem?_eq_none
def zc:=@getElem_idxOf
def Gv:=@mem_or_eq_of_mem_set
def wv:=@Nat.min_eq_left
def Fe:=@take_succ_cons
def vp:=@take_zero
def xe:=@take_length
def wj:=@drop_left
def sc:=@Nat.sub_zero
def Fz:=@eq_zero_or_pos
def Gt:=@drop_of_length_le
def dG:=@ne_eq
def Ji:=@idxOf_lt_length_of_mem
def lr:=@and_self
def TJ:=@mem_of_mem_drop
def JK:=@fst_mem_of_mem_zipIdx
def Kd:=@mem_of_find?_eq_some
def zp:=@map_take
def zy:=@map_drop
def Ia:=@getElem?_take_of_lt
def Fq:=@testBit_and
def Gr:=@Nat.lt_of_le_of_lt
def tp:=@blt_eq
def qW:=@Array.ext'
def Ih:=@getElem?_cons_zero
def Gb:=@decide_eq_true_eq
def zj:=@Nat.add_comm
def Ab:=@nodup_nil
def qbG:=@Array.all_eq_true_iff_forall_mem
def Kf:=@eq_of_beq_eq_true
def Gw:=@length_filter_le
def wm:=@ble_eq
def ox:=@not_true
def N!:=@exists_testBit_of_ne_zero
def KV:=@getElem?_append
def yv:=@Int.le_refl
def KZ:=@BitVec.ofInt_natCast
def KQ:=@toList_toArray
def Jg:=@replicate_succ
def HO:=@getElem_of_mem
def Eu:=@Nat.and_self
def KF:=@Option.isSome_none
def TH:=@Nat.le_of_mul_le_mul_right
def Gm:=@take_left
def Jh:=@set_cons_zero
def KR:=@Int.natCast_nonneg
def He:=@BitVec.toNat_ofNat
def QS:=@findIdx?_eq_none_iff
def IQ:=@take_sublist
def KX:=@take_add_one
def Fh:=@map_id
def KL:=@flatMap_cons
def Ga:=@sum_cons
def IS:=@getElem_inj
def qb6:=@length_take_of_le
def RV:=@length_pos_of_mem
def Gz:=@idxOf_cons
def qb9:=@set_append_right
def qca:=@Bool.and_eq_false_iff
def qcb:=@Array.getElem?_modify
def Gk:=@Nat.mul_pos
def SY:=@eq_of_testBit_eq
def Kc:=@mapM_cons
def MT:=@Array.toArray_toList
def qcg:=@flatten_append
def SH:=@filterMap_cons
def Ha:=@take_add
def qcj:=@decide_eq_true_iff
def OA:=@set_cons_succ
def TS:=@Array.ext_getElem?
def qcm:=@findIdx?_eq_some_iff_getElem
def Ew:=@false_or
def KE:=@Nat.and_comm
def Jf:=@map_id'
def B!:=@length_range
def qcr:=@Bool.eq_false_iff
def qct:=@Option.bind_some
def qcu:=@zero_testBit
def qcv:=@Nat.le_of_not_lt
def QI:=@zipIdx_cons
def qcx:=@range'_succ
def qcy:=@drop_append
def SV:=@and_le_left
def Q':=@take_left'
def qcB:=@mem_filter
def Z':=@find?_some
def IK:=@Nat.beq_eq
def qcE:=@take_take
def qcF:=@setIfInBounds_toArray
def qcG:=@mem_range
def qcH:=@Int.tmod_eq_emod_of_nonneg
def qcI:=@Int.tdiv_eq_ediv_of_nonneg
def qcJ:=@Int.fdiv_eq_ediv_of_nonneg
def qcK:=@Array.toList_setIfInBounds
def qcL:=@Array.getElem?_append_left
def qcM:=@pairwise_iff_getElem
def qcN:=@Array.mapM_eq_mapM_toList
def qcO:=@Array.getElem?_eq_getElem
def qcP:=@Nat.add_right_cancel_iff
def qcQ:=@length_erase_of_mem
def qcR:=@any_cons
def qcS:=@Pairwise.imp_of_mem
def OP:=@getElem!_pos
def qcU:=@testBit_lt_two_pow
def qcV:=@take_of_length_le
def TI:=@set_set
def qcX:=@le_of_ble_eq_true
def qcY:=@singleton_append
def qcZ:=@perm_append_comm
def qc0:=@filterMap_append
def qc1:=@BitVec.eq_of_toNat_eq
end Go
namespace Go
theorem ag{p:Prop}(h:p:=by omega):p:=h
theorem bD{p:Prop}(h:p:=by kernel_rfl):p:=h
theorem cg{p:Prop}(h:p:=by decide):p:=h
theorem ca{p:Prop}(h:p:=by simp):p:=h
end Go
namespace Go
universe u
abbrev X:Type u->Type u:=List
abbrev A:Type u->Type u:=Option
abbrev I:Type:=Value
abbrev RX:Type:=UInt8
abbrev Rl:Type:=Bool
abbrev Ib:Type:=Program
abbrev Ie:Type u->Type u:=Array
abbrev Jb:Type:=World
abbrev Qo:Type:=Operand
end Go
namespace Go
universe u v
def zA{c:Type u}(a b:c):(some a=some b)=(a=b):=Option.some.injEq a b
def zB{e:Type u}{f:Type v}(a:e)(b:f)(c:e)(d:f):((a,b)=(c,d))=(a=c/\b=d):=Prod.mk.injEq a b c d
def zC{c:Sort u}(a b:c):cond true a b=a:=rfl
def zD{c:Sort u}(a b:c):cond false a b=b:=rfl
def zF(n:Nat):n<=n:=Nat.le_refl n
def zG{b:Type u}{l:X b}{i:Nat}{a:b}:l[i]?=some a↔∃h:i<l.length,l[i]=a:=List.getElem?_eq_some_iff
def zH{b:Type u}{a:b}{i:Nat}{l:X b}:(a::l)[i+1]?=l[i]?:=getElem?_cons_succ
def zI{c:Type u}{a b:c}{l:X c}:a∈b::l↔a=b\/a∈l:=mem_cons
def zJ:=@Result.andThen_ok
def zK:=@Sem.run_bind
def zL:=@Sem.run_pure
def zM:=@Option.map_some
def zN:=@lt_succ_self
def zO:=@length_cons
def zQ:=@map_cons
def zS:=@length_nil
def zT:=@append_assoc
def zU:=@length_append
def zV:=@Int.ofNat_zero
def zW:=@qcV
def zX:=@mem_of_getElem?
def zY:=@qcX
def zZ:=@Int.toNat_natCast
def yA:=@length_map
def yB:=@decide_false
def yC:=@decide_true
def yD:=@mem_append
end Go
namespace Go.Rx
open Go.ChangeShapes Go.WideShapes Go.RowKit
def qiw{H:Type}{e:TypeId×I->H}{P:Ib}(n:laidOutB P=true){W j:Jb}(m:Below W.heap.size W j){o:Nat->Rl}:
  ∀{i:X TypeId}{q:X I}{l:X (DataW H)}{g:X MemPlace},(i.all fun t=>P.readableRec t&&decide (t<P.types.size))=true->DataW.TrodAll e P W 0 (fun _=>true) true i q l g-> (∀x∈g,x.block<W.heap.size)->(∀x∈g,o x.block=true)->DataW.TrodAll e P j 0 o true i q l g
 |[],_,_,_,_,h,_,_=>by obtain⟨rfl,rfl,rfl⟩:=trodAll_nil h;exact trodAll_mk0
 |t::i,_,_,_,f,h,k,p=>by obtain⟨v,w,d,u,a,b,rfl,rfl,rfl,r,s⟩:=trodAll_cons h;simp only[all_cons,fO,Gb]at f;refine trodAll_cons_mk (WideElems.Trod_stays n f.1.1 f.1.2 r (fun x c=>m.same<|k x<|by simp[c]) fun x c=>p x<|by simp[c]) ?_;exact qiw n m (by simpa using f.2) s (fun x c=>k x<|by simp[c]) (fun x c=>p x<|by simp[c])
def iU{H:Type}{d:TypeId×I->H}{P:Ib}{f:Func}{s:ChangeSpec}{c fresh z i:Rl}{W k:Jb}{args:Ie I}{h gs:X (DataW H)}{a:X MemPlace}{t:TypeId}
  (n:DataW.Whole d P f.params.toList s.vars c W args.toList h gs a) (Q:laidOutB P=true) (y:(f.params.toList.all fun t=>P.readableRec t&&decide (t<P.types.size))=true) (u:Below W.heap.size W k) (G:s.vars=[]) (E:f.resultTypes= #[t]) (F:P.underlying t=some .bool) (M:(s.fn H<|h++gs).results=[.lit<|.bool true]) (v:(s.fn H<|h++gs).args=h) (w:(s.fn H<|h++gs).vars=[]):
  s.post d P f c fresh z i W args (.bool true) k:=by
 have B:=n.lt;have T:∀p∈a,(fun b=>decide (b<W.heap.size)) p.block=true:=fun p m=>by simpa using B p m
 have o:=n;obtain⟨p,q,N,C,rfl,S,R⟩:=n;rw[G]at C;obtain⟨rfl,rfl⟩:=trodVars_none C;have K:∀x∈p,x.block<W.heap.size:=fun x l=>B x (by simpa using l);have e:∀g:Nat->Rl,(∀x∈p,g x.block=true)->DataW.TrodAll d P k 0 g true f.params.toList args.toList h p:=fun g U=>qiw Q u y N K U;have J:∀(b:Nat)(g:Nat->Rl)(D:Rl),DataW.TrodAll d P k b g D f.resultTypes.toList ((Value.bool true).resultList f.resultTypes.size) [.lit<|.bool true] []:=fun b g D=>by rw[E];exact trodAll_cons_mk (shut_bool F _) trodAll_mk0
 have L:∀(j:Nat)(t:TypeId)(r:I),f.resultTypes[j]? = some t->((Value.bool true).resultList f.resultTypes.size)[j]? = some r->Value.okWide P k .any 0 t r:=ok_one E rfl (okWide_bool_mk F _);have A:∀g:Nat->Rl,DataW.TrodVars d P k g s.vars (s.fn H<|h++[]).vars []:=fun g=>by rw[w,G];rfl
 refine⟨h,[],p++[],[],p,[],o,by rw[M];exact J _ _ _,by rw[v];exact e _ (fun x l=>T x<|by simp[l]),A _,u.frame _,fun _=>?_⟩;refine⟨L,_,_,([]++p)++[],⟨[]++p,[],trodAll_append (e _ fun _ _=>rfl)<|J _ _ _,A _,rfl,?_,?_⟩,?_⟩;intro b off m;rw[u.frozen<|by exact K _<|by simpa using m];exact S b off (by simpa using m);intro O;simpa using R O;intro x l _;simpa using l
#print axioms iU
end Go.Rx
