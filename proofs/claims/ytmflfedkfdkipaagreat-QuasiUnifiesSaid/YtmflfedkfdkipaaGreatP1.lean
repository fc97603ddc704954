import Derived.KernelRfl
import Derived.Carry
import Derived.ChangeSame
import Derived.OpenShut
set_option linter.all false
open List Go.IntKind
open Nat hiding beq_eq
namespace Go
def hF:=@if_neg
def lq:=@getElem?_eq_getElem
def lr:=@if_pos
def lu:=@mem_cons_of_mem
def mc:=@getElem?_append_left
def me:=@getElem?_map
def mu:=@getElem?_append_right
def mw:=@mem_append_left
def mz:=@getElem?_set_ne
def qq:=@zero_le
def y_:=@map_append
def It:=@if_true
def MD:=@le_succ
def MF:=@if_false
def Px:=@append_nil
def Ty:=@Nat.zero_add
def WV:=@Ne.symm
def X0:=@nil_append
def X1:=@mem_map_of_mem
def X2:=@map_congr_left
def Yz:=@length_take
def YO:=@getElem?_set_self
def YP:=@flatten_cons
def YQ:=@getElem?_eq_none
def YR:=@Nat.lt_of_lt_of_le
def Za:=@drop_zero
def Zb:=@decide_eq_false
def Zc:=@getElem?_of_mem
def Zd:=@Nat.lt_or_ge
def Ze:=@lt_succ_of_lt
def Zg:=@cons_append
def Zh:=@decide_eq_true
def Zq:=@drop_eq_getElem_cons
def Zr:=@Bool.not_true
def Zs:=@eq_nil_of_length_eq_zero
def Zt:=@Nat.le_trans
def Zu:=@le_succ_of_le
def fo:=@pairwise_map
def cO:=@and_true
def eR:=@Bool.and_eq_true
def fF:=@nodup_append
def eG:=@Bool.not_false
def dX:=@Nat.add_mul
def gj:=@Bool.false_eq_true
def ep:=@Nat.le_of_lt
def ox:=@Nat.exists_eq_add_of_le'
def ez:=@map_nil
def eF:=@map_map
def l7:=@take_append_drop
def mr:=@mem_append_right
def fG:=@length_set
def qj:=@Classical.byContradiction
def il:=@le_add_right
def jg:=@not_false_eq_true
def ja:=@getElem?_set
def jz:=@getElem?_take
def eM:=@succ_mul
def qi:=@Nat.add_sub_cancel_left
def xn:=@drop_append_of_le_length
def jf:=@Option.getD_some
def iZ:=@filter_cons
def eT:=@Nat.add_zero
def oy:=@pairwise_append
def nw:=@filter_append
def dG:=@true_and
def js:=@take_length
def jh:=@getElem_mem
def ki:=@bne_self_eq_false
def Ar:=@take_append_of_le_length
def fA:=@mem_map
def pc:=@getElem?_drop
def ve:=@ble_eq_true_of_le
def og:=@idxOf_append
def od:=@ext_getElem?
def tp:=@mul_le_mul_right
def qa:=@mem_singleton
def kh:=@drop_drop
def oC:=@not_mem_nil
def xi:=@getElem?_toArray
def lz:=@take_zero
def pg:=@Nat.min_eq_left
def nH:=@Bool.or_eq_true
def pw:=@drop_length
def Aq:=@Int.eq_ofNat_of_zero_le
def ns:=@Nat.add_assoc
def py:=@foldl_cons
def Fx:=@mem_of_find?_eq_some
def vu:=@mod_eq_of_lt
def xe:=@pairwise_cons
def rj:=@all_eq_true
def my:=@Nat.zero_mul
def mi:=@Nat.sub_self
def Ht:=@exists_testBit_of_ne_zero
def zc:=@decide_eq_true_eq
def zp:=@Bool.not_eq_true'
def wz:=@testBit_and
def vg:=@Bool.eq_iff_iff
def pe:=@Nat.le_of_eq
def Gk:=@drop_eq_nil_of_le
def Ew:=@Array.getElem?_eq_none
def ya:=@Nat.le_of_not_lt
def yc:=@length_drop
def H_:=@mem_or_eq_of_mem_set
def Ey:=@mem_of_mem_take
def Ga:=@take_succ_cons
def Gi:=@replicate_succ
def G_:=@Nat.exists_eq_add_of_le
def pn:=@Int.le_refl
def wm:=@Nat.sub_zero
def Gb:=@getElem_idxOf
def ea:=@ne_eq
def Hc:=@length_filter_le
def jm:=@and_self
def Bc:=@nodup_nil
def Jk:=@fst_mem_of_mem_zipIdx
def GZ:=@beq_eq_false_iff_ne
def Bd:=@map_take
def As:=@map_drop
def Bm:=@Option.map_none
def Hr:=@Nat.lt_of_le_of_lt
def Hb:=@eq_zero_or_pos
def uv:=@blt_eq
def IT:=@decide_eq_false_iff_not
def KW:=@getElem?_replicate
def zv:=@Nat.add_comm
def HB:=@size_toArray
def Ii:=@drop_of_length_le
def qbF:=@Array.all_eq_true_iff_forall_mem
def Jj:=@eq_of_beq_eq_true
def Lm:=@set_append_right
def Ln:=@Bool.and_eq_false_iff
def Ib:=@zero_testBit
def yv:=@ble_eq
def Gw:=@getElem_inj
def pj:=@not_true
def Ki:=@getElem?_append
def LD:=@BitVec.ofInt_natCast
def GY:=@find?_some
def Hn:=@find?_cons
def LM:=@replicate_zero
def Kh:=@getElem_of_mem
def Gc:=@Nat.and_self
def WU:=@Nat.le_of_mul_le_mul_right
def LO:=@set_cons_zero
def MM:=@BitVec.toNat_ofNat
def R_:=@findIdx?_eq_none_iff
def Ih:=@take_add_one
def IW:=@flatMap_cons
def SC:=@getElem?_cons_zero
def ZD:=@length_pos_of_mem
def Be:=@Array.ext'
def Kx:=@idxOf_cons
def qb4:=@length_singleton
def A!:=@Array.getElem?_modify
def Hx:=@Nat.mul_pos
def qb7:=@eq_of_testBit_eq
def A':=@mem_of_mem_drop
def IS:=@mapM_cons
def qca:=@filterMap_cons
def NB:=@take_add
def IC:=@sum_cons
def qcd:=@decide_eq_true_iff
def qce:=@Option.toList_none
def qcf:=@Option.isSome_none
def Q':=@set_cons_succ
def qch:=@Int.natCast_nonneg
def qci:=@findIdx?_eq_some_iff_getElem
def K!:=@of_decide_eq_true
def IB:=@Nat.and_comm
def R!:=@take_sublist
def qcm:=@length_range
def D!:=@Bool.eq_false_iff
def qco:=@beq_self_eq_true
def qcp:=@Option.bind_some
def UH:=@Nat.min_eq_right
def E':=@zipIdx_cons
def qcs:=@drop_append
def X!:=@Bool.not_eq_true
def JA:=@Nat.mul_one
def LB:=@map_id
def qcw:=@and_le_left
def SI:=@take_left'
def T!:=@mem_filter
def qcz:=@idxOf_lt_length_of_mem
def HZ:=@false_or
def JY:=@bne_iff_ne
def Jd:=@Nat.beq_eq
def qcD:=@take_take
def qcE:=@setIfInBounds_toArray
def qcF:=@mem_range
def qcG:=@drop_left
def Y!:=@Perm.refl
def qcI:=@Int.tmod_eq_emod_of_nonneg
def qcJ:=@Int.tdiv_eq_ediv_of_nonneg
def qcK:=@Array.getElem?_append_left
def qcL:=@pairwise_iff_getElem
def qcM:=@Array.mapM_eq_mapM_toList
def qcN:=@Nat.add_right_cancel_iff
def qcO:=@length_erase_of_mem
def qcP:=@getElem?_take_of_lt
def qcQ:=@any_cons
def TP:=@Bool.and_true
def ML:=@false_iff
def G!:=@getElem!_pos
def qcU:=@testBit_lt_two_pow
def qcV:=@Nat.lt_trans
def Qj:=@Nat.le_total
def qcX:=@take_of_length_le
def S!:=@map_set
def qcZ:=@le_of_ble_eq_true
def qc0:=@singleton_append
def qc1:=@perm_append_comm
def qc2:=@length_replicate
def qc3:=@filterMap_append
def qc4:=@BitVec.eq_of_toNat_eq
end Go
namespace Go
theorem af{p:Prop}(h:p:=by omega):p:=h
theorem ag{p:Prop}(h:p:=by kernel_rfl):p:=h
theorem bF{p:Prop}(h:p:=by decide):p:=h
theorem aZ{p:Prop}(h:p:=by simp):p:=h
end Go
namespace Go
universe u
abbrev X:Type u->Type u:=List
abbrev V:Type u->Type u:=Option
abbrev Yv:Type:=UInt8
abbrev FK:Type:=Bool
abbrev Ua:Type:=Program
abbrev Jg:Type u->Type u:=Array
abbrev Ep:Type:=World
abbrev He:Type:=Operand
end Go
namespace Go
universe u v
def zA{c:Type u}(a b:c):(some a=some b)=(a=b):=Option.some.injEq a b
def zB{e:Type u}{f:Type v}(a:e)(b:f)(c:e)(d:f):((a,b)=(c,d))=(a=c/\b=d):=Prod.mk.injEq a b c d
def zC{c:Sort u}(a b:c):cond true a b=a:=rfl
def zD{c:Sort u}(a b:c):cond false a b=b:=rfl
def zF(n:Nat):n<=n:=Nat.le_refl n
def zG{b:Type u}{l:X b}{i:Nat}{a:b}:l[i]?=some a↔∃h:i<l.length,l[i]=a:=List.getElem?_eq_some_iff
def zH{b:Type u}{a:b}{i:Nat}{l:X b}:(a::l)[i+1]?=l[i]?:=getElem?_cons_succ
def zI{c:Type u}{a b:c}{l:X c}:a∈b::l↔a=b\/a∈l:=mem_cons
def zJ:=@Result.andThen_ok
def zK:=@Sem.run_bind
def zL:=@Sem.run_pure
def zM:=@Option.map_some
def zN:=@lt_succ_self
def zO:=@length_cons
def zQ:=@map_cons
def zS:=@length_nil
def zT:=@append_assoc
def zU:=@length_append
def zV:=@Int.ofNat_zero
def zW:=@qcX
def zX:=@mem_of_getElem?
def zY:=@qcZ
def zZ:=@Int.toNat_natCast
def yA:=@length_map
def yB:=@decide_false
def yC:=@decide_true
def yD:=@mem_append
end Go
namespace Go.Rx
open Go.ChangeShapes Go.WideShapes Go.RowKit
def qk6{H:Type}{e:TypeId×Value->H}{P:Ua}(o:laidOutB P=true){W k:Ep}(n:Below W.heap.size W k){p:Nat->FK}:
  ∀{i:X TypeId}{q:X Value}{m:X (DataW H)}{g:X MemPlace},(i.all fun t=>P.readableRec t&&decide (t<P.types.size))=true->DataW.TrodAll e P W 0 (fun _=>true) true i q m g-> (∀x∈g,x.block<W.heap.size)->(∀x∈g,p x.block=true)->DataW.TrodAll e P k 0 p true i q m g
 |[],_,_,_,_,h,_,_=>by obtain⟨rfl,rfl,rfl⟩:=trodAll_nil h;exact trodAll_mk0
 |t::i,_,_,_,f,h,l,j=>by obtain⟨v,u,d,w,a,b,rfl,rfl,rfl,r,s⟩:=trodAll_cons h;simp only[all_cons,eR,zc]at f;refine trodAll_cons_mk (WideElems.Trod_stays o f.1.1 f.1.2 r (fun x c=>n.same<|l x<|by simp[c]) fun x c=>j x<|by simp[c]) ?_;exact qk6 o n (by simpa using f.2) s (fun x c=>l x<|by simp[c]) (fun x c=>j x<|by simp[c])
def hY{H:Type}{d:TypeId×Value->H}{P:Ua}{f:Func}{s:ChangeSpec}{c fresh K h:FK}{W i:Ep}{args:Jg Value}{g gs:X (DataW H)}{a:X MemPlace}{t:TypeId}
  (m:DataW.Whole d P f.params.toList s.vars c W args.toList g gs a) (O:laidOutB P=true) (w:(f.params.toList.all fun t=>P.readableRec t&&decide (t<P.types.size))=true) (o:Below W.heap.size W i) (G:s.vars=[]) (T:f.resultTypes= #[t]) (F:P.underlying t=some .bool) (L:(s.fn H<|g++gs).results=[.lit<|.bool true]) (u:(s.fn H<|g++gs).args=g) (v:(s.fn H<|g++gs).vars=[]):
  s.post d P f c fresh K h W args (.bool true) i:=by
 have B:=m.lt;have S:∀p∈a,(fun b=>decide (b<W.heap.size)) p.block=true:=fun p l=>by simpa using B p l
 have n:=m;obtain⟨p,q,M,D,rfl,R,Q⟩:=m;rw[G]at D;obtain⟨rfl,rfl⟩:=trodVars_none D;have z:∀x∈p,x.block<W.heap.size:=fun x k=>B x (by simpa using k);have C:∀e:Nat->FK,(∀x∈p,e x.block=true)->DataW.TrodAll d P i 0 e true f.params.toList args.toList g p:=fun e I=>qk6 O o w M z I;have y:∀(b:Nat)(e:Nat->FK)(E:FK),DataW.TrodAll d P i b e E f.resultTypes.toList ((Value.bool true).resultList f.resultTypes.size) [.lit<|.bool true] []:=fun b e E=>by rw[T];exact trodAll_cons_mk (shut_bool F _) trodAll_mk0
 have J:∀(j:Nat)(t:TypeId)(r:Value),f.resultTypes[j]? = some t->((Value.bool true).resultList f.resultTypes.size)[j]? = some r->Value.okWide P i .any 0 t r:=ok_one T rfl (okWide_bool_mk F _);have A:∀e:Nat->FK,DataW.TrodVars d P i e s.vars (s.fn H<|g++[]).vars []:=fun e=>by rw[v,G];rfl
 refine⟨g,[],p++[],[],p,[],n,by rw[L];exact y _ _ _,by rw[u];exact C _ (fun x k=>S x<|by simp[k]),A _,o.frame _,fun _=>?_⟩;refine⟨J,_,_,([]++p)++[],⟨[]++p,[],trodAll_append (C _ fun _ _=>rfl)<|y _ _ _,A _,rfl,?_,?_⟩,?_⟩;intro b off l;rw[o.frozen<|by exact z _<|by simpa using l];exact R b off (by simpa using l);intro N;simpa using Q N;intro x k _;simpa using k
#print axioms hY
end Go.Rx
