import Derived.Carry
import Derived.ChangeSame
import Derived.OpenShut
set_option linter.all false
namespace Go
universe u
abbrev Z:Type u->Type u:=List
abbrev I:Type u->Type u:=Option
abbrev A:Type:=Value
abbrev O:Type:=TypeId
abbrev O8:Type:=UInt8
abbrev BQ:Type:=Bool
abbrev Uz:Type:=Program
abbrev Bo:Type u->Type u:=Array
abbrev Tz:Type:=World
abbrev Jp:Type:=Operand
end Go
namespace Go
universe u v
def zA{v11:Type u}(a b:v11):(some a=some b)=(a=b):=Option.some.injEq a b
def zB{v11:Type u}{v09:Type v}(a:v11)(b:v09)(c:v11)(d:v09):((a,b)=(c,d))=(a=c/\b=d):=Prod.mk.injEq a b c d
def zC{v11:Sort u}(a b:v11):cond true a b=a:=rfl
def zD{v11:Sort u}(a b:v11):cond false a b=b:=rfl
def zF(n:Nat):n<=n:=Nat.le_refl n
def zG{v11:Type u}{l:Z v11}{i:Nat}{a:v11}:l[i]?=some a↔∃h:i<l.length,l[i]=a:=List.getElem?_eq_some_iff
def zH{v11:Type u}{a:v11}{i:Nat}{l:Z v11}:(a::l)[i+1]?=l[i]?:=List.getElem?_cons_succ
def zI{v11:Type u}{a b:v11}{l:Z v11}:a∈b::l↔a=b\/a∈l:=List.mem_cons
def zJ:type_of% @Result.andThen_ok:=@Result.andThen_ok
def zK:type_of% @Sem.run_bind:=@Sem.run_bind
def zL:type_of% @Sem.run_pure:=@Sem.run_pure
def zM:type_of% @Option.map_some:=@Option.map_some
def zN:type_of% @Nat.lt_succ_self:=@Nat.lt_succ_self
def zO:type_of% @List.length_cons:=@List.length_cons
def zQ:type_of% @List.map_cons:=@List.map_cons
def zS:type_of% @List.length_nil:=@List.length_nil
def zT:type_of% @List.append_assoc:=@List.append_assoc
def zU:type_of% @List.length_append:=@List.length_append
def zV:type_of% @Int.ofNat_zero:=@Int.ofNat_zero
def zW:type_of% @List.take_of_length_le:=@List.take_of_length_le
def zX:type_of% @List.mem_of_getElem?:=@List.mem_of_getElem?
def zY:type_of% @Nat.le_of_ble_eq_true:=@Nat.le_of_ble_eq_true
def zZ:type_of% @Int.toNat_natCast:=@Int.toNat_natCast
def yA:type_of% @List.length_map:=@List.length_map
def yB:type_of% @decide_false:=@decide_false
def yC:type_of% @decide_true:=@decide_true
def yD:type_of% @List.mem_append:=@List.mem_append
end Go
namespace Go.Rx
open Go.ChangeShapes Go.WideShapes Go.RowKit
def qh8{H:Type}{enc:O×A->H}{P:Uz}(hl:laidOutB P=true){W W':Tz}(hb:Below W.heap.size W W'){sp:Nat->BQ}:
  ∀{ts:Z O}{vs:Z A}{ds:Z (DataW H)}{ps:Z MemPlace},(ts.all fun t=>P.readableRec t&&decide (t<P.types.size))=true->DataW.TrodAll enc P W 0 (fun _=>true) true ts vs ds ps-> (∀x∈ps,x.block<W.heap.size)->(∀x∈ps,sp x.block=true)->DataW.TrodAll enc P W' 0 sp true ts vs ds ps
 |[],_,_,_,_,h,_,_=>by obtain⟨rfl,rfl,rfl⟩:=trodAll_nil h;exact trodAll_mk0
 |t::ts,_,_,_,ht,h,aH,vN=>by obtain⟨v,sn,d,ID,a,b,rfl,rfl,rfl,h1,h2⟩:=trodAll_cons h;simp only[List.all_cons,Bool.and_eq_true,decide_eq_true_eq]at ht;refine trodAll_cons_mk (WideElems.Trod_stays hl ht.1.1 ht.1.2 h1 (fun x hx=>hb.same (aH x (by simp[hx]))) (fun x hx=>vN x (by simp[hx]))) ?_;exact qh8 hl hb (by simpa using ht.2) h2 (fun x hx=>aH x (by simp[hx])) (fun x hx=>vN x (by simp[hx]))
def law_post{H:Type}{enc:O×A->H}{P:Uz}{f:Func}{s:ChangeSpec}{apart fresh v12 again:BQ}{W W':Tz}{args:Bo A}{ds gs:Z (DataW H)}{before:Z MemPlace}{t:O}
  (hW:DataW.Whole enc P f.params.toList s.vars apart W args.toList ds gs before) (hl:laidOutB P=true) (hts:(f.params.toList.all fun t=>P.readableRec t&&decide (t<P.types.size))=true) (hb:Below W.heap.size W W') (hv:s.vars=[]) (hr:f.resultTypes= #[t]) (ht:P.underlying t=some .bool) (fP:(s.fn H (ds++gs)).results=[.lit (.bool true)]) (w?:(s.fn H (ds++gs)).args=ds) (hfv:(s.fn H (ds++gs)).vars=[]):
  s.post enc P f apart fresh v12 again W args (.bool true) W':=by
 have aH:=hW.lt;have mA:∀p∈before,(fun b=>decide (b<W.heap.size)) p.block=true:=fun p hp=>by simpa using aH p hp
 have Uq:=hW;obtain⟨p,q,hA,hV,rfl,hz,hn⟩:=hW;rw[hv]at hV;obtain⟨rfl,rfl⟩:=trodVars_none hV;have tQ:∀x∈p,x.block<W.heap.size:=fun x hx=>aH x (by simpa using hx);have cJ:∀sp:Nat->BQ,(∀x∈p,sp x.block=true)->DataW.TrodAll enc P W' 0 sp true f.params.toList args.toList ds p:=fun sp vN=>qh8 hl hb hts hA tQ vN;have vP:∀(b:Nat)(sp:Nat->BQ)(hd:BQ),DataW.TrodAll enc P W' b sp hd f.resultTypes.toList ((Value.bool true).resultList f.resultTypes.size) [.lit (.bool true)] []:=fun b sp hd=>by rw[hr];exact trodAll_cons_mk (shut_bool ht _) trodAll_mk0
 have sS:∀(j:Nat)(t:O)(r:A),f.resultTypes[j]? = some t->((Value.bool true).resultList f.resultTypes.size)[j]? = some r->Value.okWide P W' .any 0 t r:=ok_one hr rfl (okWide_bool_mk ht _);have S4:∀sp:Nat->BQ,DataW.TrodVars enc P W' sp s.vars (s.fn H (ds++[])).vars []:=fun sp=>by rw[hfv,hv];rfl
 refine⟨ds,[],p++[],[],p,[],Uq,by rw[fP];exact vP _ _ _,by rw[w?];exact cJ _ (fun x hx=>mA x (by simp[hx])),S4 _,hb.frame _,fun _=>?_⟩;refine⟨sS,_,_,([]++p)++[],⟨[]++p,[],trodAll_append (cJ _ (fun _ _=>rfl)) (vP _ _ _),S4 _,rfl,?_,?_⟩,?_⟩;intro b off hp;rw[hb.frozen (by exact tQ _ (by simpa using hp))];exact hz b off (by simpa using hp);intro ha;simpa using hn ha;intro x hx _;simpa using hx
#print axioms law_post
end Go.Rx
