import Derived.KernelRfl
import Derived.Carry
import Derived.ChangeSame
import Derived.OpenShut
set_option linter.all false
namespace Go
theorem qq0{p:Prop}(h:p:=by omega):p:=h
theorem qq1{p:Prop}(h:p:=by kernel_rfl):p:=h
theorem qq3{p:Prop}(h:p:=by decide):p:=h
theorem qq4{p:Prop}(h:p:=by simp):p:=h
end Go
namespace Go
universe u
abbrev X:Type u->Type u:=List
abbrev V:Type u->Type u:=Option
abbrev Yv:Type:=UInt8
abbrev PE:Type:=Bool
abbrev DC:Type:=Program
abbrev Zu:Type u->Type u:=Array
abbrev Nr:Type:=World
abbrev Xt:Type:=Operand
end Go
namespace Go
universe u v
def zA{v12:Type u}(a b:v12):(some a=some b)=(a=b):=Option.some.injEq a b
def zB{v12:Type u}{β:Type v}(a:v12)(b:β)(c:v12)(d:β):((a,b)=(c,d))=(a=c/\b=d):=Prod.mk.injEq a b c d
def zC{v12:Sort u}(a b:v12):cond true a b=a:=rfl
def zD{v12:Sort u}(a b:v12):cond false a b=b:=rfl
def zF(n:Nat):n<=n:=Nat.le_refl n
def zG{v12:Type u}{l:X v12}{i:Nat}{a:v12}:l[i]?=some a↔∃h:i<l.length,l[i]=a:=List.getElem?_eq_some_iff
def zH{v12:Type u}{a:v12}{i:Nat}{l:X v12}:(a::l)[i+1]?=l[i]?:=List.getElem?_cons_succ
def zI{v12:Type u}{a b:v12}{l:X v12}:a∈b::l↔a=b\/a∈l:=List.mem_cons
def zJ:type_of% @Result.andThen_ok:=@Result.andThen_ok
def zK:type_of% @Sem.run_bind:=@Sem.run_bind
def zL:type_of% @Sem.run_pure:=@Sem.run_pure
def zM:type_of% @Option.map_some:=@Option.map_some
def zN:type_of% @Nat.lt_succ_self:=@Nat.lt_succ_self
def zO:type_of% @List.length_cons:=@List.length_cons
def zQ:type_of% @List.map_cons:=@List.map_cons
def zS:type_of% @List.length_nil:=@List.length_nil
def zT:type_of% @List.append_assoc:=@List.append_assoc
def zU:type_of% @List.length_append:=@List.length_append
def zV:type_of% @Int.ofNat_zero:=@Int.ofNat_zero
def zW:type_of% @List.take_of_length_le:=@List.take_of_length_le
def zX:type_of% @List.mem_of_getElem?:=@List.mem_of_getElem?
def zY:type_of% @Nat.le_of_ble_eq_true:=@Nat.le_of_ble_eq_true
def zZ:type_of% @Int.toNat_natCast:=@Int.toNat_natCast
def yA:type_of% @List.length_map:=@List.length_map
def yB:type_of% @decide_false:=@decide_false
def yC:type_of% @decide_true:=@decide_true
def yD:type_of% @List.mem_append:=@List.mem_append
end Go
namespace Go.Rx
open Go.ChangeShapes Go.WideShapes Go.RowKit
def qim{H:Type}{enc:TypeId×Value->H}{P:DC}(hl:laidOutB P=true){W W':Nr}(hb:Below W.heap.size W W'){sp:Nat->PE}:
  ∀{ts:X TypeId}{vs:X Value}{ds:X (DataW H)}{ps:X MemPlace},(ts.all fun t=>P.readableRec t&&decide (t<P.types.size))=true->DataW.TrodAll enc P W 0 (fun _=>true) true ts vs ds ps-> (∀x∈ps,x.block<W.heap.size)->(∀x∈ps,sp x.block=true)->DataW.TrodAll enc P W' 0 sp true ts vs ds ps
 |[],_,_,_,_,h,_,_=>by obtain⟨rfl,rfl,rfl⟩:=trodAll_nil h;exact trodAll_mk0
 |t::ts,_,_,_,ht,h,aE,wU=>by obtain⟨v,db,d,JG,a,b,rfl,rfl,rfl,h1,h2⟩:=trodAll_cons h;simp only[List.all_cons,Bool.and_eq_true,decide_eq_true_eq]at ht;refine trodAll_cons_mk (WideElems.Trod_stays hl ht.1.1 ht.1.2 h1 (fun x hx=>hb.same (aE x (by simp[hx]))) (fun x hx=>wU x (by simp[hx]))) ?_;exact qim hl hb (by simpa using ht.2) h2 (fun x hx=>aE x (by simp[hx])) (fun x hx=>wU x (by simp[hx]))
def law_post{H:Type}{enc:TypeId×Value->H}{P:DC}{f:Func}{s:ChangeSpec}{apart fresh v14 again:PE}{W W':Nr}{args:Zu Value}{ds gs:X (DataW H)}{before:X MemPlace}{t:TypeId}
  (hW:DataW.Whole enc P f.params.toList s.vars apart W args.toList ds gs before) (hl:laidOutB P=true) (hts:(f.params.toList.all fun t=>P.readableRec t&&decide (t<P.types.size))=true) (hb:Below W.heap.size W W') (hv:s.vars=[]) (hr:f.resultTypes= #[t]) (ht:P.underlying t=some .bool) (fG:(s.fn H (ds++gs)).results=[.lit (.bool true)]) (hfa:(s.fn H (ds++gs)).args=ds) (hfv:(s.fn H (ds++gs)).vars=[]):
  s.post enc P f apart fresh v14 again W args (.bool true) W':=by
 have aE:=hW.lt;have oR:∀p∈before,(fun b=>decide (b<W.heap.size)) p.block=true:=fun p hp=>by simpa using aE p hp
 have hW':=hW;obtain⟨p,q,hA,hV,rfl,hz,hn⟩:=hW;rw[hv]at hV;obtain⟨rfl,rfl⟩:=trodVars_none hV;have xD:∀x∈p,x.block<W.heap.size:=fun x hx=>aE x (by simpa using hx);have cC:∀sp:Nat->PE,(∀x∈p,sp x.block=true)->DataW.TrodAll enc P W' 0 sp true f.params.toList args.toList ds p:=fun sp wU=>qim hl hb hts hA xD wU;have EA:∀(b:Nat)(sp:Nat->PE)(hd:PE),DataW.TrodAll enc P W' b sp hd f.resultTypes.toList ((Value.bool true).resultList f.resultTypes.size) [.lit (.bool true)] []:=fun b sp hd=>by rw[hr];exact trodAll_cons_mk (shut_bool ht _) trodAll_mk0
 have IE:∀(j:Nat)(t:TypeId)(r:Value),f.resultTypes[j]? = some t->((Value.bool true).resultList f.resultTypes.size)[j]? = some r->Value.okWide P W' .any 0 t r:=ok_one hr rfl (okWide_bool_mk ht _);have TL:∀sp:Nat->PE,DataW.TrodVars enc P W' sp s.vars (s.fn H (ds++[])).vars []:=fun sp=>by rw[hfv,hv];rfl
 refine⟨ds,[],p++[],[],p,[],hW',by rw[fG];exact EA _ _ _,by rw[hfa];exact cC _ (fun x hx=>oR x (by simp[hx])),TL _,hb.frame _,fun _=>?_⟩;refine⟨IE,_,_,([]++p)++[],⟨[]++p,[],trodAll_append (cC _ (fun _ _=>rfl)) (EA _ _ _),TL _,rfl,?_,?_⟩,?_⟩;intro b off hp;rw[hb.frozen (by exact xD _ (by simpa using hp))];exact hz b off (by simpa using hp);intro ha;simpa using hn ha;intro x hx _;simpa using hx
#print axioms law_post
end Go.Rx
