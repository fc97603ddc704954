import Derived.Carry
import Derived.ChangeSame
import Derived.OpenShut
set_option linter.all false
namespace Go
universe u v
theorem zA{α:Type u}(a b:α):(some a=some b)=(a=b):=Option.some.injEq a b
theorem zB{α:Type u}{β:Type v}(a:α)(b:β)(c:α)(d:β):((a,b)=(c,d))=(a=c/\b=d):=Prod.mk.injEq a b c d
theorem zC{α:Sort u}(a b:α):cond true a b=a:=rfl
theorem zD{α:Sort u}(a b:α):cond false a b=b:=rfl
theorem zF(n:Nat):n<=n:=Nat.le_refl n
theorem zG{α:Type u}{l:List α}{i:Nat}{a:α}:l[i]?=some a↔∃h:i<l.length,l[i]=a:=List.getElem?_eq_some_iff
theorem zH{α:Type u}{a:α}{i:Nat}{l:List α}:(a::l)[i+1]?=l[i]?:=List.getElem?_cons_succ
theorem zI{α:Type u}{a b:α}{l:List α}:a∈b::l↔a=b\/a∈l:=List.mem_cons
theorem zJ:type_of% @Result.andThen_ok:=@Result.andThen_ok
theorem zK:type_of% @Sem.run_bind:=@Sem.run_bind
theorem zL:type_of% @Sem.run_pure:=@Sem.run_pure
theorem zM:type_of% @Option.map_some:=@Option.map_some
theorem zN:type_of% @Nat.lt_succ_self:=@Nat.lt_succ_self
theorem zO:type_of% @List.length_cons:=@List.length_cons
theorem zQ:type_of% @List.map_cons:=@List.map_cons
theorem zS:type_of% @List.length_nil:=@List.length_nil
theorem zT:type_of% @List.append_assoc:=@List.append_assoc
theorem zU:type_of% @List.length_append:=@List.length_append
theorem zV:type_of% @Int.ofNat_zero:=@Int.ofNat_zero
theorem zW:type_of% @List.take_of_length_le:=@List.take_of_length_le
theorem zX:type_of% @List.mem_of_getElem?:=@List.mem_of_getElem?
theorem zY:type_of% @Nat.le_of_ble_eq_true:=@Nat.le_of_ble_eq_true
theorem zZ:type_of% @Int.toNat_natCast:=@Int.toNat_natCast
theorem yA:type_of% @List.length_map:=@List.length_map
theorem yB:type_of% @decide_false:=@decide_false
theorem yC:type_of% @decide_true:=@decide_true
theorem yD:type_of% @List.mem_append:=@List.mem_append
end Go
namespace Go.Rx
open Go.ChangeShapes Go.WideShapes Go.RowKit
theorem jh{H:Type}{enc:TypeId×Value->H}{P:Program}(hl:laidOutB P=true){W W':World}(hb:Below W.heap.size W W'){sp:Nat->Bool}:
  ∀{ts:List TypeId}{vs:List Value}{ds:List (DataW H)}{ps:List MemPlace},(ts.all fun t=>P.readableRec t&&decide (t<P.types.size))=true->DataW.TrodAll enc P W 0 (fun _=>true) true ts vs ds ps->
   (∀x∈ps,x.block<W.heap.size)->(∀x∈ps,sp x.block=true)->DataW.TrodAll enc P W' 0 sp true ts vs ds ps
 |[],_,_,_,_,h,_,_=>by obtain⟨rfl,rfl,rfl⟩:=trodAll_nil h;exact trodAll_mk0
 |t::ts,_,_,_,ht,h,hlt,hsp=>by obtain⟨v,Kz,d,zR,a,b,rfl,rfl,rfl,h1,h2⟩:=trodAll_cons h;simp only[List.all_cons,Bool.and_eq_true,decide_eq_true_eq]at ht;refine trodAll_cons_mk (WideElems.Trod_stays hl ht.1.1 ht.1.2 h1 (fun x hx=>hb.same (hlt x (by simp[hx]))) (fun x hx=>hsp x (by simp[hx]))) ?_;exact jh hl hb (by simpa using ht.2) h2 (fun x hx=>hlt x (by simp[hx])) (fun x hx=>hsp x (by simp[hx]))
theorem law_post{H:Type}{enc:TypeId×Value->H}{P:Program}{f:Func}{s:ChangeSpec}{apart fresh handsOn again:Bool}{W W':World}{args:Array Value}{ds gs:List (DataW H)}{before:List MemPlace}{t:TypeId}
  (hW:DataW.Whole enc P f.params.toList s.vars apart W args.toList ds gs before) (hl:laidOutB P=true) (hts:(f.params.toList.all fun t=>P.readableRec t&&decide (t<P.types.size))=true) (hb:Below W.heap.size W W')
  (hv:s.vars=[]) (hr:f.resultTypes= #[t]) (ht:P.underlying t=some .bool) (hfr:(s.fn H (ds++gs)).results=[.lit (.bool true)]) (hfa:(s.fn H (ds++gs)).args=ds) (hfv:(s.fn H (ds++gs)).vars=[]):
  s.post enc P f apart fresh handsOn again W args (.bool true) W':=by
 have hlt:=hW.lt;have hold:∀p∈before,(fun b=>decide (b<W.heap.size)) p.block=true:=fun p hp=>by simpa using hlt p hp
 have hW':=hW;obtain⟨p,q,hA,hV,rfl,hz,hn⟩:=hW;rw[hv]at hV;obtain⟨rfl,rfl⟩:=trodVars_none hV;have hlt':∀x∈p,x.block<W.heap.size:=fun x hx=>hlt x (by simpa using hx);have hargs:∀sp:Nat->Bool,(∀x∈p,sp x.block=true)->DataW.TrodAll enc P W' 0 sp true f.params.toList args.toList ds p:=fun sp hsp=>jh hl hb hts hA hlt' hsp;have hres:∀(b:Nat)(sp:Nat->Bool)(hd:Bool),DataW.TrodAll enc P W' b sp hd f.resultTypes.toList ((Value.bool true).resultList f.resultTypes.size) [.lit (.bool true)] []:=fun b sp hd=>by rw[hr];exact trodAll_cons_mk (shut_bool ht _) trodAll_mk0
 have hok:∀(j:Nat)(t:TypeId)(r:Value),f.resultTypes[j]? = some t->((Value.bool true).resultList f.resultTypes.size)[j]? = some r->Value.okWide P W' .any 0 t r:=ok_one hr rfl (okWide_bool_mk ht _);have hvars:∀sp:Nat->Bool,DataW.TrodVars enc P W' sp s.vars (s.fn H (ds++[])).vars []:=fun sp=>by rw[hfv,hv];rfl
 refine⟨ds,[],p++[],[],p,[],hW',by rw[hfr];exact hres _ _ _,by rw[hfa];exact hargs _ (fun x hx=>hold x (by simp[hx])),hvars _,hb.frame _,fun _=>?_⟩;refine⟨hok,_,_,([]++p)++[],⟨[]++p,[],trodAll_append (hargs _ (fun _ _=>rfl)) (hres _ _ _),hvars _,rfl,?_,?_⟩,?_⟩;intro b off hp;rw[hb.frozen (by exact hlt' _ (by simpa using hp))];exact hz b off (by simpa using hp);intro ha;simpa using hn ha;intro x hx _;simpa using hx
#print axioms law_post
end Go.Rx
