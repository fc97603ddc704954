import Derived.Carry
import Derived.ChangeSame
import Derived.OpenShut
set_option linter.all false
namespace Go
universe u v
theorem zA{X:Type u}(a b:X):(some a=some b)=(a=b):=Option.some.injEq a b
theorem zB{X:Type u}{H:Type v}(a:X)(b:H)(c:X)(d:H):((a,b)=(c,d))=(a=c/\b=d):=Prod.mk.injEq a b c d
theorem zC{X:Sort u}(a b:X):cond true a b=a:=rfl
theorem zD{X:Sort u}(a b:X):cond false a b=b:=rfl
theorem zF(n:Nat):n<=n:=Nat.le_refl n
theorem zG{X:Type u}{l:List X}{i:Nat}{a:X}:l[i]?=some a↔∃h:i<l.length,l[i]=a:=List.getElem?_eq_some_iff
theorem zH{X:Type u}{a:X}{i:Nat}{l:List X}:(a::l)[i+1]?=l[i]?:=List.getElem?_cons_succ
theorem zI{X:Type u}{a b:X}{l:List X}:a∈b::l↔a=b\/a∈l:=List.mem_cons
theorem zJ:type_of% @Result.andThen_ok:=@Result.andThen_ok
theorem zK:type_of% @Sem.run_bind:=@Sem.run_bind
theorem zL:type_of% @Sem.run_pure:=@Sem.run_pure
theorem zM:type_of% @Option.map_some:=@Option.map_some
theorem zN:type_of% @Nat.lt_succ_self:=@Nat.lt_succ_self
theorem zO:type_of% @List.length_cons:=@List.length_cons
theorem zQ:type_of% @List.map_cons:=@List.map_cons
theorem zS:type_of% @List.length_nil:=@List.length_nil
theorem zT:type_of% @List.append_assoc:=@List.append_assoc
theorem zU:type_of% @List.length_append:=@List.length_append
theorem zV:type_of% @Int.ofNat_zero:=@Int.ofNat_zero
theorem zW:type_of% @List.take_of_length_le:=@List.take_of_length_le
theorem zX:type_of% @List.mem_of_getElem?:=@List.mem_of_getElem?
theorem zY:type_of% @Nat.le_of_ble_eq_true:=@Nat.le_of_ble_eq_true
theorem zZ:type_of% @Int.toNat_natCast:=@Int.toNat_natCast
theorem yA:type_of% @List.length_map:=@List.length_map
theorem yB:type_of% @decide_false:=@decide_false
theorem yC:type_of% @decide_true:=@decide_true
theorem yD:type_of% @List.mem_append:=@List.mem_append
end Go
namespace Go.Rx
open Go.ChangeShapes Go.WideShapes Go.RowKit
theorem qk1{v06:Type}{enc:TypeId×Value->v06}{P:Program}(hl:laidOutB P=true){W W':World}(hb:Below W.heap.size W W'){sp:Nat->Bool}:
  ∀{ts:List TypeId}{vs:List Value}{ds:List (DataW v06)}{ps:List MemPlace},(ts.all fun t=>P.readableRec t&&decide (t<P.types.size))=true->DataW.TrodAll enc P W 0 (fun _=>true) true ts vs ds ps->
   (∀x∈ps,x.block<W.heap.size)->(∀x∈ps,sp x.block=true)->DataW.TrodAll enc P W' 0 sp true ts vs ds ps
 |[],_,_,_,_,h,_,_=>by obtain⟨rfl,rfl,rfl⟩:=trodAll_nil h;exact trodAll_mk0
 |t::ts,_,_,_,ht,h,aG,tE=>by obtain⟨v,C?,d,I8,a,b,rfl,rfl,rfl,h1,h2⟩:=trodAll_cons h;simp only[List.all_cons,Bool.and_eq_true,decide_eq_true_eq]at ht;refine trodAll_cons_mk (WideElems.Trod_stays hl ht.1.1 ht.1.2 h1 (fun x hx=>hb.same (aG x (by simp[hx]))) (fun x hx=>tE x (by simp[hx]))) ?_;exact qk1 hl hb (by simpa using ht.2) h2 (fun x hx=>aG x (by simp[hx])) (fun x hx=>tE x (by simp[hx]))
theorem law_post{v06:Type}{enc:TypeId×Value->v06}{P:Program}{f:Func}{s:ChangeSpec}{apart fresh ND again:Bool}{W W':World}{args:Array Value}{ds gs:List (DataW v06)}{before:List MemPlace}{t:TypeId}
  (hW:DataW.Whole enc P f.params.toList s.vars apart W args.toList ds gs before) (hl:laidOutB P=true) (hts:(f.params.toList.all fun t=>P.readableRec t&&decide (t<P.types.size))=true) (hb:Below W.heap.size W W')
  (hv:s.vars=[]) (hr:f.resultTypes= #[t]) (ht:P.underlying t=some .bool) (m9:(s.fn v06 (ds++gs)).results=[.lit (.bool true)]) (Rd:(s.fn v06 (ds++gs)).args=ds) (hfv:(s.fn v06 (ds++gs)).vars=[]):
  s.post enc P f apart fresh ND again W args (.bool true) W':=by
 have aG:=hW.lt;have mN:∀p∈before,(fun b=>decide (b<W.heap.size)) p.block=true:=fun p hp=>by simpa using aG p hp
 have fy:=hW;obtain⟨p,q,hA,hV,rfl,hz,hn⟩:=hW;rw[hv]at hV;obtain⟨rfl,rfl⟩:=trodVars_none hV;have uS:∀x∈p,x.block<W.heap.size:=fun x hx=>aG x (by simpa using hx);have d9:∀sp:Nat->Bool,(∀x∈p,sp x.block=true)->DataW.TrodAll enc P W' 0 sp true f.params.toList args.toList ds p:=fun sp tE=>qk1 hl hb hts hA uS tE;have kD:∀(b:Nat)(sp:Nat->Bool)(hd:Bool),DataW.TrodAll enc P W' b sp hd f.resultTypes.toList ((Value.bool true).resultList f.resultTypes.size) [.lit (.bool true)] []:=fun b sp hd=>by rw[hr];exact trodAll_cons_mk (shut_bool ht _) trodAll_mk0
 have EW:∀(j:Nat)(t:TypeId)(r:Value),f.resultTypes[j]? = some t->((Value.bool true).resultList f.resultTypes.size)[j]? = some r->Value.okWide P W' .any 0 t r:=ok_one hr rfl (okWide_bool_mk ht _);have QV:∀sp:Nat->Bool,DataW.TrodVars enc P W' sp s.vars (s.fn v06 (ds++[])).vars []:=fun sp=>by rw[hfv,hv];rfl
 refine⟨ds,[],p++[],[],p,[],fy,by rw[m9];exact kD _ _ _,by rw[Rd];exact d9 _ (fun x hx=>mN x (by simp[hx])),QV _,hb.frame _,fun _=>?_⟩;refine⟨EW,_,_,([]++p)++[],⟨[]++p,[],trodAll_append (d9 _ (fun _ _=>rfl)) (kD _ _ _),QV _,rfl,?_,?_⟩,?_⟩;intro b off hp;rw[hb.frozen (by exact uS _ (by simpa using hp))];exact hz b off (by simpa using hp);intro ha;simpa using hn ha;intro x hx _;simpa using hx
#print axioms law_post
end Go.Rx
