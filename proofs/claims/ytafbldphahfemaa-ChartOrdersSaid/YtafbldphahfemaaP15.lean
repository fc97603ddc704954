/-
  Texts of the walk: MpL MpM MpP.
-/
import Derived.Shelf.SlSortCmp.Kit1
import Derived.Test.YtafbldphahfemaaP14
section
namespace Go.Vx
open Go Go.Rx Go.Proofs Go.Sort Go.Shelf
set_option linter.unusedVariables false
set_option linter.unusedSimpArgs false
def one1 {α:Type} (enc:α→Value) (x:α):List Value:=[enc x]
theorem cell_one {α:Type} [Inhabited α] (enc:α→Value) (d:Array α) (t:Nat) (h:t<d.size):(flatK (one1 enc) 1 d)[t]! = enc d[t]!:=by
 rw [get_flatK _ _ _ _ (by omega)]
 simp [one1,Nat.mod_one]
theorem putRow_one {α:Type} [Inhabited α] (enc:α→Value) (w:World) (blk off:Nat) (d:Array α):putRowK (one1 enc) 1 w blk off d=putRow enc w blk off d:=by
 unfold putRowK putRow
 have:putCells id off (flatK (one1 enc) 1 d)=putCells enc off d:=by
  funext c
  unfold putCells
  congr 1
  funext t x
  simp only [size_flatK,Nat.mul_one]
  split
  ·rename_i h
   rw [id,cell_one enc d (t - off) (by omega)]
  ·rfl
 rw [this]
theorem qa2 {α:Type} [Inhabited α] (enc:α→Value) (w:World) (blk off n:Nat) (d:Array α) (os:Array Obj):sortWorldK (one1 enc) 1 w blk off n d os=sortWorld enc w blk off n d os:=by
 unfold sortWorldK sortWorld
 rw [putRow_one]
theorem holds_one {α:Type} [Inhabited α] {enc:α→Value} {w:World} {blk off:Nat} {d:Array α} (h:HoldsK (one1 enc) 1 w blk off d):Holds enc w blk off d:=fun j hj=>by
 have:=h j (by rw [size_flatK]; omega)
 rw [id,cell_one enc d j hj] at this
 exact this
def SortOne (P:Program) (f g:FuncId):Prop:=∀ (α:Type) [Inhabited α] (enc:α→Value) (cf:α→α→Int),(∀ x,(enc x).oneCell'=true)→SWO (ltOf cf) →
 ∀ (cb:Array Value) (blk off cap:Nat) (d:Array α) (w:World),CmpLays1 P g cb enc cf blk off d.size w→Holds enc w blk off d→blk<w.heap.size→d.size<4611686018427387904 →
  Calls P f #[.slice (some ⟨blk,off,none⟩) d.size cap,.func (.func g) #[] cb] w fun e w'=>e = .returned (.tuple #[])∧∃ d' n os,PermIn 0 d.size d d'∧SortedIn (ltOf cf) 0 d.size d'∧w'=sortWorld enc w blk off n d' os
end Go.Vx
end
section
namespace Go.Vx
open Go Go.Rx Go.Proofs Go.Sort Go.Shelf
set_option linter.unusedVariables false
set_option linter.unusedSimpArgs false
theorem sortO_some {A:Type} {eq:A→A→Bool} {f:A→A→Option Int} {ds ys:List A} (h:sortO eq f ds=some ys):ds.length≤1000000∧okSort eq f ds=true∧ys=srt (fLt f) ds:=by
 unfold sortO at h
 cases hc:(Nat.ble ds.length 1000000&&okSort eq f ds) with
 | false=>rw [hc] at h; cases h
 | true =>
  rw [hc] at h
  rw [Bool.and_eq_true,Nat.ble_eq] at hc
  exact ⟨hc.1,hc.2,(Option.some.inj h).symm⟩
theorem ug_gt:∀ {h:List (Nat×B)} {K:Nat} {b:B},gt h K=some b→ug h K b=h
 | [],K,b,hb=>by simp [gt] at hb
 | (j,c)::h,K,b,hb=>by
  simp only [gt,ug,beq_eq] at hb ⊢
  by_cases e:j=K
  ·simp [e] at hb; simp [e,hb]
  ·simp only [e,decide_false,cond_false] at hb ⊢
   rw [ug_gt hb]
end Go.Vx
end
section
namespace Go.Vx
open Go Go.Rx Go.Proofs Go.Sort Go.Shelf
set_option linter.unusedVariables false
set_option linter.unusedSimpArgs false
theorem EvU.sortRC1 {A:Type} {P:Program} {f g:FuncId} {encU1:A→U} (hok1:∀ a,okC (encU1 a)=true) (hbl1:∀ a,Bel 0 (encU1 a)) {cs:List U} (hcs:BelL 0 cs) {f1:A→A→Option Int} (hs:SortOne P f g)
  (ds:List A) (hO:OkS f1 (· ∈ ds)) (hcmp:∀ a b r,f1 a b=some r→EvU P g (encU1 a::encU1 b::cs) ⟨[],0⟩ (fun u _=>u = .int .i64 r))
  {σ:Sg} {K:Nat} {e:TypeId} (hne:ds≠[]) (hlen:ds.length<4611686018427387904) (hg:gt σ.h K=some (.row ((ds.map fun a=>[encU1 a]).flatten) e)) :
  EvU P f [.sl K 0 ds.length ds.length,.fn (.func g) [] cs] σ (fun u σ'=>u = .tup []∧σ'=⟨ug σ.h K (.row (((srt (fLt f1) ds).map fun a=>[encU1 a]).flatten) e),σ.nx⟩):=fun F x vs m w cargs hx hh hfr he hfit hargs=>by
 obtain ⟨encU,hencU⟩:∃ encU:A→List U,encU=fun a=>[encU1 a]:=⟨_,rfl⟩
 obtain ⟨k,hk1⟩:∃ k:Nat,k=1:=⟨_,rfl⟩
 have hk:∀ a,(encU a).length=k:=fun a=>by rw [hencU,hk1]; rfl
 have hk0:0<k:=by omega
 have hok:∀ a,okL (encU a)=true:=fun a=>by rw [hencU]; simp [okL,hok1 a]
 have hbl:∀ a,BelL 0 (encU a):=fun a=>by rw [hencU]; simp only [BelL]; exact ⟨hbl1 a,trivial⟩
 have hee:∀ a,encU a=[encU1 a]:=fun a=>by rw [hencU]
 rw [← hencU] at hg
 rw [← hencU]
 subst hx
 obtain ⟨v0,vs0,rfl,h0,he⟩:=he.inv
 obtain ⟨v1,vs1,rfl,h1,he⟩:=he.inv
 have:=he.nil_inv
 subst this
 simp only [Rel] at h0 h1
 obtain ⟨va,vb,rfl,_,hva,hvbP,hvb⟩:=h1
 have hva':va=[]:=by cases va with
  | nil=>rfl
  | cons=>simp at hva
 subst hva'
 have hvE:RelE x cs vb:=⟨hvbP,hvb⟩
 have hvr:∀ m',Agree x.s.nx m m'→renL m' vb=renL m vb:=fun m' ha=>by
  have h1:=hargs m' ha
  have h2:=hargs m (Agree.refl _ _)
  rw [← h2] at h1
  simp only [renL,ren,renA,List.cons.injEq,Value.func.injEq,Array.mk.injEq,and_true,true_and] at h1
  exact h1.2
 obtain ⟨_,hK,h0⟩:=h0
 obtain ⟨i0,hρ0,rfl,hcb,_⟩:=(h0 _ hg).2 rfl
 obtain ⟨hokr,i,l',hρ,hlk,hE⟩:=(hh.ok K _ hg).2
 have hii:i=i0:=by rw [hρ] at hρ0; exact Option.some.inj hρ0
 subst hii
 have hfit0:=hfit m (Agree.refl _ _)
 have hinx:=hh.bd i _ hlk
 obtain ⟨hsh,hheap0⟩:=(hfit0.ok i _ hlk:RowOk m i _ e w 0)
 obtain ⟨pre,hpre0⟩:∃ p:List Value,p=[]:=⟨_,rfl⟩
 obtain ⟨rest,hrest0⟩:∃ p:List Value,p=[]:=⟨_,rfl⟩
 have hheap:w.heap[m.blk i]? = some (.cells (pre++renL m l'++rest).toArray e (0,0)):=by rw [hpre0,hrest0]; simpa using hheap0
 have hpre:pre.length=m.sh i:=by rw [hpre0,hsh]; rfl
 have hcargs:=hargs.at
 simp only [renL,ren,renA] at hcargs
 subst hcargs
 have hblk:m.blk i<w.heap.size:=hfit0.size hlk
 have hag:∀ m',Agree x.s.nx m m'→renL m' l'=renL m l':=fun m' ha=>by
  obtain ⟨a1,a2,a3⟩:=ha i hinx
  obtain ⟨_,hheap'⟩:=((hfit m' ha).ok i _ hlk:RowOk m' i _ e w 0)
  rw [a1,hheap0] at hheap'
  simp only [Option.some.injEq,Obj.cells.injEq,and_true] at hheap'
  have h1:=congrArg Array.toList hheap'
  exact h1.symm
 obtain ⟨ps,hps1,hps2⟩:=el_split hk ds l' (fun a h=>h) hE hag
 have hpl:ps.length=ds.length:=by have h:=congrArg List.length hps1; simpa using h
 have hpne:ps≠[]:=fun h=>by rw [h] at hpl; exact hne (List.length_eq_zero_iff.1 hpl.symm)
 let p0:El encU k x m ds:=ps.head hpne
 letI:Inhabited (El encU k x m ds):=⟨p0⟩
 have hp1:∀ p:El encU k x m ds,∃ v,p.sv=[v]∧Rel x (encU1 p.a) v:=fun p=>by
  have h1:RelE x [encU1 p.a] p.sv:=by
   have h0:=p.rel
   rw [hee] at h0
   exact h0
  obtain ⟨v,vs,h2,h3,h4⟩:=h1.inv
  have:=h4.nil_inv
  subst this
  exact ⟨v,h2,h3⟩
 let enc1:El encU k x m ds→Value:=fun p=>ren m (p.sv.headD default)
 let enc:El encU k x m ds→List Value:=fun p=>renL m p.sv
 have he1:enc=one1 enc1:=by
  funext p
  obtain ⟨v,h1,_⟩:=hp1 p
  simp [enc,one1,enc1,h1,renL]
 let cg:El encU k x m ds→El encU k x m ds→Int:=fun p q=>(f1 p.a q.a).getD 0
 have hek:∀ p,(enc p).length=k:=fun p=>by simp only [enc,q1j,List.length_map,p.len]
 have hone:∀ p,∀ v∈enc p,v.oneCell'=true:=fun p v hv=>by
  simp only [enc,q1j,List.mem_map] at hv
  obtain ⟨v',hv',rfl⟩:=hv
  obtain ⟨j,hj⟩:=List.getElem?_of_mem hv'
  have hjl:j<(encU p.a).length:=by rw [p.rel.2]; exact (List.getElem?_eq_some_iff.1 hj).1
  obtain ⟨v2,h1,h2⟩:=p.rel.get (List.getElem?_eq_getElem hjl)
  rw [hj] at h1; cases h1
  exact one_rel ((q7e _).1 (hok p.a) _ (List.getElem_mem hjl)) h2
 have hrl:renL m l'=(ps.map enc).flatten:=by rw [← hps2]; exact el_ren (Agree.refl _ _) ps
 rw [hrl] at hheap
 have hholds:HoldsK enc k w (m.blk i) (m.sh i+0) ps.toArray:=holdsK_of hek hk0 hheap (by omega)
 have hlays:CmpLays1 P g (renL m vb).toArray enc1 cg (m.blk i) (m.sh i+0) ps.toArray.size w:=fun n os dk hdk p q=>by
  rw [← qa2,← he1,← hk1]
  obtain ⟨vp,hvp,rvp⟩:=hp1 p
  obtain ⟨vq,hvq,rvq⟩:=hp1 q
  obtain ⟨z,hz⟩:=hO.some p.a q.a p.mem q.mem
  have hcz:cg p q=z:=by simp [cg,hz]
  rw [hcz]
  have hin:=EvU.cmpI (hcmp p.a q.a z hz) (by simp only [BelL]; exact ⟨hbl1 _,hbl1 _,hcs⟩) hh (vs:=vp::vq::vb) (cargs:=enc1 p::enc1 q::renL m vb) (m:=m)
   (RelE.cons rvp (RelE.cons rvq hvE))
   (fun m' ha=>by
    have a1:=p.ren m' ha
    have a2:=q.ren m' ha
    rw [hvp] at a1
    rw [hvq] at a2
    simp only [renL,List.cons.injEq,and_true] at a1 a2
    simp only [renL,enc1,hvp,hvq,List.headD,a1,a2,hvr m' ha])
   (w:=sortWorldK enc k w (m.blk i) (m.sh i+0) n dk os) (fun m' ha=>by
    have ha':Agree x.s.nx m m':=ha
    have hf':=hfit m' ha'
    refine ⟨fun j b hj=>?_,fun j j' b c hj hj' hne ho=>?_,fun j b hj=>?_⟩
    ·rw [q48] at hj
     obtain ⟨hj,l2,e2,rfl⟩:=q4i hj
     refine (hf'.ok j _ hj).world ?_
     have hne:m'.blk j≠m.blk i:=fun hc=>by
      have hij:i≠j:=fun h=>by subst h; rw [hlk] at hj; cases hj
      have:=hf'.inj i j _ _ hlk hj hij rfl
      rw [(ha' i hinx).1] at this
      exact this hc.symm
     have hsz:=hf'.size hj
     unfold sortWorldK putRowK putRow mapBlock
     simp only [Sort.grow]
     rw [Array.getElem?_append_left (by simpa [Sort.ahead] using hsz)]
     simp only [Array.getElem?_modify,Sort.ahead]
     rw [if_neg (Ne.symm hne)]
    ·rw [q48] at hj
     obtain ⟨_,l2,e2,rfl⟩:=q4i hj
     simp [Own] at ho
    ·rw [q48] at hj
     exact hh.bd j b (q4i hj).1)
  simpa using hin
 have hone1:∀ p,(enc1 p).oneCell'=true:=fun p=>hone p _ (by rw [he1]; simp [one1])
 have hc:=hs (El encU k x m ds) enc1 cg hone1 (hO.swo (fun p:El encU k x m ds=>p.a) fun p=>p.mem) (renL m vb).toArray (m.blk i) (m.sh i+0) (capOf m i ds.length) ps.toArray w hlays (holds_one (by rw [← he1,← hk1]; exact hholds)) hblk (by simpa [hpl] using hlen)
 simp only [List.size_toArray,hpl] at hc
 refine (show Calls P f _ w _ from hc).mono ?_
 rintro e1 w' ⟨rfl,d',n,os,hperm,hsorted,rfl⟩
 rw [← qa2,← he1,← hk1]
 obtain ⟨ps',rfl⟩:∃ ps':List (El encU k x m ds),d'=ps'.toArray:=⟨d'.toList,by simp⟩
 have hsz':ps'.length=ps.length:=by have:=hperm.1; simpa using this
 have hsrt:ps'.map (fun p=>p.a)=srt (fLt f1) ds:=by
  have hp:ps'.Perm ps:=by
   have h3:=hperm.2.2
   have e1:(ps'.toArray.extract 0 ds.length).toList=ps':=by simp [← hpl,← hsz']
   have e2:(ps.toArray.extract 0 ds.length).toList=ps:=by simp [← hpl]
   rwa [e1,e2] at h3
  refine qbr hO (fun y hy=>?_) ?_ (srt_ascM hO ds fun y hy=>hy) (((hp.map _).trans (List.Perm.of_eq hps1)).trans (qa3 _ ds).symm)
  ·obtain ⟨p,_,rfl⟩:=List.mem_map.1 hy; exact p.mem
  unfold Asc
  rw [List.pairwise_iff_getElem]
  intro a b ha hb hab
  simp only [List.length_map] at ha hb
  have:=hsorted a b (Nat.zero_le _) hab (by omega)
  simpa [ha,hb,cg,ltOf,fLt] using this
 have hll:((ps'.map enc).flatten).length=((ps.map enc).flatten).length:=by rw [q9o hek,q9o hek,hsz']
 have hll2:((ps'.map fun p=>p.sv).flatten).length=l'.length:=by
  have h1:∀ qs:List (El encU k x m ds),((qs.map fun p=>p.sv).flatten).length=qs.length*k:=fun qs=>q9o (enc:=fun p:El encU k x m ds=>p.sv) (fun p=>p.len) qs
  rw [h1,hsz',← h1,hps2]
 have hrow:(putRowK enc k (Sort.ahead w n) (m.blk i) (m.sh i+0) ps'.toArray).heap[m.blk i]? = some (.cells (pre++(ps'.map enc).flatten++rest).toArray e (0,0)):=by
  unfold putRowK putRow mapBlock
  rw [flatK_eq hek hk0]
  simp only [Array.getElem?_modify,if_true,Sort.ahead,hheap,Option.map_some,onCells]
  rw [show m.sh i+0=pre.length by omega,putCells_mid _ _ _ _ hll]
 have hadv1:Adv m x.s w m ⟨up x.s.h i (.inl ((ps'.map fun p=>p.sv).flatten,e,0)),x.s.nx⟩ (putRowK enc k (Sort.ahead w n) (m.blk i) (m.sh i+0) ps'.toArray):=by
  refine Adv.write hfit hlk rfl (fun j hj=>?_) (by simp [putRowK,putRow,mapBlock,Sort.ahead]) rfl rfl rfl (Nat.le_add_right _ _) fun m' ha=>?_
  ·unfold putRowK putRow mapBlock
   simp only [Array.getElem?_modify,Sort.ahead]
   rw [if_neg (Ne.symm hj)]
  ·obtain ⟨a1,a2,a3⟩:=ha i hinx
   refine ⟨by rw [a2]; exact hsh,?_⟩
   rw [a1,el_ren ha,hrow,hpre0,hrest0]
   simp only [List.nil_append,List.append_nil]
   rfl
 have hout:=q8r (c:=.inl ((ps'.map fun p=>p.sv).flatten,e,0)) (bK:=.row (((srt (fLt f1) ds).map encU).flatten) e) hh hg hρ hlk rfl (by rintro l e sz st h; cases h) fun y h1 h2 hm=>⟨okL_flat hok _,i,_,h1,h2,by
  rw [← hsrt]
  exact hm.ke.E (el_rel ps').bel (el_rel ps')⟩
 refine ⟨_,m,.tup [],.tuple #[],.tuple #[],rfl,⟨rfl,rfl⟩,hadv1.trans (adv_grow hadv1.fits os),fun m' _=>by simp [ren,renA,renL],hout.h,hout.fr F hfr,by simp [Rel,RelP],hout.mo.ke,Nat.le_refl _⟩
theorem sort_nilR {P:Program} {f g:FuncId} {cs:List U} (hcs:BelL 0 cs) (hnil:EvU P f [.isl false [],.fn (.func g) [] cs] ⟨[],0⟩ (fun u _=>u = .tup []∧Bel 0 u)) (σ:Sg) {K:Nat} {e:TypeId} (hg:gt σ.h K=some (.row [] e)) :
  EvU P f [.sl K 0 0 0,.fn (.func g) [] cs] σ (fun u σ'=>u = .tup []∧σ'=⟨ug σ.h K (.row [] e),σ.nx⟩):=by
 have h1:=EvU.view0 (args':=[.sl K 0 0 0,.fn (.func g) [] cs]) (σ:=σ) hnil (by simp only [BelL,Bel,BelR,true_and,and_true]; exact hcs) (Gh.trans (Gh.fz K (.row [] e) 1 hg (by simp) rfl rfl) (Gh.eqv (by
  simp only [q0o,q11,q3o,q1o _ _ cs (BelL.le (Nat.zero_le K) cs hcs)]
  have:=fz_rl (c:=fun _:Unit=>[U.nils]) (sz:=1) (fun _=>rfl) (xs:=([]:List Unit)) (m:=0) rfl K e
  simpa using this) rfl))
 refine h1.mono ?_
 rintro u σ' ⟨rfl,rfl⟩
 exact ⟨rfl,by rw [ug_gt hg]⟩
theorem sortO_okR1 {A:Type} {P:Program} {f g:FuncId} {encU1:A→U} (hok:∀ a,okC (encU1 a)=true) (hbl:∀ a,Bel 0 (encU1 a)) {cs:List U} (hcs:BelL 0 cs) (hs:SortOne P f g) {eq:A→A→Bool} (heq:∀ x y,eq x y=true→x=y)
  (hnil:EvU P f [.isl false [],.fn (.func g) [] cs] ⟨[],0⟩ (fun u _=>u = .tup []∧Bel 0 u)) {f1:A→A→Option Int} (hcmp:∀ a b r,f1 a b=some r→EvU P g (encU1 a::encU1 b::cs) ⟨[],0⟩ (fun u _=>u = .int .i64 r∧Bel 0 u))
  (xs ys:List A) (h:sortO eq f1 xs=some ys) (σ:Sg) {K n:Nat} {e:TypeId} (hn:n=xs.length) (hK:Nat.blt K σ.nx=true) (hg:gt σ.h K=some (.row (xs.map fun a=>[encU1 a]).flatten e)) :
  EvU P f [.sl K 0 n n,.fn (.func g) [] cs] σ (fun u σ'=>u = .tup []∧σ'=⟨ug σ.h K (.row (ys.map fun a=>[encU1 a]).flatten e),σ.nx⟩):=by
 subst hn
 obtain ⟨h1,h2,rfl⟩:=sortO_some h
 by_cases hne:xs=[]
 ·subst hne
  exact sort_nilR hcs hnil σ hg
 ·exact EvU.sortRC1 hok hbl hcs hs xs (okSort_iff heq h2) (fun a b r h=>(hcmp a b r h).mono fun u s h=>h.1) hne (by omega) hg
end Go.Vx
end
