import Derived.Shelf.Spec.SlicesInsert
import Derived.Shelf.Spec.SlicesInsertGrow
import Derived.Shelf.RegionOpenPlain
import Derived.WalkKit
import Derived.Lib.Walk
import Derived.Lib.SliceRun
import Derived.Lib.JoinLaws
import Derived.Lib.AppendZeros
import Derived.Lib.Overlaps
import Derived.Laws.Externs
import Derived.Laws.IdiomCopy
import Derived.Test.YtldlchbgolpkaaaGreatP15
set_option linter.all false
namespace Go.Proofs
open Go.Shelf Go.RowKit Go.Lib
theorem Xu{P:Program}(w:World)(dT sT ty ZL:TypeId)(k:Nat)(b o dLen dCap:Nat)(a:Addr)(sLen sCap:Nat)(cs:List Value)
  (hu:P.underlying dT=some (.slice ZL)) (hs:(P.info? ZL).map (·.size)=some k) (hn:cs.length=Nat.min sLen dLen*k)
  (qQ:∀j v,cs[j]? = some v->w.cell? (a.add j)=some v) (hc:∀j,j<cs.length->(w.cell? ⟨b,o+j,none⟩).isSome=true) (hf:∀j,j<cs.length->w.frozen? ⟨b,o+j,none⟩=false) (h1:∀v∈cs,v.oneCell'=true):
  (Builtin.copy_ #[dT,sT] ty #[.slice (some ⟨b,o,none⟩) dLen dCap,.slice (some a) sLen sCap]).run P w=.ok (goInt (Nat.min sLen dLen)) (w.setCells b o cs):=by
 have hl:=run_loadCells_list (P:=P) w a cs qQ;have c8:=run_storeCells_cells (P:=P) b o cs 0 w (by simpa using hc) (by simpa using hf) h1;rcases hq:P.info? ZL with _|i;simp[hq]at hs;have hi:i.size=k:=by simpa[hq]using hs
 simp[Builtin.copy_,run_underlying hu,Builtin.lenOf,Builtin.firstCells,sizeOf,typeInfo,hq,hi,<-hn,hl,c8]
set_option maxHeartbeats 4000000 in
set_option maxRecDepth 100000 in
theorem qzv(b off n c i vb:Nat)(cs vs:List Value)(w:World)(hi:i<n)(bI:n+1<=c)(hc63:n<4611686018427387904)(hvb:vb≠b)
  (fF:cs.length=n*2) (sZ:vs.length=2)
  (u7:∀j v,cs[j]? = some v->w.cell? ⟨b,off+j,none⟩=some v) (tE:∀j,j<(n+1)*2->(w.cell? ⟨b,off+j,none⟩).isSome=true) (Ra:∀j,j<(n+1)*2->w.frozen? ⟨b,off+j,none⟩=false)
  (yZ:∀j v,vs[j]? = some v->w.cell? ⟨vb,j,none⟩=some v) (Fv:∀v∈cs,v.oneCell'=true) (iv:∀v∈vs,v.oneCell'=true)
  (tA tB:TypeId) (kA kB:Nat) (hsa:w.shape? vb=some (tA,kA)) (hsb:w.shape? b=some (tB,kB)) (hkB:kB≠0) (Rd:w.frozen? ⟨vb,0,none⟩=false) (hfe:w.frozen? ⟨vb,kA,none⟩=false):
  Calls Tryz.prog 77 #[.slice (some ⟨b,off,none⟩) n c,.int .i64 i,.slice (some ⟨vb,0,none⟩) 1 1] w fun e w'=>e=.returned (.slice (some ⟨b,off,none⟩) (n+1) c)/\w'=(w.drew.setCells b (off+(i+1)*2) (cs.drop (i*2))).setCells b (off+i*2) vs:=by
 have ti:¬ ((i:Int)=(n:Int)):=by omega
 have dS:(Tryz.prog.info? 98).map (·.size)=some 2:=by kernel_rfl
 have th:∀w,(sizeOf 98).run Tryz.prog w=.ok 2 w:=fun w=>by
  have h0:∃q,Tryz.prog.info? 98=some q/\q.size=2:=by rcases hq:Tryz.prog.info? 98 with _|q;rw[hq]at dS;cases dS;rw[hq]at dS;exact⟨q,rfl,by simpa using dS⟩
  obtain⟨q,h1,h2⟩:=h0;simp[sizeOf,typeInfo,h1,h2]
 have hov:∀lb cb,(callFunc 109 #[.slice (some ⟨vb,0,none⟩) 1 1,.slice (some ⟨b,off+(i+1)*2,none⟩) lb cb]).run Tryz.prog w=.ok (.value (.bool false)) w:=fun lb cb=>by
  rw[run_callFunc_extern Tryz.func109 (by kernel_rfl) (by kernel_rfl) (by kernel_rfl) (e:=Extern.SlicesOverlaps.overlaps #[76,76] #[4]) (by kernel_rfl),
   Lib.run_overlaps_apart w 76 4 98 Tryz.underlying76 2 th ⟨vb,0,none⟩ ⟨b,off+(i+1)*2,none⟩ 1 1 lb cb hvb tA tB kA kB hsa hsb hkB Rd hfe]
  rfl
 have HF:(cs.drop (i*2)).length=(n-i)*2:=by rw[List.length_drop,fF];omega
 have xw:IntKind.i64.wrap ((i:Int)+1)=(i:Int)+1:=by rw[IntKind.wrap_i64];omega
 have y7:(0:Int)<=(i:Int)+1:=by omega
 have i9:i<=n:=by omega
 have htn:((i:Int)+1).toNat=i+1:=by omega
 have sH:¬ (c=i+1):=by omega
 have hb3:(i:Int)<=(n:Int)+1:=by omega
 have hb4:¬ (c=i):=by omega
 have Rk:∀ty dc sc,(Builtin.copy_ #[76,76] ty #[.slice (some ⟨b,off+(i+1)*2,none⟩) (n-i) dc,.slice (some ⟨b,off+i*2,none⟩) (n+1-i) sc]).run Tryz.prog w.drew=.ok (goInt ((n-i:Nat):Int)) (w.drew.setCells b (off+(i+1)*2) (cs.drop (i*2))):=fun ty dc sc=>by
  have oH:Nat.min (n+1-i) (n-i)=n-i:=by simp only[Nat.min_def];split<;>omega
  have:=Xu w.drew 76 76 ty 98 2 b (off+(i+1)*2) (n-i) dc ⟨b,off+i*2,none⟩ (n+1-i) sc (cs.drop (i*2)) Tryz.underlying76 dS (by rw[HF,oH])
   (fun j v hj=>by rw[Addr.add_lit,Nat.add_assoc];exact u7 (i*2+j) v (by rwa [List.getElem?_drop]at hj))
   (fun j hj=>by rw[Nat.add_assoc];exact tE _ (by omega)) (fun j hj=>by rw[Nat.add_assoc];exact Ra _ (by omega)) (fun v hv=>Fv v (List.mem_of_mem_drop hv))
  rw[oH]at this;exact this
 obtain⟨W1,EY⟩:∃W1,W1=w.drew.setCells b (off+(i+1)*2) (cs.drop (i*2)):=⟨_,rfl⟩;have I':∀k,k<(n+1)*2->(W1.cell? ⟨b,off+k,none⟩).isSome=true:=fun k hk=>by rw[EY];exact isSome_setCells b _ _ _ (fun j hj=>by rw[Nat.add_assoc];exact tE _ (by omega)) _ (tE k hk)
 have ff:∀(W:World),(∀x,W.cell? x=W1.cell? x)->(∀x,W.frozen? x=W1.frozen? x)->∀ty dc,(Builtin.copy_ #[76,76] ty #[.slice (some ⟨b,off+i*2,none⟩) (n+1-i) dc,.slice (some ⟨vb,0,none⟩) 1 1]).run Tryz.prog W=.ok (goInt 1) (W.setCells b (off+i*2) vs):=fun W R9 Rv ty dc=>by
  have oH:Nat.min 1 (n+1-i)=1:=by simp only[Nat.min_def];split<;>omega
  have:=Xu W 76 76 ty 98 2 b (off+i*2) (n+1-i) dc ⟨vb,0,none⟩ 1 1 vs Tryz.underlying76 dS (by rw[sZ,oH])
   (fun j v hj=>by rw[Addr.add_lit,R9,EY,World.cell?_setCells_out b _ _ _ _ (fun h _=>absurd h hvb)];simpa using yZ j v hj)
   (fun j hj=>by rw[R9,Nat.add_assoc];exact I' _ (by omega)) (fun j hj=>by rw[Rv,EY,World.frozen?_setCells,Nat.add_assoc];exact Ra _ (by omega)) iv
  rw[oH]at this;exact this
 rw[<-EY]at Rk;have mixed:Tryz.prog.follows .mixedOrders=true:=by kernel_rfl
 go_enter Tryz.func77,Tryz.ntmps77
 go_wp2_with (simp only[hov])
 go_region_law_o (refine step_copy_runI rfl _ _ 76 76 rfl _ _ (by simp[Act.eval,Act.put]) (by simp[Act.eval,Act.put]) (Rk _ _ _) ?_)
 go_wp2_with (at_builtin;refine wpList_copy_runI _ rfl _ _ 76 76 rfl _ _ rfl rfl (ff _ (fun _=>rfl) (fun _=>rfl) _ _) ?_)
 go_ret
 first |exact⟨rfl,rfl⟩|exact⟨rfl,by rw[EY]⟩
def CE:Value:=.agg #[.int .i64 0,.int .i64 0]
set_option maxHeartbeats 4000000 in
set_option maxRecDepth 100000 in
theorem z3r(b off n c i vb:Nat)(cs vs:List Value)(w:World)(hi:i<n)(tF:n<=c)(bI:c<n+1)(uW:(n+1)*16<=140737488355328)(fF:cs.length=n*2)(sZ:vs.length=2)
  (u7:∀j v,cs[j]? = some v->w.cell? ⟨b,off+j,none⟩=some v) (yZ:∀j v,vs[j]? = some v->w.cell? ⟨vb,j,none⟩=some v) (Fv:∀v∈cs,v.oneCell'=true) (iv:∀v∈vs,v.oneCell'=true):
  Calls Tryz.prog 77 #[.slice (some ⟨b,off,none⟩) n c,.int .i64 i,.slice (some ⟨vb,0,none⟩) 1 1] w fun e w'=>
   e=.returned (.slice (some ⟨w.heap.size,0,none⟩) (n+1) (grownCap w (n+1) c 98))/\
   w'=(((w.alloc (.cells ((cs.take (i*2)).toArray++Builtin.zeroCells CE.cells (n+1-i)++Builtin.zeroCells CE.cells (grownCap w (n+1) c 98-(n+1))) 98)).drew.setCells w.heap.size (i*2) vs).drew).setCells w.heap.size ((i+1)*2) (cs.drop (i*2)):=by
 have BK:(Tryz.prog.info? 98).map (fun q=>(q.size,q.bytes,q.zero))=some (2,16,some CE):=by kernel_rfl
 obtain⟨i0,Fo,tj,QT,tg⟩:∃i0,Tryz.prog.info? 98=some i0/\i0.zero=some CE/\i0.size=2/\i0.bytes=16:=by rcases hq:Tryz.prog.info? 98 with _|q;rw[hq]at BK;cases BK;rw[hq]at BK;simp only[zM,zA,zB]at BK;exact⟨q,rfl,BK.2.2,BK.1,BK.2.1⟩
 have ti:¬ ((i:Int)=(n:Int)):=by omega
 have hz3:(c:Int)<(n:Int)+1:=by omega
 have dS:(Tryz.prog.info? 98).map (·.size)=some 2:=by rw[Fo];simp[QT]
 have hbw:b<w.heap.size:=block_lt_of_cell (u7 0 _ (List.getElem?_eq_getElem (by omega)));have hvw:vb<w.heap.size:=block_lt_of_cell (yZ 0 _ (List.getElem?_eq_getElem (by omega)));have jh:(n:Int)+1-(i:Int)=((n+1-i:Nat):Int):=by omega
 have D9:i+(n+1-i)=n+1:=by omega
 have mN:(Builtin.firstCells i0.size i (.slice (some ⟨b,off,none⟩) i c)).run Tryz.prog w.drew=.ok (cs.take (i*2)).toArray w.drew:=by rw[QT];exact run_firstCells_some w.drew 2 i ⟨b,off,none⟩ i c (cs.take (i*2)) (by rw[List.length_take];omega) (fun j v hj=>by rw[Addr.add_lit];rw[List.getElem?_take]at hj;split at hj;exact u7 j v hj;cases hj)
 have ja:∀ty,(Builtin.append_ #[76,3] ty #[.slice (some ⟨b,off,none⟩) i c,.int .i64 ((n:Int)+1-(i:Int))]).run Tryz.prog w=
   .ok (.slice (some ⟨w.heap.size,0,none⟩) (n+1) (grownCap w (n+1) c 98)) (w.drew.alloc (.cells ((cs.take (i*2)).toArray++Builtin.zeroCells CE.cells (n+1-i)++Builtin.zeroCells CE.cells (grownCap w (n+1) c 98-(n+1))) 98)):=fun ty=>by
  have h:=Lib.run_append_grow_zeros w 76 3 ty 98 i0 _ .i64 .i64 Tryz.underlying76 Tryz.underlying3 Fo tj (some ⟨b,off,none⟩) i c (cs.take (i*2)) mN (n+1-i) (by omega) (by omega) (by omega) (by omega) (by rw[tg];omega) (by rw[tg,D9];exact growslice_fits bI uW);rw[D9]at h;rw[jh];exact h
 obtain⟨G,hG⟩:∃G,G=grownCap w (n+1) c 98:=⟨_,rfl⟩;obtain⟨ROW,YN⟩:∃ROW:Array Value,ROW=(cs.take (i*2)).toArray++Builtin.zeroCells CE.cells (n+1-i)++Builtin.zeroCells CE.cells (G-(n+1)):=⟨_,rfl⟩;rw[<-hG]at ja ⊢;rw[<-YN]at ja ⊢;have hRl:(n+1)*2<=ROW.size:=by rw[YN];simp[Builtin.zeroCells,CE,Value.cells,fF];omega
 obtain⟨W1,EY⟩:∃W1,W1=w.drew.alloc (.cells ROW 98):=⟨_,rfl⟩;rw[<-EY]at ja;have hN:∀j,j<(n+1)*2->(W1.cell? ⟨w.heap.size,j,none⟩).isSome=true:=fun j hj=>by rw[EY,World.cell?_alloc_at (w:=w.drew) ROW _ w.heap.size j rfl,Array.getElem?_eq_getElem (by omega)];rfl
 have hNf:∀j,W1.frozen? ⟨w.heap.size,j,none⟩=false:=fun j=>by rw[EY];exact World.frozen?_alloc_at (w:=w.drew) ROW _ w.heap.size j rfl
 have hOb:∀j v,w.cell? ⟨b,j,none⟩=some v->W1.cell? ⟨b,j,none⟩=some v:=fun j v h=>by rw[EY,World.cell?_alloc_past (w:=w.drew) _ b j hbw];exact h
 have hOv:∀j v,w.cell? ⟨vb,j,none⟩=some v->W1.cell? ⟨vb,j,none⟩=some v:=fun j v h=>by rw[EY,World.cell?_alloc_past (w:=w.drew) _ vb j hvw];exact h
 have fe:∀(W:World),(∀x,W.cell? x=W1.cell? x)->(∀x,W.frozen? x=W1.frozen? x)->∀ty dc,(Builtin.copy_ #[76,76] ty #[.slice (some ⟨w.heap.size,i*2,none⟩) (n+1-i) dc,.slice (some ⟨vb,0,none⟩) 1 1]).run Tryz.prog W=.ok (goInt 1) (W.setCells w.heap.size (i*2) vs):=fun W R9 Rv ty dc=>by
  have oH:Nat.min 1 (n+1-i)=1:=by simp only[Nat.min_def];split<;>omega
  have:=Xu W 76 76 ty 98 2 w.heap.size (i*2) (n+1-i) dc ⟨vb,0,none⟩ 1 1 vs Tryz.underlying76 dS (by rw[sZ,oH])
   (fun j v hj=>by rw[Addr.add_lit,R9];simpa using hOv _ v (yZ j v hj))
   (fun j hj=>by rw[R9];exact hN _ (by omega)) (fun j hj=>by rw[Rv];exact hNf _) iv
  rw[oH]at this;exact this
 have hGn:n+1<=G:=by rw[hG];exact grownCap_ge w _ _ _
 have hG63:G<=9223372036854775807:=by have:=grownCap_le_maxLen w (n+1) c 98 (by unfold maxLen;omega);rw[<-hG]at this;unfold maxLen at this;omega
 have hGi:¬ (G=i):=by omega
 have hGim:¬ (G=i+1):=by omega
 have jp:¬ (c=i):=by omega
 have hbN:b≠w.heap.size:=by omega
 have HF:(cs.drop (i*2)).length=(n-i)*2:=by rw[List.length_drop,fF];omega
 have Rj:∀(W:World),(∀x,W.cell? x=(W1.setCells w.heap.size (i*2) vs).cell? x)->(∀x,W.frozen? x=(W1.setCells w.heap.size (i*2) vs).frozen? x)->∀ty dc sc,(Builtin.copy_ #[76,76] ty #[.slice (some ⟨w.heap.size,(i+1)*2,none⟩) (n-i) dc,.slice (some ⟨b,off+i*2,none⟩) (n-i) sc]).run Tryz.prog W=.ok (goInt ((n-i:Nat):Int)) (W.setCells w.heap.size ((i+1)*2) (cs.drop (i*2))):=fun W R9 Rv ty dc sc=>by
  have oH:Nat.min (n-i) (n-i)=n-i:=Nat.min_self _;have:=Xu W 76 76 ty 98 2 w.heap.size ((i+1)*2) (n-i) dc ⟨b,off+i*2,none⟩ (n-i) sc (cs.drop (i*2)) Tryz.underlying76 dS (by rw[HF,oH])
   (fun j v hj=>by rw[Addr.add_lit,R9,World.cell?_setCells_out _ _ _ _ _ (fun h _=>absurd h hbN),Nat.add_assoc];exact hOb _ v (u7 (i*2+j) v (by rwa [List.getElem?_drop]at hj)))
   (fun j hj=>by rw[R9];exact isSome_setCells _ _ _ _ (fun t ht=>hN _ (by omega)) _ (hN _ (by omega)))
   (fun j hj=>by rw[Rv,World.frozen?_setCells];exact hNf _) (fun v hv=>Fv v (List.mem_of_mem_drop hv))
  rw[oH]at this;exact this
 subst EY;have ie:∀x,((w.alloc (.cells ROW 98)).drew).cell? x=(w.drew.alloc (.cells ROW 98)).cell? x:=fun x=>rfl;have hE2:∀x,((w.alloc (.cells ROW 98)).drew).frozen? x=(w.drew.alloc (.cells ROW 98)).frozen? x:=fun x=>rfl;have Sb:∀x,(((w.alloc (.cells ROW 98)).drew.setCells w.heap.size (i*2) vs).drew).cell? x=((w.drew.alloc (.cells ROW 98)).setCells w.heap.size (i*2) vs).cell? x:=fun x=>rfl;have Sa:∀x,(((w.alloc (.cells ROW 98)).drew.setCells w.heap.size (i*2) vs).drew).frozen? x=((w.drew.alloc (.cells ROW 98)).setCells w.heap.size (i*2) vs).frozen? x:=fun x=>rfl;have xw:IntKind.i64.wrap ((i:Int)+1)=(i:Int)+1:=by rw[IntKind.wrap_i64];omega
 have y7:(0:Int)<=(i:Int)+1:=by omega
 have i9:i<=n:=by omega
 have htn:((i:Int)+1).toNat=i+1:=by omega
 have hb3:(i:Int)<=(n:Int):=by omega
 have mixed:Tryz.prog.follows .mixedOrders=true:=by kernel_rfl
 clear jh D9 mN YN hG hRl
 go_enter Tryz.func77,Tryz.ntmps77
 go_wp2_with (first
  |(at_builtin;refine Lib.wpList_append_run _ rfl _ _ _ _ rfl _ _ rfl rfl _ _ (ja _) ?_)
  |(at_builtin;refine wpList_copy_runI _ rfl _ _ 76 76 rfl _ _ rfl rfl (fe _ ie hE2 _ _) ?_)
  |(at_builtin;refine wpList_copy_runI _ rfl _ _ 76 76 rfl _ _ rfl rfl (Rj _ (fun _=>rfl) (fun _=>rfl) _ _ _) ?_))
 go_region_law_o (refine step_copy_runI rfl _ _ 76 76 rfl (.slice (some ⟨w.heap.size,(i+1)*2,none⟩) (n-i) (G-(i+1))) (.slice (some ⟨b,off+i*2,none⟩) (n-i) (c-i)) (by simp[Act.eval,Act.put]) (by simp[Act.eval,Act.put]) (Rj _ Sb Sa 3 (G-(i+1)) (c-i)) ?_)
 go_wp2
 go_ret
 exact⟨rfl,rfl⟩
theorem Lr(b:Nat)(t:TypeId):∀(vs:List Value)(o:Nat)(cur:Array Value)(w:World),w.heap[b]? = some (.cells cur t (0,0))->o+vs.length<=cur.size->
  w.setCells b o vs=w.setRow b (cur.toList.take o++vs++cur.toList.drop (o+vs.length)).toArray
 |[],o,cur,w,hg,_=>by simp only[World.setCells,List.append_nil,zS,Nat.add_zero,List.take_append_drop,Array.toArray_toList];rw[setRow_self w b cur t (0,0) hg]
 |v::r,o,cur,w,hg,hl=>by
  have hi:o<cur.size:=by simp at hl;omega
  have ih:=Lr b t r (o+1) (cur.setIfInBounds o v) (w.setRow b (cur.setIfInBounds o v)) (setRow_heap w b cur _ t _ hg) (by simp at hl ⊢;omega);rw[World.setCells,setCell_eq_setRow w b o cur t (0,0) v hg,ih,setRow_setRow];congr 2;have e:=list_seg_step cur.toList o v r (by simp at hl ⊢;omega);simpa[Array.toList_setIfInBounds,Nat.add_assoc]using e
variable{w:World}
variable{b:Nat}
variable{e:TypeId}
theorem um{pre l:List Value}(h:w.heap[b]? = some (.cells (pre++l).toArray e (0,0))){off:Nat}(ho:pre.length=off)(j:Nat):w.cell? ⟨b,off+j,none⟩=l[j]?:=by
 subst ho;simp[World.cell?,h,List.getElem?_append_right]
theorem px{c:Array Value}(h:w.heap[b]? = some (.cells c e (0,0)))(o:Nat):w.frozen? ⟨b,o,none⟩=false:=by
 simp[World.frozen?,h]
theorem qtc{c:Array Value}(h:w.heap[b]? = some (.cells c e (0,0))):w.shape? b=some (e,c.size):=by
 simp[World.shape?,h]
namespace InsZ
open Go.Rx Go.Vx
theorem z2t{m aJ:Nm}{s bE:S}{w₁ n9:World}(h:bP m s w aJ bE w₁)(hh:n9.heap=w₁.heap)(h1:n9.os=w₁.os)(h2:n9.tape=w₁.tape)(h3:n9.output=w₁.output):bP m s w aJ bE n9:=by
 refine⟨h.agree,h.nx,fun m' eG=>?_,h.own,fun b hb hn=>by rw[hh];exact h.same b hb hn,by rw[hh];exact h.size,h1.trans h.os,h2.trans h.tape,h3.trans h.output⟩;have hf:=h.fits m' eG;exact⟨fun i b hb=>(hf.ok i b hb).world (by rw[hh]),hf.inj,hf.bd⟩
theorem ins_lt{i k:Nat}{p q nu:List U}{pv qv nv:List Value}(hp:eL p=some pv)(hq:eL q=some qv)(je:eL nu=some nv)(okp:okL p=true)(okq:okL q=true)(okn:okL nu=true)
  (lp:pv.length=i*2) (lq:qv.length=k*2) (ln:nv.length=2) (hk:0<k) (rp:∀m,aI m pv=pv) (rq:∀m,aI m qv=qv) (rn:∀m,aI m nv=nv) (op:∀v∈pv,v.oneCell'=true) (oq:∀v∈qv,v.oneCell'=true) (on:∀v∈nv,v.oneCell'=true)
  (uW:(i+k+1)*16<=140737488355328) (t:Nat):
  bA Tryz.prog 77 [.vl 0 t 0 (i+k),.int .i64 i,.sl 1 0 1 1] ⟨[(0,.vec (p++q) 98 2 t),(1,.row nu 98)],2⟩ (fun u O'=>u=.vl 0 (t+1) 0 (i+k+1)/\O'=⟨[(0,.vec (p++nu++q) 98 2 (t+1)),(1,.row nu 98)],2⟩):=by
 intro F x vs m w bH hx hh m9 he fH d9;obtain⟨v0,Gj,rfl,h0,he⟩:=he.inv;obtain⟨v1,C?,rfl,h1,he⟩:=he.inv;obtain⟨v2,IY,rfl,h2,he⟩:=he.inv;have:=he.nil_inv;subst this;simp only[aD]at h0 h1 h2;subst h1;have hg:gt x.O.h 0=some (.vec (p++q) 98 2 t):=by rw[hx];rfl
 have dh:gt x.O.h 1=some (.row nu 98):=by rw[hx];rfl
 obtain⟨_,hK,h0⟩:=h0;obtain⟨l,e',sz,hb,sZ⟩:=(h0 _ hg).2 rfl;cases hb;obtain⟨_,hBk⟩:=hh.ok 0 _ hg;obtain⟨_,_,hB⟩:=hBk;rcases hB with⟨hn,_⟩|⟨i0,l',jP,MX,hE⟩;exfalso;have:q=[]:=(List.append_eq_nil_iff.1 hn).2;subst this;simp only[eL,zA]at hq;subst hq;simp at lq;omega;rw[jP]at sZ;simp only[IR]at sZ;rcases sZ with⟨hbad,_⟩|rfl;omega;have y3:=(EK _ _ (Lc hp hq) x l').1 hE;subst y3;obtain⟨_,_,h2⟩:=h2;obtain⟨i1,Pp,rfl,_,_⟩:=(h2 _ dh).2 rfl;obtain⟨_,i1',l1,QS,Y7,ie⟩:=(hh.ok 1 _ dh).2;rw[Pp]at QS;cases QS;have A4:=(EK _ _ je x l1).1 ie;rw[A4]at Y7;have h01:i0≠i1:=fun e=>by have:=hh.inj 0 1 _ _ i0 hg dh jP (by rw[Pp,e]);omega
 have HE:=fH m (aK.refl _ _);have fh:m.blk i0≠m.blk i1:=HE.inj i0 i1 _ _ MX Y7 h01 rfl;obtain⟨pre,rest,R6,oF,fY⟩:=(HE.ok i0 _ MX:AU m i0 _ 98 w 4);obtain⟨J',qX⟩:=(HE.ok i1 _ Y7:AU m i1 _ 98 w 0);have rpq:∀m,aI m (pv++qv)=pv++qv:=fun m=>by rw[wG,rp,rq]
 have rpnq:∀m,aI m (pv++nv++qv)=pv++nv++qv:=fun m=>by rw[wG,wG,rp,rn,rq]
 rw[rpq]at R6;rw[rn]at qX;have uV:=d9.at;simp only[aI,aH,CC]at uV;subst uV;have ec:bR m i0 (bS+0)=m.cp i0:=by simp[bR,bN]
 have ec1:bR m i1 1=1:=by simp[bR,bS]
 rw[ec,ec1,J'];have aU:(pv++qv).length=(i+k)*2:=by rw[zU,lp,lq];omega
 rw[aU]at fY;replace fY:(i+k)*2+rest.length=m.cp i0*2:=fY;have qY:w.heap[m.blk i0]? = some (.cells (pre++((pv++qv)++rest)).toArray 98 (0,0)):=by rw[R6,zT]
 have u7:∀j v,(pv++qv)[j]? = some v->w.cell? ⟨m.blk i0,m.sh i0+0*2+j,none⟩=some v:=fun j v hv=>by rw[Nat.zero_mul,Nat.add_zero,um qY oF j,List.getElem?_append_left (zG.1 hv).1,hv]
 have yZ:∀j v,nv[j]? = some v->w.cell? ⟨m.blk i1,j,none⟩=some v:=fun j v hv=>by have:=um (pre:=[]) (l:=nv) qX (off:=0) rfl j;rw[Nat.zero_add]at this;rw[this,hv]
 have Fv:∀v∈pv++qv,v.oneCell'=true:=fun v hv=>(yD.1 hv).elim (op v) (oq v);have E':(pv++qv).take (i*2)=pv:=by rw[<-lp];exact List.take_left
 have K8:(pv++qv).drop (i*2)=qv:=by rw[<-lp];exact List.drop_left
 have Fo:i0<x.s.nx:=hh.bd i0 _ MX;have H6:okL (p++nu++q)=true:=G8 (G8 okp okn) okq;have lK:eL (p++nu++q)=some (pv++nv++qv):=Lc (Lc hp je) hq;have B4:∀l,(⟨ug x.O.h 0 (.vec l 98 2 (t+1)),x.O.nx⟩:Sg)=⟨[(0,.vec l 98 2 (t+1)),(1,.row nu 98)],2⟩:=fun l=>by rw[hx];rfl
 by_cases bI:i+k+1<=m.cp i0;have hc:=qzv (m.blk i0) (m.sh i0+0*2) (i+k) (m.cp i0) i (m.blk i1) (pv++qv) nv w (by omega) bI (by omega) (Ne.symm fh) aU ln u7
  (fun j hj=>by
   rw[Nat.zero_mul,Nat.add_zero,um qY oF j];have:j<((pv++qv)++rest).length:=by rw[zU,aU];omega
   rw[List.getElem?_eq_getElem this];rfl)
  (fun j _=>px qY _) yZ Fv on 98 98 nv.toArray.size _ (qtc qX) (qtc qY) (by rw[List.size_toArray,zU,zU,aU];omega) (px qX _) (px qX _)
 refine(show Calls Tryz.prog 77 _ w _ from hc).mono ?_;rintro e1 w' ⟨rfl,rfl⟩;rw[K8];have hd:w.drew.heap[m.blk i0]? = some (.cells (pre++((pv++qv)++rest)).toArray 98 (0,0)):=qY;obtain⟨r1,r2,rfl,Qc⟩:∃r1 r2:List Value,rest=r1++r2/\r1.length=2:=⟨rest.take 2,rest.drop 2,(List.take_append_drop 2 rest).symm,by rw[List.length_take];omega⟩;obtain⟨q1,q2,rfl,MW⟩:∃q1 q2:List Value,qv=q1++q2/\q1.length=2:=⟨qv.take 2,qv.drop 2,(List.take_append_drop 2 qv).symm,by rw[List.length_take];omega⟩;have key:(w.drew.setCells (m.blk i0) (m.sh i0+0*2+(i+1)*2) (q1++q2)).setCells (m.blk i0) (m.sh i0+0*2+i*2) nv=w.drew.setRow (m.blk i0) (pre++(pv++nv++(q1++q2))++r2).toArray:=by
  have G':(pre++((pv++(q1++q2))++(r1++r2))).length=m.sh i0+(i*2+k*2)+(2+r2.length):=by simp only[zU]at aU lq ⊢;omega
  rw[Lr (m.blk i0) 98 _ _ _ _ hd (by rw[List.size_toArray,G'];omega)];have e1:(pre++((pv++(q1++q2))++(r1++r2))).take (m.sh i0+0*2+(i+1)*2)=pre++pv++q1:=by rw[show pre++((pv++(q1++q2))++(r1++r2))=(pre++pv++q1)++(q2++(r1++r2)) by simp[zT]];rw[show m.sh i0+0*2+(i+1)*2=(pre++pv++q1).length by simp only[zU];omega];exact List.take_left
  have e2:(pre++((pv++(q1++q2))++(r1++r2))).drop (m.sh i0+0*2+(i+1)*2+(q1++q2).length)=r2:=by rw[show pre++((pv++(q1++q2))++(r1++r2))=(pre++pv++(q1++q2)++r1)++r2 by simp[zT]];rw[show m.sh i0+0*2+(i+1)*2+(q1++q2).length=(pre++pv++(q1++q2)++r1).length by simp only[zU];omega];exact List.drop_left
  simp only[List.toList_toArray]at*;rw[e1,e2];rw[Lr (m.blk i0) 98 _ _ _ _ (setRow_heap w.drew _ _ _ 98 _ hd) (by rw[List.size_toArray];simp only[zU];omega),setRow_setRow];congr 2;simp only[List.toList_toArray];have e3:(pre++pv++q1++(q1++q2)++r2).take (m.sh i0+0*2+i*2)=pre++pv:=by rw[show pre++pv++q1++(q1++q2)++r2=(pre++pv)++(q1++(q1++q2)++r2) by simp[zT]];rw[show m.sh i0+0*2+i*2=(pre++pv).length by simp only[zU];omega];exact List.take_left
  have e4:(pre++pv++q1++(q1++q2)++r2).drop (m.sh i0+0*2+i*2+nv.length)=q1++q2++r2:=by rw[show pre++pv++q1++(q1++q2)++r2=(pre++pv++q1)++(q1++q2++r2) by simp[zT]];rw[show m.sh i0+0*2+i*2+nv.length=(pre++pv++q1).length by simp only[zU];omega];exact List.drop_left
  rw[e3,e4];simp[zT]
 rw[key];have dn:(w.drew.setRow (m.blk i0) (pre++(pv++nv++(q1++q2))++r2).toArray).heap[m.blk i0]? = some (.cells (pre++(pv++nv++(q1++q2))++r2).toArray 98 (0,0)):=setRow_heap w.drew _ _ _ 98 _ hd;have aR:bP m x.s w m ⟨up x.s.h i0 (.inl (pv++nv++(q1++q2),98,4)),x.s.nx⟩ (w.drew.setRow (m.blk i0) (pre++(pv++nv++(q1++q2))++r2).toArray):=by refine bP.write fH MX rfl (fun j hj=>by rw[setRow_other _ _ _ _ hj];rfl) (by unfold World.setRow;exact Array.size_modify) rfl rfl rfl (Nat.le_succ _) fun m' ha=>?_;obtain⟨a1,a2,a3⟩:=ha i0 Fo;refine⟨pre,r2,by rw[a1,rpnq];exact dn,by rw[a2];exact oF,?_⟩;rw[a3];simp only[zU]at fY aU lq ⊢;omega
 have jF:=Cd hh hg (some i0) ⟨up x.s.h i0 (.inl (pv++nv++(q1++q2),98,4)),x.s.nx⟩ (l1:=p++nu++q) (fun j b hb cW=>by
   have:i0≠j:=fun e=>cW (by rw[jP,e]);simp only[xL,if_neg this];exact hb) (fun j hj=>.inl (by rw[jP];exact hj)) (fun j b hb=>by
   simp only[xL]at hb;split at hb;rename_i e;subst e;exact Fo;exact hh.bd j _ hb) H6 (fun y _ _=>.inr ⟨i0,_,rfl,by simp only[xL,if_true,MX,zM],(EK _ _ lK y _).2 rfl⟩)
 refine⟨_,m,.vl 0 (t+1) 0 (i+k+1),.slice (some ⟨i0,0*2,none⟩) (i+k+1) (bS+0),_,rfl,⟨rfl,B4 _⟩,aR,fun m' eG=>?_,jF.h,jF.fr F m9,Bw hh hg rfl (.inr rfl),jF.mo.ke,zF _⟩;obtain⟨a1,a2,a3⟩:=eG i0 Fo;simp only[aH];rw[a1,a2];simp[bR,bN,a3];have hgr:=z3r (m.blk i0) (m.sh i0+0*2) (i+k) (m.cp i0) i (m.blk i1) (pv++qv) nv w (by omega) (by omega) (by omega) uW aU ln u7 yZ Fv on;refine(show Calls Tryz.prog 77 _ w _ from hgr).mono ?_;rintro e1 w' ⟨rfl,rfl⟩;rw[K8,E'];have hGn:i+k+1<=grownCap w (i+k+1) (m.cp i0) 98:=grownCap_ge w _ _ _;generalize grownCap w (i+k+1) (m.cp i0) 98=G at hGn;obtain⟨Z1,hZ1,hZl⟩:∃v04:List Value,Builtin.zeroCells CE.cells (i+k+1-i)=v04.toArray/\v04.length=(k+1)*2:=⟨_,(Array.toArray_toList).symm,by simp[Builtin.zeroCells,CE,Value.cells];omega⟩;obtain⟨Z2,hZ2,fx⟩:∃v04:List Value,Builtin.zeroCells CE.cells (G-(i+k+1))=v04.toArray/\v04.length=(G-(i+k+1))*2:=⟨_,(Array.toArray_toList).symm,by simp[Builtin.zeroCells,CE,Value.cells]⟩;rw[hZ1,hZ2];obtain⟨za,zb,rfl,hza⟩:∃za zb:List Value,Z1=za++zb/\za.length=2:=⟨Z1.take 2,Z1.drop 2,(List.take_append_drop 2 Z1).symm,by rw[List.length_take];omega⟩;have tg:zb.length=k*2:=by rw[zU]at hZl;omega
 have dX:pv.toArray++(za++zb).toArray++Z2.toArray=(pv++(za++zb)++Z2).toArray:=by simp
 rw[dX];have N6:((w.alloc (.cells (pv++(za++zb)++Z2).toArray 98)).drew).heap[w.heap.size]? = some (.cells (pv++(za++zb)++Z2).toArray 98 (0,0)):=by show(w.heap.push _)[w.heap.size]? = _;simp
 have tc:((w.alloc (.cells (pv++(za++zb)++Z2).toArray 98)).drew).setCells w.heap.size (i*2) nv=((w.alloc (.cells (pv++(za++zb)++Z2).toArray 98)).drew).setRow w.heap.size (pv++nv++zb++Z2).toArray:=by
  rw[Lr w.heap.size 98 _ _ _ _ N6 (by rw[List.size_toArray];simp only[zU];omega)];congr 2;simp only[List.toList_toArray];have e3:(pv++(za++zb)++Z2).take (i*2)=pv:=by rw[zT,<-lp];exact List.take_left
  have e4:(pv++(za++zb)++Z2).drop (i*2+nv.length)=zb++Z2:=by rw[show pv++(za++zb)++Z2=(pv++za)++(zb++Z2) by simp[zT]];rw[show i*2+nv.length=(pv++za).length by simp only[zU];omega];exact List.drop_left
  rw[e3,e4];simp[zT]
 have K5:((((w.alloc (.cells (pv++(za++zb)++Z2).toArray 98)).drew).setRow w.heap.size (pv++nv++zb++Z2).toArray).drew).heap[w.heap.size]? = some (.cells (pv++nv++zb++Z2).toArray 98 (0,0)):=setRow_heap _ _ _ _ 98 _ N6;have er:((((w.alloc (.cells (pv++(za++zb)++Z2).toArray 98)).drew).setRow w.heap.size (pv++nv++zb++Z2).toArray).drew).setCells w.heap.size ((i+1)*2) qv=((((w.alloc (.cells (pv++(za++zb)++Z2).toArray 98)).drew).setRow w.heap.size (pv++nv++zb++Z2).toArray).drew).setRow w.heap.size (pv++nv++qv++Z2).toArray:=by
  rw[Lr w.heap.size 98 _ _ _ _ K5 (by rw[List.size_toArray];simp only[zU];omega)];congr 2;simp only[List.toList_toArray];have e3:(pv++nv++zb++Z2).take ((i+1)*2)=pv++nv:=by rw[show pv++nv++zb++Z2=(pv++nv)++(zb++Z2) by simp[zT]];rw[show(i+1)*2=(pv++nv).length by simp only[zU];omega];exact List.take_left
  have e4:(pv++nv++zb++Z2).drop ((i+1)*2+qv.length)=Z2:=by rw[show(i+1)*2+qv.length=(pv++nv++zb).length by simp only[zU];omega];exact List.drop_left
  rw[e3,e4]
 rw[tc,er];have N3:(((((w.alloc (.cells (pv++(za++zb)++Z2).toArray 98)).drew).setRow w.heap.size (pv++nv++zb++Z2).toArray).drew).setRow w.heap.size (pv++nv++qv++Z2).toArray).heap=(w.alloc (.cells (pv++nv++qv++Z2).toArray 98)).heap:=by apply Array.ext_getElem?;intro j;by_cases hj:j=w.heap.size;subst hj;rw[setRow_heap _ _ _ _ 98 _ K5];show _=(w.heap.push _)[w.heap.size]?;simp;rw[setRow_other _ _ _ _ hj];show(((w.alloc (.cells (pv++(za++zb)++Z2).toArray 98)).drew).setRow w.heap.size (pv++nv++zb++Z2).toArray).heap[j]? = _;rw[setRow_other _ _ _ _ hj];show(w.heap.push _)[j]? = (w.heap.push _)[j]?;simp only[Array.getElem?_push,if_neg hj]
 have aR:bP m x.s w (m.set x.s.nx w.heap.size 0 G) ⟨(x.s.nx,.inl (pv++nv++qv,98,4))::x.s.h,x.s.nx+1⟩ (((((w.alloc (.cells (pv++(za++zb)++Z2).toArray 98)).drew).setRow w.heap.size (pv++nv++zb++Z2).toArray).drew).setRow w.heap.size (pv++nv++qv++Z2).toArray):=by refine z2t (bP.alloc fH (.cells (pv++nv++qv++Z2).toArray 98) (.inl (pv++nv++qv,98,4)) G fun m' ha=>?_) N3 rfl rfl rfl;obtain⟨a1,a2,a3⟩:=ha x.s.nx (zN _);simp only[Nm.set,if_true]at a1 a2 a3;refine⟨[],Z2,?_,by rw[a2];rfl,?_⟩;rw[a1,rpnq,List.nil_append];show(w.heap.push _)[w.heap.size]? = _;simp;rw[a3,fx];simp only[zU];omega
 have jF:=Cd hh hg (some x.s.nx) ⟨(x.s.nx,.inl (pv++nv++qv,98,4))::x.s.h,x.s.nx+1⟩ (l1:=p++nu++q) (fun j b hb cW=>by
   have h3:=hh.bd j b hb;rw[m5,if_neg (show x.s.nx≠j by omega)];exact hb) (fun j hj=>.inr (by cases hj;exact zF _)) (fun j b hb=>by
   rw[m5]at hb;split at hb;rename_i e;subst e;exact zN _;exact Nat.lt_succ_of_lt (hh.bd j _ hb)) H6 (fun y _ _=>.inr ⟨x.s.nx,_,rfl,by rw[m5,if_pos rfl],(EK _ _ lK y _).2 rfl⟩)
 refine⟨_,m.set x.s.nx w.heap.size 0 G,.vl 0 (t+1) 0 (i+k+1),.slice (some ⟨x.s.nx,0*2,none⟩) (i+k+1) (bS+0),_,rfl,⟨rfl,B4 _⟩,aR,fun m' eG=>?_,jF.h,jF.fr F m9,Bw hh hg rfl (.inr rfl),jF.mo.ke,zF _⟩;obtain⟨a1,a2,a3⟩:=eG x.s.nx (zN _);simp only[Nm.set,if_true]at a1 a2 a3;simp only[aH];rw[a1,a2];simp[bR,bN,a3]
end InsZ
end Go.Proofs
namespace Go.Proofs
open Go Go.Rx Go.Vx
set_option maxHeartbeats 1000000
def wc(n:Nat)(p1:Int)(p2:List aF)(p4:Int)(p5:Int):Option (List aF):=
 aE (0<=p1/\p1<=(p2.length:Int)/\(p2.length+1)*16<=140737488355328) (some (p2.take p1.toNat++aF.mk p4 p5::p2.drop p1.toNat))
def xH(x:aF):List Value:=[.int .i64 x.Feat,.int .i64 x.To]
theorem sj(l:List aF):∀v∈(l.map xH).flatten,v.oneCell'=true:=fun v hv=>by
 obtain⟨q,h1,h2⟩:=List.mem_flatten.1 hv;obtain⟨x,_,rfl⟩:=List.mem_map.1 h1;simp only[xH,zI,List.not_mem_nil,or_false]at h2;rcases h2 with rfl |rfl;rfl;rfl
theorem qv4(m:Nm)(l:List aF):aI m ((l.map xH).flatten)=(l.map xH).flatten:=qta (enc:=xH) (fun m x=>by simp[xH,aI,aH]) m l
theorem qfx(n:Nat)(p1:Int)(p2:List aF)(p4:Int)(p5:Int)(r:List aF)(J:wc n p1 p2 p4 p5=some r):∀t3:Nat,bA Tryz.prog 77 [.vl 0 t3 0 p2.length,.int .i64 p1,.sl 1 0 1 1] ⟨[(0,.vec (p2.map aQ).flatten 98 2 t3),(1,.row [.int .i64 p4,.int .i64 p5] 98)],2⟩ (fun u O'=>∃t:Nat->Nat,u=.vl 0 (t 0) 0 r.length/\O'=⟨[(0,.vec (r.map aQ).flatten 98 2 (t 0)),(1,.row [.int .i64 p4,.int .i64 p5] 98)],2⟩):=by
 intro t3;obtain⟨⟨h1,h2,h3⟩,hr⟩:=d8 J;have hr:=Option.some.inj hr;subst hr;obtain⟨i,rfl⟩:∃i:Nat,p1=(i:Int):=⟨p1.toNat,by omega⟩;rw[zZ];by_cases he:i=p2.length;subst he;have hE:zz n (p2.length:Int) p2 p4 p5=some (p2++[aF.mk p4 p5]):=by
  unfold zz;have e1:((p2.length:Int)==(p2.length:Int))=true:=by simp
  rw[qw9 ⟨by omega,by omega⟩,e1,qw9 ⟨by omega,by omega⟩];rfl
 have:=qhm n _ p2 p4 p5 _ hE t3;rw[zW (zF _),List.drop_of_length_le (zF _)];exact this;have hi:i<p2.length:=by omega
 clear J;have e0:i+(p2.length-i)=p2.length:=by omega
 have uW:(i+(p2.length-i)+1)*16<=140737488355328:=by rw[e0];exact h3
 have hk:0<p2.length-i:=Nat.sub_pos_of_lt hi;have hp:eL (((p2.take i).map aQ).flatten)=some (((p2.take i).map xH).flatten):=ss (encU:=aQ) (enc:=xH) (fun _=>rfl) (p2.take i);have hq:eL (((p2.drop i).map aQ).flatten)=some (((p2.drop i).map xH).flatten):=ss (encU:=aQ) (enc:=xH) (fun _=>rfl) (p2.drop i);have okp:okL (((p2.take i).map aQ).flatten)=true:=ut (encU:=aQ) (fun _=>rfl) _;have okq:okL (((p2.drop i).map aQ).flatten)=true:=ut (encU:=aQ) (fun _=>rfl) _;have lp:(((p2.take i).map xH).flatten).length=i*2:=by rw[qs5 (enc:=xH) (k:=2) (fun _=>rfl),List.length_take];omega
 have lq:(((p2.drop i).map xH).flatten).length=(p2.length-i)*2:=by rw[qs5 (enc:=xH) (k:=2) (fun _=>rfl),List.length_drop]
 have rp:=fun m=>qv4 m (p2.take i);have rq:=fun m=>qv4 m (p2.drop i);have op:=sj (p2.take i);have oq:=sj (p2.drop i);have rn:∀m,aI m [Value.int .i64 p4,Value.int .i64 p5]=[Value.int .i64 p4,Value.int .i64 p5]:=fun m=>by simp[aI,aH]
 have on:∀v∈[Value.int .i64 p4,Value.int .i64 p5],v.oneCell'=true:=sj [aF.mk p4 p5];generalize hpv:((p2.take i).map xH).flatten=pv at*;generalize hqv:((p2.drop i).map xH).flatten=qv at*;have je:eL [U.int .i64 p4,U.int .i64 p5]=some [Value.int .i64 p4,Value.int .i64 p5]:=rfl;have okn:okL [U.int .i64 p4,U.int .i64 p5]=true:=rfl;have ln:[Value.int .i64 p4,Value.int .i64 p5].length=2:=rfl;have key:=InsZ.ins_lt hp hq je okp okq okn lp lq ln hk rp rq rn op oq on uW t3;have e1:i+(p2.length-i)=p2.length:=by omega
 have e2:((p2.take i).map aQ).flatten++((p2.drop i).map aQ).flatten=(p2.map aQ).flatten:=by rw[<-List.flatten_append,<-List.map_append,List.take_append_drop]
 have e3:((p2.take i).map aQ).flatten++[.int .i64 p4,.int .i64 p5]++((p2.drop i).map aQ).flatten=((p2.take i++aF.mk p4 p5::p2.drop i).map aQ).flatten:=by rw[List.map_append,List.flatten_append,zQ,List.flatten_cons,zT];rfl
 have e4:(p2.take i++aF.mk p4 p5::p2.drop i).length=p2.length+1:=by rw[zU,zO,List.length_take,List.length_drop];omega
 rw[e1,e2,e3]at key;rw[e4];exact key.mono fun u O' ⟨q1,q2⟩=>⟨fun _=>t3+1,q1,q2⟩
end Go.Proofs
