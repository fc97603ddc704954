import Derived.Shelf.Spec.SlicesInsert
import Derived.Shelf.Spec.SlicesInsertGrow
import Derived.Shelf.RegionOpenPlain
import Derived.WalkKit
import Derived.Lib.Walk
import Derived.Lib.SliceRun
import Derived.Lib.JoinLaws
import Derived.Lib.AppendZeros
import Derived.Lib.Overlaps
import Derived.Laws.Externs
import Derived.Laws.IdiomCopy
import Derived.Test.YtldlchbgolpkaaaGreatP15
set_option linter.all false
namespace Go.Proofs
open Go.Shelf Go.RowKit Go.Lib
theorem Nf{P:Program}(w:World)(dT sT ty elem:TypeId)(k:Nat)(b o dLen dCap:Nat)(a:Addr)(sLen sCap:Nat)(cs:List Value)
  (hu:P.underlying dT=some (.slice elem)) (hs:(P.info? elem).map (·.size)=some k) (hn:cs.length=Nat.min sLen dLen*k)
  (hsrc:∀j v,cs[j]? = some v->w.cell? (a.add j)=some v) (hc:∀j,j<cs.length->(w.cell? ⟨b,o+j,none⟩).isSome=true) (hf:∀j,j<cs.length->w.frozen? ⟨b,o+j,none⟩=false) (h1:∀v∈cs,v.oneCell'=true):
  (Builtin.copy_ #[dT,sT] ty #[.slice (some ⟨b,o,none⟩) dLen dCap,.slice (some a) sLen sCap]).run P w=.ok (goInt (Nat.min sLen dLen)) (w.setCells b o cs):=by
 have hl:=run_loadCells_list (P:=P) w a cs hsrc;have hst:=run_storeCells_cells (P:=P) b o cs 0 w (by simpa using hc) (by simpa using hf) h1;rcases hq:P.info? elem with _|i;simp[hq]at hs;have hi:i.size=k:=by simpa[hq]using hs
 simp[Builtin.copy_,run_underlying hu,Builtin.lenOf,Builtin.firstCells,sizeOf,typeInfo,hq,hi,<-hn,hl,hst]
set_option maxHeartbeats 4000000 in
set_option maxRecDepth 100000 in
theorem z2u(b off n c i vb:Nat)(cs vs:List Value)(w:World)(hi:i<n)(hroom:n+1<=c)(hc63:n<4611686018427387904)(hvb:vb≠b)
  (hcl:cs.length=n*2) (hvl:vs.length=2)
  (hcs:∀j v,cs[j]? = some v->w.cell? ⟨b,off+j,none⟩=some v) (hsp:∀j,j<(n+1)*2->(w.cell? ⟨b,off+j,none⟩).isSome=true) (hfz:∀j,j<(n+1)*2->w.frozen? ⟨b,off+j,none⟩=false)
  (hvs:∀j v,vs[j]? = some v->w.cell? ⟨vb,j,none⟩=some v) (h1c:∀v∈cs,v.oneCell'=true) (h1v:∀v∈vs,v.oneCell'=true)
  (tA tB:TypeId) (kA kB:Nat) (hsa:w.shape? vb=some (tA,kA)) (hsb:w.shape? b=some (tB,kB)) (hkB:kB≠0) (hfa:w.frozen? ⟨vb,0,none⟩=false) (hfe:w.frozen? ⟨vb,kA,none⟩=false):
  Calls Tryz.prog 77 #[.slice (some ⟨b,off,none⟩) n c,.int .i64 i,.slice (some ⟨vb,0,none⟩) 1 1] w fun e w'=>e=.returned (.slice (some ⟨b,off,none⟩) (n+1) c)/\w'=(w.drew.setCells b (off+(i+1)*2) (cs.drop (i*2))).setCells b (off+i*2) vs:=by
 have qw:¬ ((i:Int)=(n:Int)):=by omega
 have hsz:(Tryz.prog.info? 98).map (·.size)=some 2:=by kernel_rfl
 have qu:∀w,(sizeOf 98).run Tryz.prog w=.ok 2 w:=fun w=>by
  have h0:∃q,Tryz.prog.info? 98=some q/\q.size=2:=by rcases hq:Tryz.prog.info? 98 with _|q;rw[hq]at hsz;cases hsz;rw[hq]at hsz;exact⟨q,rfl,by simpa using hsz⟩
  obtain⟨q,h1,h2⟩:=h0;simp[sizeOf,typeInfo,h1,h2]
 have hov:∀lb cb,(callFunc 109 #[.slice (some ⟨vb,0,none⟩) 1 1,.slice (some ⟨b,off+(i+1)*2,none⟩) lb cb]).run Tryz.prog w=.ok (.value (.bool false)) w:=fun lb cb=>by
  rw[run_callFunc_extern Tryz.func109 (by kernel_rfl) (by kernel_rfl) (by kernel_rfl) (e:=Extern.SlicesOverlaps.overlaps #[76,76] #[4]) (by kernel_rfl),
   Lib.run_overlaps_apart w 76 4 98 Tryz.underlying76 2 qu ⟨vb,0,none⟩ ⟨b,off+(i+1)*2,none⟩ 1 1 lb cb hvb tA tB kA kB hsa hsb hkB hfa hfe]
  rfl
 have hdl:(cs.drop (i*2)).length=(n-i)*2:=by rw[List.length_drop,hcl];omega
 have XA:IntKind.i64.wrap ((i:Int)+1)=(i:Int)+1:=by rw[IntKind.wrap_i64];omega
 have rK:(0:Int)<=(i:Int)+1:=by omega
 have hin:i<=n:=by omega
 have htn:((i:Int)+1).toNat=i+1:=by omega
 have nJ:¬ (c=i+1):=by omega
 have hb3:(i:Int)<=(n:Int)+1:=by omega
 have hb4:¬ (c=i):=by omega
 have Gq:∀ty dc sc,(Builtin.copy_ #[76,76] ty #[.slice (some ⟨b,off+(i+1)*2,none⟩) (n-i) dc,.slice (some ⟨b,off+i*2,none⟩) (n+1-i) sc]).run Tryz.prog w.drew=.ok (goInt ((n-i:Nat):Int)) (w.drew.setCells b (off+(i+1)*2) (cs.drop (i*2))):=fun ty dc sc=>by
  have hmin:Nat.min (n+1-i) (n-i)=n-i:=by simp only[Nat.min_def];split<;>omega
  have:=Nf w.drew 76 76 ty 98 2 b (off+(i+1)*2) (n-i) dc ⟨b,off+i*2,none⟩ (n+1-i) sc (cs.drop (i*2)) Tryz.underlying76 hsz (by rw[hdl,hmin])
   (fun j v hj=>by rw[Addr.add_lit,Nat.add_assoc];exact hcs (i*2+j) v (by rwa [List.getElem?_drop]at hj))
   (fun j hj=>by rw[Nat.add_assoc];exact hsp _ (by omega)) (fun j hj=>by rw[Nat.add_assoc];exact hfz _ (by omega)) (fun v hv=>h1c v (List.mem_of_mem_drop hv))
  rw[hmin]at this;exact this
 obtain⟨W1,AB⟩:∃W1,W1=w.drew.setCells b (off+(i+1)*2) (cs.drop (i*2)):=⟨_,rfl⟩;have zj:∀k,k<(n+1)*2->(W1.cell? ⟨b,off+k,none⟩).isSome=true:=fun k hk=>by rw[AB];exact isSome_setCells b _ _ _ (fun j hj=>by rw[Nat.add_assoc];exact hsp _ (by omega)) _ (hsp k hk)
 have wb:∀(W:World),(∀x,W.cell? x=W1.cell? x)->(∀x,W.frozen? x=W1.frozen? x)->∀ty dc,(Builtin.copy_ #[76,76] ty #[.slice (some ⟨b,off+i*2,none⟩) (n+1-i) dc,.slice (some ⟨vb,0,none⟩) 1 1]).run Tryz.prog W=.ok (goInt 1) (W.setCells b (off+i*2) vs):=fun W hWc hWf ty dc=>by
  have hmin:Nat.min 1 (n+1-i)=1:=by simp only[Nat.min_def];split<;>omega
  have:=Nf W 76 76 ty 98 2 b (off+i*2) (n+1-i) dc ⟨vb,0,none⟩ 1 1 vs Tryz.underlying76 hsz (by rw[hvl,hmin])
   (fun j v hj=>by rw[Addr.add_lit,hWc,AB,World.cell?_setCells_out b _ _ _ _ (fun h _=>absurd h hvb)];simpa using hvs j v hj)
   (fun j hj=>by rw[hWc,Nat.add_assoc];exact zj _ (by omega)) (fun j hj=>by rw[hWf,AB,World.frozen?_setCells,Nat.add_assoc];exact hfz _ (by omega)) h1v
  rw[hmin]at this;exact this
 rw[<-AB]at Gq;have mixed:Tryz.prog.follows .mixedOrders=true:=by kernel_rfl
 go_enter Tryz.func77,Tryz.ntmps77
 go_wp2_with (simp only[hov])
 go_region_law_o (refine step_copy_runI rfl _ _ 76 76 rfl _ _ (by simp[Act.eval,Act.put]) (by simp[Act.eval,Act.put]) (Gq _ _ _) ?_)
 go_wp2_with (at_builtin;refine wpList_copy_runI _ rfl _ _ 76 76 rfl _ _ rfl rfl (wb _ (fun _=>rfl) (fun _=>rfl) _ _) ?_)
 go_ret
 first |exact⟨rfl,rfl⟩|exact⟨rfl,by rw[AB]⟩
def wW:Value:=.agg #[.int .i64 0,.int .i64 0]
set_option maxHeartbeats 4000000 in
set_option maxRecDepth 100000 in
theorem z6v(b off n c i vb:Nat)(cs vs:List Value)(w:World)(hi:i<n)(hnc:n<=c)(hroom:c<n+1)(hbig:(n+1)*16<=140737488355328)(hcl:cs.length=n*2)(hvl:vs.length=2)
  (hcs:∀j v,cs[j]? = some v->w.cell? ⟨b,off+j,none⟩=some v) (hvs:∀j v,vs[j]? = some v->w.cell? ⟨vb,j,none⟩=some v) (h1c:∀v∈cs,v.oneCell'=true) (h1v:∀v∈vs,v.oneCell'=true):
  Calls Tryz.prog 77 #[.slice (some ⟨b,off,none⟩) n c,.int .i64 i,.slice (some ⟨vb,0,none⟩) 1 1] w fun e w'=>
   e=.returned (.slice (some ⟨w.heap.size,0,none⟩) (n+1) (grownCap w (n+1) c 98))/\
   w'=(((w.alloc (.cells ((cs.take (i*2)).toArray++Builtin.zeroCells wW.cells (n+1-i)++Builtin.zeroCells wW.cells (grownCap w (n+1) c 98-(n+1))) 98)).drew.setCells w.heap.size (i*2) vs).drew).setCells w.heap.size ((i+1)*2) (cs.drop (i*2)):=by
 have FL:(Tryz.prog.info? 98).map (fun q=>(q.size,q.bytes,q.zero))=some (2,16,some wW):=by kernel_rfl
 obtain⟨i0,XC,qx,hzs,hzb⟩:∃i0,Tryz.prog.info? 98=some i0/\i0.zero=some wW/\i0.size=2/\i0.bytes=16:=by rcases hq:Tryz.prog.info? 98 with _|q;rw[hq]at FL;cases FL;rw[hq]at FL;simp only[zM,zA,zB]at FL;exact⟨q,rfl,FL.2.2,FL.1,FL.2.1⟩
 have qw:¬ ((i:Int)=(n:Int)):=by omega
 have hz3:(c:Int)<(n:Int)+1:=by omega
 have hsz:(Tryz.prog.info? 98).map (·.size)=some 2:=by rw[XC];simp[hzs]
 have hbw:b<w.heap.size:=block_lt_of_cell (hcs 0 _ (List.getElem?_eq_getElem (by omega)));have hvw:vb<w.heap.size:=block_lt_of_cell (hvs 0 _ (List.getElem?_eq_getElem (by omega)));have hkk:(n:Int)+1-(i:Int)=((n+1-i:Nat):Int):=by omega
 have hik:i+(n+1-i)=n+1:=by omega
 have hold:(Builtin.firstCells i0.size i (.slice (some ⟨b,off,none⟩) i c)).run Tryz.prog w.drew=.ok (cs.take (i*2)).toArray w.drew:=by rw[hzs];exact run_firstCells_some w.drew 2 i ⟨b,off,none⟩ i c (cs.take (i*2)) (by rw[List.length_take];omega) (fun j v hj=>by rw[Addr.add_lit];rw[List.getElem?_take]at hj;split at hj;exact hcs j v hj;cases hj)
 have hrz:∀ty,(Builtin.append_ #[76,3] ty #[.slice (some ⟨b,off,none⟩) i c,.int .i64 ((n:Int)+1-(i:Int))]).run Tryz.prog w=
   .ok (.slice (some ⟨w.heap.size,0,none⟩) (n+1) (grownCap w (n+1) c 98)) (w.drew.alloc (.cells ((cs.take (i*2)).toArray++Builtin.zeroCells wW.cells (n+1-i)++Builtin.zeroCells wW.cells (grownCap w (n+1) c 98-(n+1))) 98)):=fun ty=>by
  have h:=Lib.run_append_grow_zeros w 76 3 ty 98 i0 _ .i64 .i64 Tryz.underlying76 Tryz.underlying3 XC qx (some ⟨b,off,none⟩) i c (cs.take (i*2)) hold (n+1-i) (by omega) (by omega) (by omega) (by omega) (by rw[hzb];omega) (by rw[hzb,hik];exact growslice_fits hroom hbig);rw[hik]at h;rw[hkk];exact h
 obtain⟨G,hG⟩:∃G,G=grownCap w (n+1) c 98:=⟨_,rfl⟩;obtain⟨ROW,hROW⟩:∃ROW:Array Value,ROW=(cs.take (i*2)).toArray++Builtin.zeroCells wW.cells (n+1-i)++Builtin.zeroCells wW.cells (G-(n+1)):=⟨_,rfl⟩;rw[<-hG]at hrz ⊢;rw[<-hROW]at hrz ⊢;have hRl:(n+1)*2<=ROW.size:=by rw[hROW];simp[Builtin.zeroCells,wW,Value.cells,hcl];omega
 obtain⟨W1,AB⟩:∃W1,W1=w.drew.alloc (.cells ROW 98):=⟨_,rfl⟩;rw[<-AB]at hrz;have hN:∀j,j<(n+1)*2->(W1.cell? ⟨w.heap.size,j,none⟩).isSome=true:=fun j hj=>by rw[AB,World.cell?_alloc_at (w:=w.drew) ROW _ w.heap.size j rfl,Array.getElem?_eq_getElem (by omega)];rfl
 have hNf:∀j,W1.frozen? ⟨w.heap.size,j,none⟩=false:=fun j=>by rw[AB];exact World.frozen?_alloc_at (w:=w.drew) ROW _ w.heap.size j rfl
 have hOb:∀j v,w.cell? ⟨b,j,none⟩=some v->W1.cell? ⟨b,j,none⟩=some v:=fun j v h=>by rw[AB,World.cell?_alloc_past (w:=w.drew) _ b j hbw];exact h
 have hOv:∀j v,w.cell? ⟨vb,j,none⟩=some v->W1.cell? ⟨vb,j,none⟩=some v:=fun j v h=>by rw[AB,World.cell?_alloc_past (w:=w.drew) _ vb j hvw];exact h
 have hcpA:∀(W:World),(∀x,W.cell? x=W1.cell? x)->(∀x,W.frozen? x=W1.frozen? x)->∀ty dc,(Builtin.copy_ #[76,76] ty #[.slice (some ⟨w.heap.size,i*2,none⟩) (n+1-i) dc,.slice (some ⟨vb,0,none⟩) 1 1]).run Tryz.prog W=.ok (goInt 1) (W.setCells w.heap.size (i*2) vs):=fun W hWc hWf ty dc=>by
  have hmin:Nat.min 1 (n+1-i)=1:=by simp only[Nat.min_def];split<;>omega
  have:=Nf W 76 76 ty 98 2 w.heap.size (i*2) (n+1-i) dc ⟨vb,0,none⟩ 1 1 vs Tryz.underlying76 hsz (by rw[hvl,hmin])
   (fun j v hj=>by rw[Addr.add_lit,hWc];simpa using hOv _ v (hvs j v hj))
   (fun j hj=>by rw[hWc];exact hN _ (by omega)) (fun j hj=>by rw[hWf];exact hNf _) h1v
  rw[hmin]at this;exact this
 have hGn:n+1<=G:=by rw[hG];exact grownCap_ge w _ _ _
 have hG63:G<=9223372036854775807:=by have:=grownCap_le_maxLen w (n+1) c 98 (by unfold maxLen;omega);rw[<-hG]at this;unfold maxLen at this;omega
 have hGi:¬ (G=i):=by omega
 have hGim:¬ (G=i+1):=by omega
 have hci:¬ (c=i):=by omega
 have hbN:b≠w.heap.size:=by omega
 have hdl:(cs.drop (i*2)).length=(n-i)*2:=by rw[List.length_drop,hcl];omega
 have hcpB:∀(W:World),(∀x,W.cell? x=(W1.setCells w.heap.size (i*2) vs).cell? x)->(∀x,W.frozen? x=(W1.setCells w.heap.size (i*2) vs).frozen? x)->∀ty dc sc,(Builtin.copy_ #[76,76] ty #[.slice (some ⟨w.heap.size,(i+1)*2,none⟩) (n-i) dc,.slice (some ⟨b,off+i*2,none⟩) (n-i) sc]).run Tryz.prog W=.ok (goInt ((n-i:Nat):Int)) (W.setCells w.heap.size ((i+1)*2) (cs.drop (i*2))):=fun W hWc hWf ty dc sc=>by
  have hmin:Nat.min (n-i) (n-i)=n-i:=Nat.min_self _;have:=Nf W 76 76 ty 98 2 w.heap.size ((i+1)*2) (n-i) dc ⟨b,off+i*2,none⟩ (n-i) sc (cs.drop (i*2)) Tryz.underlying76 hsz (by rw[hdl,hmin])
   (fun j v hj=>by rw[Addr.add_lit,hWc,World.cell?_setCells_out _ _ _ _ _ (fun h _=>absurd h hbN),Nat.add_assoc];exact hOb _ v (hcs (i*2+j) v (by rwa [List.getElem?_drop]at hj)))
   (fun j hj=>by rw[hWc];exact isSome_setCells _ _ _ _ (fun t ht=>hN _ (by omega)) _ (hN _ (by omega)))
   (fun j hj=>by rw[hWf,World.frozen?_setCells];exact hNf _) (fun v hv=>h1c v (List.mem_of_mem_drop hv))
  rw[hmin]at this;exact this
 subst AB;have wl:∀x,((w.alloc (.cells ROW 98)).drew).cell? x=(w.drew.alloc (.cells ROW 98)).cell? x:=fun x=>rfl;have hE2:∀x,((w.alloc (.cells ROW 98)).drew).frozen? x=(w.drew.alloc (.cells ROW 98)).frozen? x:=fun x=>rfl;have Gt:∀x,(((w.alloc (.cells ROW 98)).drew.setCells w.heap.size (i*2) vs).drew).cell? x=((w.drew.alloc (.cells ROW 98)).setCells w.heap.size (i*2) vs).cell? x:=fun x=>rfl;have Gs:∀x,(((w.alloc (.cells ROW 98)).drew.setCells w.heap.size (i*2) vs).drew).frozen? x=((w.drew.alloc (.cells ROW 98)).setCells w.heap.size (i*2) vs).frozen? x:=fun x=>rfl;have XA:IntKind.i64.wrap ((i:Int)+1)=(i:Int)+1:=by rw[IntKind.wrap_i64];omega
 have rK:(0:Int)<=(i:Int)+1:=by omega
 have hin:i<=n:=by omega
 have htn:((i:Int)+1).toNat=i+1:=by omega
 have hb3:(i:Int)<=(n:Int):=by omega
 have mixed:Tryz.prog.follows .mixedOrders=true:=by kernel_rfl
 clear hkk hik hold hROW hG hRl
 go_enter Tryz.func77,Tryz.ntmps77
 go_wp2_with (first
  |(at_builtin;refine Lib.wpList_append_run _ rfl _ _ _ _ rfl _ _ rfl rfl _ _ (hrz _) ?_)
  |(at_builtin;refine wpList_copy_runI _ rfl _ _ 76 76 rfl _ _ rfl rfl (hcpA _ wl hE2 _ _) ?_)
  |(at_builtin;refine wpList_copy_runI _ rfl _ _ 76 76 rfl _ _ rfl rfl (hcpB _ (fun _=>rfl) (fun _=>rfl) _ _ _) ?_))
 go_region_law_o (refine step_copy_runI rfl _ _ 76 76 rfl (.slice (some ⟨w.heap.size,(i+1)*2,none⟩) (n-i) (G-(i+1))) (.slice (some ⟨b,off+i*2,none⟩) (n-i) (c-i)) (by simp[Act.eval,Act.put]) (by simp[Act.eval,Act.put]) (hcpB _ Gt Gs 3 (G-(i+1)) (c-i)) ?_)
 go_wp2
 go_ret
 exact⟨rfl,rfl⟩
theorem Cj(b:Nat)(t:TypeId):∀(vs:List Value)(o:Nat)(cur:Array Value)(w:World),w.heap[b]? = some (.cells cur t (0,0))->o+vs.length<=cur.size->
  w.setCells b o vs=w.setRow b (cur.toList.take o++vs++cur.toList.drop (o+vs.length)).toArray
 |[],o,cur,w,hg,_=>by simp only[World.setCells,List.append_nil,zS,Nat.add_zero,List.take_append_drop,Array.toArray_toList];rw[setRow_self w b cur t (0,0) hg]
 |v::r,o,cur,w,hg,hl=>by
  have hi:o<cur.size:=by simp at hl;omega
  have ih:=Cj b t r (o+1) (cur.setIfInBounds o v) (w.setRow b (cur.setIfInBounds o v)) (setRow_heap w b cur _ t _ hg) (by simp at hl ⊢;omega);rw[World.setCells,setCell_eq_setRow w b o cur t (0,0) v hg,ih,setRow_setRow];congr 2;have e:=list_seg_step cur.toList o v r (by simp at hl ⊢;omega);simpa[Array.toList_setIfInBounds,Nat.add_assoc]using e
variable{w:World}
variable{b:Nat}
variable{e:TypeId}
theorem Wq{pre l:List Value}(h:w.heap[b]? = some (.cells (pre++l).toArray e (0,0))){off:Nat}(ho:pre.length=off)(j:Nat):w.cell? ⟨b,off+j,none⟩=l[j]?:=by
 subst ho;simp[World.cell?,h,List.getElem?_append_right]
theorem Yk{c:Array Value}(h:w.heap[b]? = some (.cells c e (0,0)))(o:Nat):w.frozen? ⟨b,o,none⟩=false:=by
 simp[World.frozen?,h]
theorem cz{c:Array Value}(h:w.heap[b]? = some (.cells c e (0,0))):w.shape? b=some (e,c.size):=by
 simp[World.shape?,h]
namespace InsZ
open Go.Rx Go.Vx
theorem z5w{m aC:Nm}{s b7:S}{w₁ lD:World}(h:bD m s w aC b7 w₁)(hh:lD.heap=w₁.heap)(h1:lD.os=w₁.os)(h2:lD.tape=w₁.tape)(h3:lD.output=w₁.output):bD m s w aC b7 lD:=by
 refine⟨h.agree,h.nx,fun m' hm'=>?_,h.own,fun b hb hn=>by rw[hh];exact h.same b hb hn,by rw[hh];exact h.size,h1.trans h.os,h2.trans h.tape,h3.trans h.output⟩;have hf:=h.fits m' hm';exact⟨fun i b hb=>(hf.ok i b hb).world (by rw[hh]),hf.inj,hf.bd⟩
theorem ins_lt{i k:Nat}{p q nu:List U}{pv qv nv:List Value}(hp:dK p=some pv)(hq:dK q=some qv)(hnu:dK nu=some nv)(okp:okL p=true)(okq:okL q=true)(okn:okL nu=true)
  (lp:pv.length=i*2) (lq:qv.length=k*2) (ln:nv.length=2) (hk:0<k) (rp:∀m,aE m pv=pv) (rq:∀m,aE m qv=qv) (rn:∀m,aE m nv=nv) (op:∀v∈pv,v.oneCell'=true) (oq:∀v∈qv,v.oneCell'=true) (on:∀v∈nv,v.oneCell'=true)
  (hbig:(i+k+1)*16<=140737488355328) (t:Nat):
  aY Tryz.prog 77 [.vl 0 t 0 (i+k),.int .i64 i,.sl 1 0 1 1] ⟨[(0,.vec (p++q) 98 2 t),(1,.row nu 98)],2⟩ (fun u σ'=>u=.vl 0 (t+1) 0 (i+k+1)/\σ'=⟨[(0,.vec (p++nu++q) 98 2 (t+1)),(1,.row nu 98)],2⟩):=by
 intro F x vs m w cargs hx hh hfr he hfit hargs;obtain⟨v0,XZ,rfl,h0,he⟩:=he.inv;obtain⟨v1,so,rfl,h1,he⟩:=he.inv;obtain⟨v2,E8,rfl,h2,he⟩:=he.inv;have:=he.nil_inv;subst this;simp only[aA]at h0 h1 h2;subst h1;have hg:gt x.σ.h 0=some (.vec (p++q) 98 2 t):=by rw[hx];rfl
 have zq:gt x.σ.h 1=some (.row nu 98):=by rw[hx];rfl
 obtain⟨_,hK,h0⟩:=h0;obtain⟨l,e',sz,hb,hvl⟩:=(h0 _ hg).2 rfl;cases hb;obtain⟨_,hBk⟩:=hh.ok 0 _ hg;obtain⟨_,_,hB⟩:=hBk;rcases hB with⟨hn,_⟩|⟨i0,l',hρ,hlk,hE⟩;exfalso;have:q=[]:=(List.append_eq_nil_iff.1 hn).2;subst this;simp only[dK,zA]at hq;subst hq;simp at lq;omega;rw[hρ]at hvl;simp only[DZ]at hvl;rcases hvl with⟨hbad,_⟩|rfl;omega;have hl':=(A3 _ _ (Br hp hq) x l').1 hE;subst hl';obtain⟨_,_,h2⟩:=h2;obtain⟨i1,Gf,rfl,_,_⟩:=(h2 _ zq).2 rfl;obtain⟨_,i1',l1,LG,RR,wl⟩:=(hh.ok 1 _ zq).2;rw[Gf]at LG;cases LG;have xW:=(A3 _ _ hnu x l1).1 wl;rw[xW]at RR;have h01:i0≠i1:=fun e=>by have:=hh.inj 0 1 _ _ i0 hg zq hρ (by rw[Gf,e]);omega
 have hfit0:=hfit m (aH.refl _ _);have hblk:m.blk i0≠m.blk i1:=hfit0.inj i0 i1 _ _ hlk RR h01 rfl;obtain⟨pre,rest,hheap,hpre,hcap⟩:=(hfit0.ok i0 _ hlk:vV m i0 _ 98 w 4);obtain⟨zk,hheap1⟩:=(hfit0.ok i1 _ RR:vV m i1 _ 98 w 0);have rpq:∀m,aE m (pv++qv)=pv++qv:=fun m=>by rw[tD,rp,rq]
 have rpnq:∀m,aE m (pv++nv++qv)=pv++nv++qv:=fun m=>by rw[tD,tD,rp,rn,rq]
 rw[rpq]at hheap;rw[rn]at hheap1;have hcargs:=hargs.at;simp only[aE,aD,wI]at hcargs;subst hcargs;have ec:bJ m i0 (bL+0)=m.cp i0:=by simp[bJ,bE]
 have ec1:bJ m i1 1=1:=by simp[bJ,bL]
 rw[ec,ec1,zk];have hlen:(pv++qv).length=(i+k)*2:=by rw[zU,lp,lq];omega
 rw[hlen]at hcap;replace hcap:(i+k)*2+rest.length=m.cp i0*2:=hcap;have hheap':w.heap[m.blk i0]? = some (.cells (pre++((pv++qv)++rest)).toArray 98 (0,0)):=by rw[hheap,zT]
 have hcs:∀j v,(pv++qv)[j]? = some v->w.cell? ⟨m.blk i0,m.sh i0+0*2+j,none⟩=some v:=fun j v hv=>by rw[Nat.zero_mul,Nat.add_zero,Wq hheap' hpre j,List.getElem?_append_left (zG.1 hv).1,hv]
 have hvs:∀j v,nv[j]? = some v->w.cell? ⟨m.blk i1,j,none⟩=some v:=fun j v hv=>by have:=Wq (pre:=[]) (l:=nv) hheap1 (off:=0) rfl j;rw[Nat.zero_add]at this;rw[this,hv]
 have h1c:∀v∈pv++qv,v.oneCell'=true:=fun v hv=>(yD.1 hv).elim (op v) (oq v);have htk:(pv++qv).take (i*2)=pv:=by rw[<-lp];exact List.take_left
 have hdr:(pv++qv).drop (i*2)=qv:=by rw[<-lp];exact List.drop_left
 have XC:i0<x.s.nx:=hh.bd i0 _ hlk;have hoknew:okL (p++nu++q)=true:=BZ (BZ okp okn) okq;have hto:dK (p++nu++q)=some (pv++nv++qv):=Br (Br hp hnu) hq;have hσ:∀l,(⟨ug x.σ.h 0 (.vec l 98 2 (t+1)),x.σ.nx⟩:Sg)=⟨[(0,.vec l 98 2 (t+1)),(1,.row nu 98)],2⟩:=fun l=>by rw[hx];rfl
 by_cases hroom:i+k+1<=m.cp i0;have hc:=z2u (m.blk i0) (m.sh i0+0*2) (i+k) (m.cp i0) i (m.blk i1) (pv++qv) nv w (by omega) hroom (by omega) (Ne.symm hblk) hlen ln hcs
  (fun j hj=>by
   rw[Nat.zero_mul,Nat.add_zero,Wq hheap' hpre j];have:j<((pv++qv)++rest).length:=by rw[zU,hlen];omega
   rw[List.getElem?_eq_getElem this];rfl)
  (fun j _=>Yk hheap' _) hvs h1c on 98 98 nv.toArray.size _ (cz hheap1) (cz hheap') (by rw[List.size_toArray,zU,zU,hlen];omega) (Yk hheap1 _) (Yk hheap1 _)
 refine(show Calls Tryz.prog 77 _ w _ from hc).mono ?_;rintro e1 w' ⟨rfl,rfl⟩;rw[hdr];have hd:w.drew.heap[m.blk i0]? = some (.cells (pre++((pv++qv)++rest)).toArray 98 (0,0)):=hheap';obtain⟨r1,r2,rfl,XB⟩:∃r1 r2:List Value,rest=r1++r2/\r1.length=2:=⟨rest.take 2,rest.drop 2,(List.take_append_drop 2 rest).symm,by rw[List.length_take];omega⟩;obtain⟨q1,q2,rfl,I5⟩:∃q1 q2:List Value,qv=q1++q2/\q1.length=2:=⟨qv.take 2,qv.drop 2,(List.take_append_drop 2 qv).symm,by rw[List.length_take];omega⟩;have key:(w.drew.setCells (m.blk i0) (m.sh i0+0*2+(i+1)*2) (q1++q2)).setCells (m.blk i0) (m.sh i0+0*2+i*2) nv=w.drew.setRow (m.blk i0) (pre++(pv++nv++(q1++q2))++r2).toArray:=by
  have zi:(pre++((pv++(q1++q2))++(r1++r2))).length=m.sh i0+(i*2+k*2)+(2+r2.length):=by simp only[zU]at hlen lq ⊢;omega
  rw[Cj (m.blk i0) 98 _ _ _ _ hd (by rw[List.size_toArray,zi];omega)];have e1:(pre++((pv++(q1++q2))++(r1++r2))).take (m.sh i0+0*2+(i+1)*2)=pre++pv++q1:=by rw[show pre++((pv++(q1++q2))++(r1++r2))=(pre++pv++q1)++(q2++(r1++r2)) by simp[zT]];rw[show m.sh i0+0*2+(i+1)*2=(pre++pv++q1).length by simp only[zU];omega];exact List.take_left
  have e2:(pre++((pv++(q1++q2))++(r1++r2))).drop (m.sh i0+0*2+(i+1)*2+(q1++q2).length)=r2:=by rw[show pre++((pv++(q1++q2))++(r1++r2))=(pre++pv++(q1++q2)++r1)++r2 by simp[zT]];rw[show m.sh i0+0*2+(i+1)*2+(q1++q2).length=(pre++pv++(q1++q2)++r1).length by simp only[zU];omega];exact List.drop_left
  simp only[List.toList_toArray]at*;rw[e1,e2];rw[Cj (m.blk i0) 98 _ _ _ _ (setRow_heap w.drew _ _ _ 98 _ hd) (by rw[List.size_toArray];simp only[zU];omega),setRow_setRow];congr 2;simp only[List.toList_toArray];have e3:(pre++pv++q1++(q1++q2)++r2).take (m.sh i0+0*2+i*2)=pre++pv:=by rw[show pre++pv++q1++(q1++q2)++r2=(pre++pv)++(q1++(q1++q2)++r2) by simp[zT]];rw[show m.sh i0+0*2+i*2=(pre++pv).length by simp only[zU];omega];exact List.take_left
  have e4:(pre++pv++q1++(q1++q2)++r2).drop (m.sh i0+0*2+i*2+nv.length)=q1++q2++r2:=by rw[show pre++pv++q1++(q1++q2)++r2=(pre++pv++q1)++(q1++q2++r2) by simp[zT]];rw[show m.sh i0+0*2+i*2+nv.length=(pre++pv++q1).length by simp only[zU];omega];exact List.drop_left
  rw[e3,e4];simp[zT]
 rw[key];have hfin:(w.drew.setRow (m.blk i0) (pre++(pv++nv++(q1++q2))++r2).toArray).heap[m.blk i0]? = some (.cells (pre++(pv++nv++(q1++q2))++r2).toArray 98 (0,0)):=setRow_heap w.drew _ _ _ 98 _ hd;have hadv:bD m x.s w m ⟨up x.s.h i0 (.inl (pv++nv++(q1++q2),98,4)),x.s.nx⟩ (w.drew.setRow (m.blk i0) (pre++(pv++nv++(q1++q2))++r2).toArray):=by refine bD.write hfit hlk rfl (fun j hj=>by rw[setRow_other _ _ _ _ hj];rfl) (by unfold World.setRow;exact Array.size_modify) rfl rfl rfl (Nat.le_succ _) fun m' ha=>?_;obtain⟨a1,a2,a3⟩:=ha i0 XC;refine⟨pre,r2,by rw[a1,rpnq];exact hfin,by rw[a2];exact hpre,?_⟩;rw[a3];simp only[zU]at hcap hlen lq ⊢;omega
 have hout:=UY hh hg (some i0) ⟨up x.s.h i0 (.inl (pv++nv++(q1++q2),98,4)),x.s.nx⟩ (l1:=p++nu++q) (fun j b hb hne=>by
   have:i0≠j:=fun e=>hne (by rw[hρ,e]);simp only[tV,if_neg this];exact hb) (fun j hj=>.inl (by rw[hρ];exact hj)) (fun j b hb=>by
   simp only[tV]at hb;split at hb;rename_i e;subst e;exact XC;exact hh.bd j _ hb) hoknew (fun y _ _=>.inr ⟨i0,_,rfl,by simp only[tV,if_true,hlk,zM],(A3 _ _ hto y _).2 rfl⟩)
 refine⟨_,m,.vl 0 (t+1) 0 (i+k+1),.slice (some ⟨i0,0*2,none⟩) (i+k+1) (bL+0),_,rfl,⟨rfl,hσ _⟩,hadv,fun m' hm'=>?_,hout.h,hout.fr F hfr,UQ hh hg rfl (.inr rfl),hout.mo.ke,zF _⟩;obtain⟨a1,a2,a3⟩:=hm' i0 XC;simp only[aD];rw[a1,a2];simp[bJ,bE,a3];have hgr:=z6v (m.blk i0) (m.sh i0+0*2) (i+k) (m.cp i0) i (m.blk i1) (pv++qv) nv w (by omega) (by omega) (by omega) hbig hlen ln hcs hvs h1c on;refine(show Calls Tryz.prog 77 _ w _ from hgr).mono ?_;rintro e1 w' ⟨rfl,rfl⟩;rw[hdr,htk];have hGn:i+k+1<=grownCap w (i+k+1) (m.cp i0) 98:=grownCap_ge w _ _ _;generalize grownCap w (i+k+1) (m.cp i0) 98=G at hGn;obtain⟨Z1,hZ1,hZl⟩:∃Z:List Value,Builtin.zeroCells wW.cells (i+k+1-i)=Z.toArray/\Z.length=(k+1)*2:=⟨_,(Array.toArray_toList).symm,by simp[Builtin.zeroCells,wW,Value.cells];omega⟩;obtain⟨Z2,hZ2,wg⟩:∃Z:List Value,Builtin.zeroCells wW.cells (G-(i+k+1))=Z.toArray/\Z.length=(G-(i+k+1))*2:=⟨_,(Array.toArray_toList).symm,by simp[Builtin.zeroCells,wW,Value.cells]⟩;rw[hZ1,hZ2];obtain⟨za,zb,rfl,hza⟩:∃za zb:List Value,Z1=za++zb/\za.length=2:=⟨Z1.take 2,Z1.drop 2,(List.take_append_drop 2 Z1).symm,by rw[List.length_take];omega⟩;have hzb:zb.length=k*2:=by rw[zU]at hZl;omega
 have hrow:pv.toArray++(za++zb).toArray++Z2.toArray=(pv++(za++zb)++Z2).toArray:=by simp
 rw[hrow];have Sy:((w.alloc (.cells (pv++(za++zb)++Z2).toArray 98)).drew).heap[w.heap.size]? = some (.cells (pv++(za++zb)++Z2).toArray 98 (0,0)):=by show(w.heap.push _)[w.heap.size]? = _;simp
 have qm:((w.alloc (.cells (pv++(za++zb)++Z2).toArray 98)).drew).setCells w.heap.size (i*2) nv=((w.alloc (.cells (pv++(za++zb)++Z2).toArray 98)).drew).setRow w.heap.size (pv++nv++zb++Z2).toArray:=by
  rw[Cj w.heap.size 98 _ _ _ _ Sy (by rw[List.size_toArray];simp only[zU];omega)];congr 2;simp only[List.toList_toArray];have e3:(pv++(za++zb)++Z2).take (i*2)=pv:=by rw[zT,<-lp];exact List.take_left
  have e4:(pv++(za++zb)++Z2).drop (i*2+nv.length)=zb++Z2:=by rw[show pv++(za++zb)++Z2=(pv++za)++(zb++Z2) by simp[zT]];rw[show i*2+nv.length=(pv++za).length by simp only[zU];omega];exact List.drop_left
  rw[e3,e4];simp[zT]
 have FK:((((w.alloc (.cells (pv++(za++zb)++Z2).toArray 98)).drew).setRow w.heap.size (pv++nv++zb++Z2).toArray).drew).heap[w.heap.size]? = some (.cells (pv++nv++zb++Z2).toArray 98 (0,0)):=setRow_heap _ _ _ _ 98 _ Sy;have ql:((((w.alloc (.cells (pv++(za++zb)++Z2).toArray 98)).drew).setRow w.heap.size (pv++nv++zb++Z2).toArray).drew).setCells w.heap.size ((i+1)*2) qv=((((w.alloc (.cells (pv++(za++zb)++Z2).toArray 98)).drew).setRow w.heap.size (pv++nv++zb++Z2).toArray).drew).setRow w.heap.size (pv++nv++qv++Z2).toArray:=by
  rw[Cj w.heap.size 98 _ _ _ _ FK (by rw[List.size_toArray];simp only[zU];omega)];congr 2;simp only[List.toList_toArray];have e3:(pv++nv++zb++Z2).take ((i+1)*2)=pv++nv:=by rw[show pv++nv++zb++Z2=(pv++nv)++(zb++Z2) by simp[zT]];rw[show(i+1)*2=(pv++nv).length by simp only[zU];omega];exact List.take_left
  have e4:(pv++nv++zb++Z2).drop ((i+1)*2+qv.length)=Z2:=by rw[show(i+1)*2+qv.length=(pv++nv++zb).length by simp only[zU];omega];exact List.drop_left
  rw[e3,e4]
 rw[qm,ql];have hheapeq:(((((w.alloc (.cells (pv++(za++zb)++Z2).toArray 98)).drew).setRow w.heap.size (pv++nv++zb++Z2).toArray).drew).setRow w.heap.size (pv++nv++qv++Z2).toArray).heap=(w.alloc (.cells (pv++nv++qv++Z2).toArray 98)).heap:=by apply Array.ext_getElem?;intro j;by_cases hj:j=w.heap.size;subst hj;rw[setRow_heap _ _ _ _ 98 _ FK];show _=(w.heap.push _)[w.heap.size]?;simp;rw[setRow_other _ _ _ _ hj];show(((w.alloc (.cells (pv++(za++zb)++Z2).toArray 98)).drew).setRow w.heap.size (pv++nv++zb++Z2).toArray).heap[j]? = _;rw[setRow_other _ _ _ _ hj];show(w.heap.push _)[j]? = (w.heap.push _)[j]?;simp only[Array.getElem?_push,if_neg hj]
 have hadv:bD m x.s w (m.set x.s.nx w.heap.size 0 G) ⟨(x.s.nx,.inl (pv++nv++qv,98,4))::x.s.h,x.s.nx+1⟩ (((((w.alloc (.cells (pv++(za++zb)++Z2).toArray 98)).drew).setRow w.heap.size (pv++nv++zb++Z2).toArray).drew).setRow w.heap.size (pv++nv++qv++Z2).toArray):=by refine z5w (bD.alloc hfit (.cells (pv++nv++qv++Z2).toArray 98) (.inl (pv++nv++qv,98,4)) G fun m' ha=>?_) hheapeq rfl rfl rfl;obtain⟨a1,a2,a3⟩:=ha x.s.nx (zN _);simp only[Nm.set,if_true]at a1 a2 a3;refine⟨[],Z2,?_,by rw[a2];rfl,?_⟩;rw[a1,rpnq,List.nil_append];show(w.heap.push _)[w.heap.size]? = _;simp;rw[a3,wg];simp only[zU];omega
 have hout:=UY hh hg (some x.s.nx) ⟨(x.s.nx,.inl (pv++nv++qv,98,4))::x.s.h,x.s.nx+1⟩ (l1:=p++nu++q) (fun j b hb hne=>by
   have h3:=hh.bd j b hb;rw[jY,if_neg (show x.s.nx≠j by omega)];exact hb) (fun j hj=>.inr (by cases hj;exact zF _)) (fun j b hb=>by
   rw[jY]at hb;split at hb;rename_i e;subst e;exact zN _;exact Nat.lt_succ_of_lt (hh.bd j _ hb)) hoknew (fun y _ _=>.inr ⟨x.s.nx,_,rfl,by rw[jY,if_pos rfl],(A3 _ _ hto y _).2 rfl⟩)
 refine⟨_,m.set x.s.nx w.heap.size 0 G,.vl 0 (t+1) 0 (i+k+1),.slice (some ⟨x.s.nx,0*2,none⟩) (i+k+1) (bL+0),_,rfl,⟨rfl,hσ _⟩,hadv,fun m' hm'=>?_,hout.h,hout.fr F hfr,UQ hh hg rfl (.inr rfl),hout.mo.ke,zF _⟩;obtain⟨a1,a2,a3⟩:=hm' x.s.nx (zN _);simp only[Nm.set,if_true]at a1 a2 a3;simp only[aD];rw[a1,a2];simp[bJ,bE,a3]
end InsZ
end Go.Proofs
namespace Go.Proofs
open Go Go.Rx Go.Vx
set_option maxHeartbeats 1000000
def Ry(n:Nat)(p1:Int)(p2:List aF)(p4:Int)(p5:Int):Option (List aF):=
 aB (0<=p1/\p1<=(p2.length:Int)/\(p2.length+1)*16<=140737488355328) (some (p2.take p1.toNat++aF.mk p4 p5::p2.drop p1.toNat))
def tT(x:aF):List Value:=[.int .i64 x.Feat,.int .i64 x.To]
theorem Xk(l:List aF):∀v∈(l.map tT).flatten,v.oneCell'=true:=fun v hv=>by
 obtain⟨q,h1,h2⟩:=List.mem_flatten.1 hv;obtain⟨x,_,rfl⟩:=List.mem_map.1 h1;simp only[tT,zI,List.not_mem_nil,or_false]at h2;rcases h2 with rfl |rfl;rfl;rfl
theorem cg(m:Nm)(l:List aF):aE m ((l.map tT).flatten)=(l.map tT).flatten:=ee (enc:=tT) (fun m x=>by simp[tT,aE,aD]) m l
theorem qh8(n:Nat)(p1:Int)(p2:List aF)(p4:Int)(p5:Int)(r:List aF)(J:Ry n p1 p2 p4 p5=some r):∀t3:Nat,aY Tryz.prog 77 [.vl 0 t3 0 p2.length,.int .i64 p1,.sl 1 0 1 1] ⟨[(0,.vec (p2.map aN).flatten 98 2 t3),(1,.row [.int .i64 p4,.int .i64 p5] 98)],2⟩ (fun u σ'=>∃t:Nat->Nat,u=.vl 0 (t 0) 0 r.length/\σ'=⟨[(0,.vec (r.map aN).flatten 98 2 (t 0)),(1,.row [.int .i64 p4,.int .i64 p5] 98)],2⟩):=by
 intro t3;obtain⟨⟨h1,h2,h3⟩,hr⟩:=cC J;have hr:=Option.some.inj hr;subst hr;obtain⟨i,rfl⟩:∃i:Nat,p1=(i:Int):=⟨p1.toNat,by omega⟩;rw[zZ];by_cases he:i=p2.length;subst he;have hE:Rs n (p2.length:Int) p2 p4 p5=some (p2++[aF.mk p4 p5]):=by
  unfold Rs;have e1:((p2.length:Int)==(p2.length:Int))=true:=by simp
  rw[gh ⟨by omega,by omega⟩,e1,gh ⟨by omega,by omega⟩];rfl
 have:=qiz n _ p2 p4 p5 _ hE t3;rw[zW (zF _),List.drop_of_length_le (zF _)];exact this;have hi:i<p2.length:=by omega
 clear J;have e0:i+(p2.length-i)=p2.length:=by omega
 have hbig:(i+(p2.length-i)+1)*16<=140737488355328:=by rw[e0];exact h3
 have hk:0<p2.length-i:=Nat.sub_pos_of_lt hi;have hp:dK (((p2.take i).map aN).flatten)=some (((p2.take i).map tT).flatten):=Xp (encU:=aN) (enc:=tT) (fun _=>rfl) (p2.take i);have hq:dK (((p2.drop i).map aN).flatten)=some (((p2.drop i).map tT).flatten):=Xp (encU:=aN) (enc:=tT) (fun _=>rfl) (p2.drop i);have okp:okL (((p2.take i).map aN).flatten)=true:=Ww (encU:=aN) (fun _=>rfl) _;have okq:okL (((p2.drop i).map aN).flatten)=true:=Ww (encU:=aN) (fun _=>rfl) _;have lp:(((p2.take i).map tT).flatten).length=i*2:=by rw[tn (enc:=tT) (k:=2) (fun _=>rfl),List.length_take];omega
 have lq:(((p2.drop i).map tT).flatten).length=(p2.length-i)*2:=by rw[tn (enc:=tT) (k:=2) (fun _=>rfl),List.length_drop]
 have rp:=fun m=>cg m (p2.take i);have rq:=fun m=>cg m (p2.drop i);have op:=Xk (p2.take i);have oq:=Xk (p2.drop i);have rn:∀m,aE m [Value.int .i64 p4,Value.int .i64 p5]=[Value.int .i64 p4,Value.int .i64 p5]:=fun m=>by simp[aE,aD]
 have on:∀v∈[Value.int .i64 p4,Value.int .i64 p5],v.oneCell'=true:=Xk [aF.mk p4 p5];generalize hpv:((p2.take i).map tT).flatten=pv at*;generalize hqv:((p2.drop i).map tT).flatten=qv at*;have hnu:dK [U.int .i64 p4,U.int .i64 p5]=some [Value.int .i64 p4,Value.int .i64 p5]:=rfl;have okn:okL [U.int .i64 p4,U.int .i64 p5]=true:=rfl;have ln:[Value.int .i64 p4,Value.int .i64 p5].length=2:=rfl;have key:=InsZ.ins_lt hp hq hnu okp okq okn lp lq ln hk rp rq rn op oq on hbig t3;have e1:i+(p2.length-i)=p2.length:=by omega
 have e2:((p2.take i).map aN).flatten++((p2.drop i).map aN).flatten=(p2.map aN).flatten:=by rw[<-List.flatten_append,<-List.map_append,List.take_append_drop]
 have e3:((p2.take i).map aN).flatten++[.int .i64 p4,.int .i64 p5]++((p2.drop i).map aN).flatten=((p2.take i++aF.mk p4 p5::p2.drop i).map aN).flatten:=by rw[List.map_append,List.flatten_append,zQ,List.flatten_cons,zT];rfl
 have e4:(p2.take i++aF.mk p4 p5::p2.drop i).length=p2.length+1:=by rw[zU,zO,List.length_take,List.length_drop];omega
 rw[e1,e2,e3]at key;rw[e4];exact key.mono fun u σ' ⟨q1,q2⟩=>⟨fun _=>t3+1,q1,q2⟩
end Go.Proofs
namespace Go.Vx
open Go Go.Rx
theorem aY.maker{P:Program}{f:FuncId}{args l:List U}{e:TypeId}(h:∀s,aY P f args s (fun u s'=>∃t:Nat->Nat,u=.ptr (s.nx+1) 0 0/\s'=⟨(s.nx+1,.row l e)::s.h,s.nx+2⟩))[hl:dQ 0 l](s:Sg):
  aY P f args s (fun u s'=>u=nN none s.nx/\s'=cY s (.row l e)):=fun F x vs m w cargs hx hh hfr he hfit hargs=>by
 refine(h s F x vs m w cargs hx hh hfr he hfit hargs).mono ?_;rintro ex w₁ ⟨y,aC,u,v,cv,q1,⟨_,rfl,q2⟩,q3,q4,q5,q6,q7,q8,q9⟩;subst hx;have hlt:∀j b,gt x.σ.h j=some b->j<x.σ.nx+1:=fun j b hb=>by have:=(hh.ok j b hb).1;omega
 have hgk:gt x.σ.h x.σ.nx=none:=by rcases hg:gt x.σ.h x.σ.nx with _|b;rfl;have:=(hh.ok _ b hg).1;omega
 obtain⟨y',z1,z2,z3,z4,z5,z6,z7⟩:=mj (F:=F) (nx0:=x.σ.nx) (k:=x.σ.nx) (σ:=⟨x.σ.h,x.σ.nx+1⟩) q2 q5 q6 (zF _) (zN _) hgk hlt hl.h (fun j b hb=>(hh.ok j b hb).2.belB);exact⟨y',aC,_,v,cv,q1,⟨rfl,z1⟩,by rw[z2];exact q3,by rw[z2];exact q4,z3,z4,z6 none v q7,q8.trans z5,by rw[z1];show x.σ.nx<=x.σ.nx+1;omega⟩
end Go.Vx
