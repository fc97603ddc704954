import Derived.Shelf.Spec.SlicesInsert
import Derived.Shelf.Spec.SlicesInsertGrow
import Derived.Shelf.RegionOpenPlain
import Derived.WalkKit
import Derived.Lib.Walk
import Derived.Lib.SliceRun
import Derived.Lib.JoinLaws
import Derived.Lib.AppendZeros
import Derived.Lib.Overlaps
import Derived.Laws.Externs
import Derived.Laws.IdiomCopy
import Derived.Test.YtldlchbgolpkaaaGreatP15
set_option linter.all false
namespace Go.Proofs
open Go.Shelf Go.RowKit Go.Lib
def kw{P:Program}(w:World)(dT sT ty Dz:X)(k:Nat)(b o dLen dCap:Nat)(a:Addr)(sLen sCap:Nat)(cs:I M)
  (hu:P.underlying dT=some (.slice Dz)) (hs:(P.info? Dz).map (·.size)=some k) (hn:cs.length=Nat.min sLen dLen*k) (tI:∀j v,cs[j]? = some v->w.cell? (a.add j)=some v) (hc:∀j,j<cs.length->(w.cell? ⟨b,o+j,none⟩).isSome=true) (hf:∀j,j<cs.length->w.frozen? ⟨b,o+j,none⟩=false) (h1:∀v∈cs,v.oneCell'=true):
  (Builtin.copy_ #[dT,sT] ty #[.slice (some ⟨b,o,none⟩) dLen dCap,.slice (some a) sLen sCap]).run P w=.ok (goInt (Nat.min sLen dLen)) (w.setCells b o cs):=by
 have hl:=run_loadCells_list (P:=P) w a cs tI;have bZ:=run_storeCells_cells (P:=P) b o cs 0 w (by simpa using hc) (by simpa using hf) h1;rcases hq:P.info? Dz with _|i;simp[hq]at hs;have hi:i.size=k:=by simpa[hq]using hs
 simp[Builtin.copy_,run_underlying hu,Builtin.lenOf,Builtin.firstCells,sizeOf,typeInfo,hq,hi,<-hn,hl,bZ]
set_option maxHeartbeats 4000000 in
set_option maxRecDepth 100000 in
def z47(b off n c i vb:Nat)(cs vs:I M)(w:World)(hi:i<n)(bN:n+1<=c)(hc63:n<4611686018427387904)(hvb:vb≠b)
  (eS:cs.length=n*2) (uO:vs.length=2) (uP:∀j v,cs[j]? = some v->w.cell? ⟨b,off+j,none⟩=some v) (v6:∀j,j<(n+1)*2->(w.cell? ⟨b,off+j,none⟩).isSome=true) (Xb:∀j,j<(n+1)*2->w.frozen? ⟨b,off+j,none⟩=false) (C5:∀j v,vs[j]? = some v->w.cell? ⟨vb,j,none⟩=some v) (Lk:∀v∈cs,v.oneCell'=true) (h1v:∀v∈vs,v.oneCell'=true) (tA tB:X) (kA kB:Nat) (hsa:w.shape? vb=some (tA,kA)) (hsb:w.shape? b=some (tB,kB)) (hkB:kB≠0) (Xe:w.frozen? ⟨vb,0,none⟩=false) (hfe:w.frozen? ⟨vb,kA,none⟩=false):
  Calls Tryz.prog 77 #[.slice (some ⟨b,off,none⟩) n c,.int .i64 i,.slice (some ⟨vb,0,none⟩) 1 1] w fun e w'=>e=.returned (.slice (some ⟨b,off,none⟩) (n+1) c)/\w'=(w.drew.setCells b (off+(i+1)*2) (cs.drop (i*2))).setCells b (off+i*2) vs:=by
 have A?:¬ ((i:Int)=(n:Int)):=by omega
 have dS:(Tryz.prog.info? 98).map (·.size)=some 2:=by kernel_rfl
 have z?:∀w,(sizeOf 98).run Tryz.prog w=.ok 2 w:=fun w=>by
  have h0:∃q,Tryz.prog.info? 98=some q/\q.size=2:=by rcases hq:Tryz.prog.info? 98 with _|q;rw[hq]at dS;cases dS;rw[hq]at dS;exact⟨q,rfl,by simpa using dS⟩
  obtain⟨q,h1,h2⟩:=h0;simp[sizeOf,typeInfo,h1,h2]
 have hov:∀lb cb,(callFunc 109 #[.slice (some ⟨vb,0,none⟩) 1 1,.slice (some ⟨b,off+(i+1)*2,none⟩) lb cb]).run Tryz.prog w=.ok (.value (.bool false)) w:=fun lb cb=>by
  rw[run_callFunc_extern Tryz.func109 (by kernel_rfl) (by kernel_rfl) (by kernel_rfl) (e:=Extern.SlicesOverlaps.overlaps #[76,76] #[4]) (by kernel_rfl),
   Lib.run_overlaps_apart w 76 4 98 Tryz.underlying76 2 z? ⟨vb,0,none⟩ ⟨b,off+(i+1)*2,none⟩ 1 1 lb cb hvb tA tB kA kB hsa hsb hkB Xe hfe]
  rfl
 have KL:(cs.drop (i*2)).length=(n-i)*2:=by rw[List.length_drop,eS];omega
 have Ko:IntKind.i64.wrap ((i:Int)+1)=(i:Int)+1:=by rw[IntKind.wrap_i64];omega
 have wZ:(0:Int)<=(i:Int)+1:=by omega
 have jD:i<=n:=by omega
 have htn:((i:Int)+1).toNat=i+1:=by omega
 have rK:¬ (c=i+1):=by omega
 have u99:(i:Int)<=(n:Int)+1:=by omega
 have u99:¬ (c=i):=by omega
 have Xl:∀ty dc sc,(Builtin.copy_ #[76,76] ty #[.slice (some ⟨b,off+(i+1)*2,none⟩) (n-i) dc,.slice (some ⟨b,off+i*2,none⟩) (n+1-i) sc]).run Tryz.prog w.drew=.ok (goInt ((n-i:Nat):Int)) (w.drew.setCells b (off+(i+1)*2) (cs.drop (i*2))):=fun ty dc sc=>by
  have nP:Nat.min (n+1-i) (n-i)=n-i:=by simp only[Nat.min_def];split<;>omega
  have:=kw w.drew 76 76 ty 98 2 b (off+(i+1)*2) (n-i) dc ⟨b,off+i*2,none⟩ (n+1-i) sc (cs.drop (i*2)) Tryz.underlying76 dS (by rw[KL,nP])
   (fun j v hj=>by rw[Addr.add_lit,Nat.add_assoc];exact uP (i*2+j) v (by rwa [List.getElem?_drop]at hj))
   (fun j hj=>by rw[Nat.add_assoc];exact v6 _ (by omega)) (fun j hj=>by rw[Nat.add_assoc];exact Xb _ (by omega)) (fun v hv=>Lk v (List.mem_of_mem_drop hv))
  rw[nP]at this;exact this
 obtain⟨W1,HH⟩:∃W1,W1=w.drew.setCells b (off+(i+1)*2) (cs.drop (i*2)):=⟨_,rfl⟩;have X?:∀k,k<(n+1)*2->(W1.cell? ⟨b,off+k,none⟩).isSome=true:=fun k hk=>by rw[HH];exact isSome_setCells b _ _ _ (fun j hj=>by rw[Nat.add_assoc];exact v6 _ (by omega)) _ (v6 k hk)
 have hcp2:∀(W:World),(∀x,W.cell? x=W1.cell? x)->(∀x,W.frozen? x=W1.frozen? x)->∀ty dc,(Builtin.copy_ #[76,76] ty #[.slice (some ⟨b,off+i*2,none⟩) (n+1-i) dc,.slice (some ⟨vb,0,none⟩) 1 1]).run Tryz.prog W=.ok (goInt 1) (W.setCells b (off+i*2) vs):=fun W UX Xu ty dc=>by
  have nP:Nat.min 1 (n+1-i)=1:=by simp only[Nat.min_def];split<;>omega
  have:=kw W 76 76 ty 98 2 b (off+i*2) (n+1-i) dc ⟨vb,0,none⟩ 1 1 vs Tryz.underlying76 dS (by rw[uO,nP])
   (fun j v hj=>by rw[Addr.add_lit,UX,HH,World.cell?_setCells_out b _ _ _ _ (fun h _=>absurd h hvb)];simpa using C5 j v hj)
   (fun j hj=>by rw[UX,Nat.add_assoc];exact X? _ (by omega)) (fun j hj=>by rw[Xu,HH,World.frozen?_setCells,Nat.add_assoc];exact Xb _ (by omega)) h1v
  rw[nP]at this;exact this
 rw[<-HH]at Xl;have mixed:Tryz.prog.follows .mixedOrders=true:=by kernel_rfl
 go_enter Tryz.func77,Tryz.ntmps77
 go_wp2_with (simp only[hov])
 go_region_law_o (refine step_copy_runI rfl _ _ 76 76 rfl _ _ (by simp[Act.eval,Act.put]) (by simp[Act.eval,Act.put]) (Xl _ _ _) ?_)
 go_wp2_with (at_builtin;refine wpList_copy_runI _ rfl _ _ 76 76 rfl _ _ rfl rfl (hcp2 _ (fun _=>rfl) (fun _=>rfl) _ _) ?_)
 go_ret
 first |exact⟨rfl,rfl⟩|exact⟨rfl,by rw[HH]⟩
def E6:M:=.agg #[.int .i64 0,.int .i64 0]
set_option maxHeartbeats 4000000 in
set_option maxRecDepth 100000 in
def z7y(b off n c i vb:Nat)(cs vs:I M)(w:World)(hi:i<n)(v7:n<=c)(bN:c<n+1)(wY:(n+1)*16<=140737488355328)(eS:cs.length=n*2)(uO:vs.length=2)
  (uP:∀j v,cs[j]? = some v->w.cell? ⟨b,off+j,none⟩=some v) (C5:∀j v,vs[j]? = some v->w.cell? ⟨vb,j,none⟩=some v) (Lk:∀v∈cs,v.oneCell'=true) (h1v:∀v∈vs,v.oneCell'=true):
  Calls Tryz.prog 77 #[.slice (some ⟨b,off,none⟩) n c,.int .i64 i,.slice (some ⟨vb,0,none⟩) 1 1] w fun e w'=>
   e=.returned (.slice (some ⟨w.heap.size,0,none⟩) (n+1) (grownCap w (n+1) c 98))/\
   w'=(((w.alloc (.cells ((cs.take (i*2)).toArray++Builtin.zeroCells E6.cells (n+1-i)++Builtin.zeroCells E6.cells (grownCap w (n+1) c 98-(n+1))) 98)).drew.setCells w.heap.size (i*2) vs).drew).setCells w.heap.size ((i+1)*2) (cs.drop (i*2)):=by
 have HL:(Tryz.prog.info? 98).map (fun q=>(q.size,q.bytes,q.zero))=some (2,16,some E6):=by kernel_rfl
 obtain⟨i0,Ky,B?,UF,y?⟩:∃i0,Tryz.prog.info? 98=some i0/\i0.zero=some E6/\i0.size=2/\i0.bytes=16:=by rcases hq:Tryz.prog.info? 98 with _|q;rw[hq]at HL;cases HL;rw[hq]at HL;simp only[zM,zA,zB]at HL;exact⟨q,rfl,HL.2.2,HL.1,HL.2.1⟩
 have A?:¬ ((i:Int)=(n:Int)):=by omega
 have hz3:(c:Int)<(n:Int)+1:=by omega
 have dS:(Tryz.prog.info? 98).map (·.size)=some 2:=by rw[Ky];simp[UF]
 have hbw:b<w.heap.size:=block_lt_of_cell (uP 0 _ (List.getElem?_eq_getElem (by omega)));have hvw:vb<w.heap.size:=block_lt_of_cell (C5 0 _ (List.getElem?_eq_getElem (by omega)));have DL:(n:Int)+1-(i:Int)=((n+1-i:Nat):Int):=by omega
 have FU:i+(n+1-i)=n+1:=by omega
 have lJ:(Builtin.firstCells i0.size i (.slice (some ⟨b,off,none⟩) i c)).run Tryz.prog w.drew=.ok (cs.take (i*2)).toArray w.drew:=by rw[UF];exact run_firstCells_some w.drew 2 i ⟨b,off,none⟩ i c (cs.take (i*2)) (by rw[List.length_take];omega) (fun j v hj=>by rw[Addr.add_lit];rw[List.getElem?_take]at hj;split at hj;exact uP j v hj;cases hj)
 have bx:∀ty,(Builtin.append_ #[76,3] ty #[.slice (some ⟨b,off,none⟩) i c,.int .i64 ((n:Int)+1-(i:Int))]).run Tryz.prog w=
   .ok (.slice (some ⟨w.heap.size,0,none⟩) (n+1) (grownCap w (n+1) c 98)) (w.drew.alloc (.cells ((cs.take (i*2)).toArray++Builtin.zeroCells E6.cells (n+1-i)++Builtin.zeroCells E6.cells (grownCap w (n+1) c 98-(n+1))) 98)):=fun ty=>by
  have h:=Lib.run_append_grow_zeros w 76 3 ty 98 i0 _ .i64 .i64 Tryz.underlying76 Tryz.underlying3 Ky B? (some ⟨b,off,none⟩) i c (cs.take (i*2)) lJ (n+1-i) (by omega) (by omega) (by omega) (by omega) (by rw[y?];omega) (by rw[y?,FU];exact growslice_fits bN wY);rw[FU]at h;rw[DL];exact h
 obtain⟨G,hG⟩:∃G,G=grownCap w (n+1) c 98:=⟨_,rfl⟩;obtain⟨ROW,Cu⟩:∃ROW:Array M,ROW=(cs.take (i*2)).toArray++Builtin.zeroCells E6.cells (n+1-i)++Builtin.zeroCells E6.cells (G-(n+1)):=⟨_,rfl⟩;rw[<-hG]at bx ⊢;rw[<-Cu]at bx ⊢;have hRl:(n+1)*2<=ROW.size:=by rw[Cu];simp[Builtin.zeroCells,E6,Value.cells,eS];omega
 obtain⟨W1,HH⟩:∃W1,W1=w.drew.alloc (.cells ROW 98):=⟨_,rfl⟩;rw[<-HH]at bx;have hN:∀j,j<(n+1)*2->(W1.cell? ⟨w.heap.size,j,none⟩).isSome=true:=fun j hj=>by rw[HH,World.cell?_alloc_at (w:=w.drew) ROW _ w.heap.size j rfl,Array.getElem?_eq_getElem (by omega)];rfl
 have hNf:∀j,W1.frozen? ⟨w.heap.size,j,none⟩=false:=fun j=>by rw[HH];exact World.frozen?_alloc_at (w:=w.drew) ROW _ w.heap.size j rfl
 have hOb:∀j v,w.cell? ⟨b,j,none⟩=some v->W1.cell? ⟨b,j,none⟩=some v:=fun j v h=>by rw[HH,World.cell?_alloc_past (w:=w.drew) _ b j hbw];exact h
 have hOv:∀j v,w.cell? ⟨vb,j,none⟩=some v->W1.cell? ⟨vb,j,none⟩=some v:=fun j v h=>by rw[HH,World.cell?_alloc_past (w:=w.drew) _ vb j hvw];exact h
 have hcpA:∀(W:World),(∀x,W.cell? x=W1.cell? x)->(∀x,W.frozen? x=W1.frozen? x)->∀ty dc,(Builtin.copy_ #[76,76] ty #[.slice (some ⟨w.heap.size,i*2,none⟩) (n+1-i) dc,.slice (some ⟨vb,0,none⟩) 1 1]).run Tryz.prog W=.ok (goInt 1) (W.setCells w.heap.size (i*2) vs):=fun W UX Xu ty dc=>by
  have nP:Nat.min 1 (n+1-i)=1:=by simp only[Nat.min_def];split<;>omega
  have:=kw W 76 76 ty 98 2 w.heap.size (i*2) (n+1-i) dc ⟨vb,0,none⟩ 1 1 vs Tryz.underlying76 dS (by rw[uO,nP])
   (fun j v hj=>by rw[Addr.add_lit,UX];simpa using hOv _ v (C5 j v hj))
   (fun j hj=>by rw[UX];exact hN _ (by omega)) (fun j hj=>by rw[Xu];exact hNf _) h1v
  rw[nP]at this;exact this
 have hGn:n+1<=G:=by rw[hG];exact grownCap_ge w _ _ _
 have hG63:G<=9223372036854775807:=by have:=grownCap_le_maxLen w (n+1) c 98 (by unfold maxLen;omega);rw[<-hG]at this;unfold maxLen at this;omega
 have hGi:¬ (G=i):=by omega
 have hGim:¬ (G=i+1):=by omega
 have cy:¬ (c=i):=by omega
 have hbN:b≠w.heap.size:=by omega
 have KL:(cs.drop (i*2)).length=(n-i)*2:=by rw[List.length_drop,eS];omega
 have Xk:∀(W:World),(∀x,W.cell? x=(W1.setCells w.heap.size (i*2) vs).cell? x)->(∀x,W.frozen? x=(W1.setCells w.heap.size (i*2) vs).frozen? x)->∀ty dc sc,(Builtin.copy_ #[76,76] ty #[.slice (some ⟨w.heap.size,(i+1)*2,none⟩) (n-i) dc,.slice (some ⟨b,off+i*2,none⟩) (n-i) sc]).run Tryz.prog W=.ok (goInt ((n-i:Nat):Int)) (W.setCells w.heap.size ((i+1)*2) (cs.drop (i*2))):=fun W UX Xu ty dc sc=>by
  have nP:Nat.min (n-i) (n-i)=n-i:=Nat.min_self _;have:=kw W 76 76 ty 98 2 w.heap.size ((i+1)*2) (n-i) dc ⟨b,off+i*2,none⟩ (n-i) sc (cs.drop (i*2)) Tryz.underlying76 dS (by rw[KL,nP])
   (fun j v hj=>by rw[Addr.add_lit,UX,World.cell?_setCells_out _ _ _ _ _ (fun h _=>absurd h hbN),Nat.add_assoc];exact hOb _ v (uP (i*2+j) v (by rwa [List.getElem?_drop]at hj)))
   (fun j hj=>by rw[UX];exact isSome_setCells _ _ _ _ (fun t ht=>hN _ (by omega)) _ (hN _ (by omega)))
   (fun j hj=>by rw[Xu,World.frozen?_setCells];exact hNf _) (fun v hv=>Lk v (List.mem_of_mem_drop hv))
  rw[nP]at this;exact this
 subst HH;have hE1:∀x,((w.alloc (.cells ROW 98)).drew).cell? x=(w.drew.alloc (.cells ROW 98)).cell? x:=fun x=>rfl;have hE2:∀x,((w.alloc (.cells ROW 98)).drew).frozen? x=(w.drew.alloc (.cells ROW 98)).frozen? x:=fun x=>rfl;have Xx:∀x,(((w.alloc (.cells ROW 98)).drew.setCells w.heap.size (i*2) vs).drew).cell? x=((w.drew.alloc (.cells ROW 98)).setCells w.heap.size (i*2) vs).cell? x:=fun x=>rfl;have Xw:∀x,(((w.alloc (.cells ROW 98)).drew.setCells w.heap.size (i*2) vs).drew).frozen? x=((w.drew.alloc (.cells ROW 98)).setCells w.heap.size (i*2) vs).frozen? x:=fun x=>rfl;have Ko:IntKind.i64.wrap ((i:Int)+1)=(i:Int)+1:=by rw[IntKind.wrap_i64];omega
 have wZ:(0:Int)<=(i:Int)+1:=by omega
 have jD:i<=n:=by omega
 have htn:((i:Int)+1).toNat=i+1:=by omega
 have u99:(i:Int)<=(n:Int):=by omega
 have mixed:Tryz.prog.follows .mixedOrders=true:=by kernel_rfl
 clear DL FU lJ Cu hG hRl
 go_enter Tryz.func77,Tryz.ntmps77
 go_wp2_with (first
  |(at_builtin;refine Lib.wpList_append_run _ rfl _ _ _ _ rfl _ _ rfl rfl _ _ (bx _) ?_)
  |(at_builtin;refine wpList_copy_runI _ rfl _ _ 76 76 rfl _ _ rfl rfl (hcpA _ hE1 hE2 _ _) ?_)
  |(at_builtin;refine wpList_copy_runI _ rfl _ _ 76 76 rfl _ _ rfl rfl (Xk _ (fun _=>rfl) (fun _=>rfl) _ _ _) ?_))
 go_region_law_o (refine step_copy_runI rfl _ _ 76 76 rfl (.slice (some ⟨w.heap.size,(i+1)*2,none⟩) (n-i) (G-(i+1))) (.slice (some ⟨b,off+i*2,none⟩) (n-i) (c-i)) (by simp[Act.eval,Act.put]) (by simp[Act.eval,Act.put]) (Xk _ Xx Xw 3 (G-(i+1)) (c-i)) ?_)
 go_wp2
 go_ret
 exact⟨rfl,rfl⟩
def Rt(b:Nat)(t:X):∀(vs:I M)(o:Nat)(cur:Array M)(w:World),w.heap[b]? = some (.cells cur t (0,0))->o+vs.length<=cur.size->
  w.setCells b o vs=w.setRow b (cur.toList.take o++vs++cur.toList.drop (o+vs.length)).toArray
 |[],o,cur,w,hg,_=>by simp only[World.setCells,List.append_nil,zS,Nat.add_zero,List.take_append_drop,Array.toArray_toList];rw[setRow_self w b cur t (0,0) hg]
 |v::r,o,cur,w,hg,hl=>by
  have hi:o<cur.size:=by simp at hl;omega
  have ih:=Rt b t r (o+1) (cur.setIfInBounds o v) (w.setRow b (cur.setIfInBounds o v)) (setRow_heap w b cur _ t _ hg) (by simp at hl ⊢;omega);rw[World.setCells,setCell_eq_setRow w b o cur t (0,0) v hg,ih,setRow_setRow];congr 2;have e:=list_seg_step cur.toList o v r (by simp at hl ⊢;omega);simpa[Array.toList_setIfInBounds,Nat.add_assoc]using e
variable{w:World}
variable{b:Nat}
variable{e:X}
def ng{pre l:I M}(h:w.heap[b]? = some (.cells (pre++l).toArray e (0,0))){off:Nat}(ho:pre.length=off)(j:Nat):w.cell? ⟨b,off+j,none⟩=l[j]?:=by subst ho;simp[World.cell?,h,List.getElem?_append_right]
def l_{c:Array M}(h:w.heap[b]? = some (.cells c e (0,0)))(o:Nat):w.frozen? ⟨b,o,none⟩=false:=by simp[World.frozen?,h]
def qwp{c:Array M}(h:w.heap[b]? = some (.cells c e (0,0))):w.shape? b=some (e,c.size):=by simp[World.shape?,h]
namespace InsZ
open Go.Rx Go.Vx
def z72{m aH:Nm}{s bJ:S}{w₁ oA:World}(h:bQ m s w aH bJ w₁)(hh:oA.heap=w₁.heap)(h1:oA.os=w₁.os)(h2:oA.tape=w₁.tape)(h3:oA.output=w₁.output):bQ m s w aH bJ oA:=by refine⟨h.agree,h.nx,fun m' dK=>?_,h.own,fun b hb hn=>by rw[hh];exact h.same b hb hn,by rw[hh];exact h.size,h1.trans h.os,h2.trans h.tape,h3.trans h.output⟩;have hf:=h.fits m' dK;exact⟨fun i b hb=>(hf.ok i b hb).world (by rw[hh]),hf.inj,hf.bd⟩
def ins_lt{i k:Nat}{p q nu:I U}{pv qv nv:I M}(hp:eY p=some pv)(hq:eY q=some qv)(ce:eY nu=some nv)(okp:okL p=true)(okq:okL q=true)(okn:okL nu=true)
  (lp:pv.length=i*2) (lq:qv.length=k*2) (ln:nv.length=2) (hk:0<k) (rp:∀m,aJ m pv=pv) (rq:∀m,aJ m qv=qv) (rn:∀m,aJ m nv=nv) (op:∀v∈pv,v.oneCell'=true) (oq:∀v∈qv,v.oneCell'=true) (on:∀v∈nv,v.oneCell'=true) (wY:(i+k+1)*16<=140737488355328) (t:Nat):
  bE Tryz.prog 77 [.vl 0 t 0 (i+k),.int .i64 i,.sl 1 0 1 1] ⟨[(0,.vec (p++q) 98 2 t),(1,.row nu 98)],2⟩ (fun u O'=>u=.vl 0 (t+1) 0 (i+k+1)/\O'=⟨[(0,.vec (p++nu++q) 98 2 (t+1)),(1,.row nu 98)],2⟩):=by
 intro F x vs m w bI hx hh mJ he fT dB;obtain⟨v0,Md,rfl,h0,he⟩:=he.inv;obtain⟨v1,vs1,rfl,h1,he⟩:=he.inv;obtain⟨v2,IA,rfl,h2,he⟩:=he.inv;have:=he.nil_inv;subst this;simp only[aD]at h0 h1 h2;subst h1;have hg:gt x.O.h 0=some (.vec (p++q) 98 2 t):=by rw[hx];rfl
 have hg1:gt x.O.h 1=some (.row nu 98):=by rw[hx];rfl
 obtain⟨_,hK,h0⟩:=h0;obtain⟨l,e',sz,hb,uO⟩:=(h0 _ hg).2 rfl;cases hb;obtain⟨_,hBk⟩:=hh.ok 0 _ hg;obtain⟨_,_,hB⟩:=hBk;rcases hB with⟨hn,_⟩|⟨i0,l',kW,Q4,hE⟩;exfalso;have:q=[]:=(List.append_eq_nil_iff.1 hn).2;subst this;simp only[eY,zA]at hq;subst hq;simp at lq;omega;rw[kW]at uO;simp only[LW]at uO;rcases uO with⟨Xr,_⟩|rfl;omega;have FT:=(H7 _ _ (Qz hp hq) x l').1 hE;subst FT;obtain⟨_,_,h2⟩:=h2;obtain⟨i1,Vu,rfl,_,_⟩:=(h2 _ hg1).2 rfl;obtain⟨_,i1',l1,UE,Cb,hE1⟩:=(hh.ok 1 _ hg1).2;rw[Vu]at UE;cases UE;have CC:=(H7 _ _ ce x l1).1 hE1;rw[CC]at Cb;have h01:i0≠i1:=fun e=>by have:=hh.inj 0 1 _ _ i0 hg hg1 kW (by rw[Vu,e]);omega
 have KJ:=fT m (aN.refl _ _);have hblk:m.blk i0≠m.blk i1:=KJ.inj i0 i1 _ _ Q4 Cb h01 rfl;obtain⟨pre,rest,UU,pW,hX⟩:=(KJ.ok i0 _ Q4:D5 m i0 _ 98 w 4);obtain⟨Y?,tN⟩:=(KJ.ok i1 _ Cb:D5 m i1 _ 98 w 0);have rpq:∀m,aJ m (pv++qv)=pv++qv:=fun m=>by rw[yJ,rp,rq]
 have rpnq:∀m,aJ m (pv++nv++qv)=pv++nv++qv:=fun m=>by rw[yJ,yJ,rp,rn,rq]
 rw[rpq]at UU;rw[rn]at tN;have wX:=dB.at;simp only[aJ,aI,E4]at wX;subst wX;have ec:bX m i0 (bY+0)=m.cp i0:=by simp[bX,bR]
 have ec1:bX m i1 1=1:=by simp[bX,bY]
 rw[ec,ec1,Y?];have bA:(pv++qv).length=(i+k)*2:=by rw[zU,lp,lq];omega
 rw[bA]at hX;replace hX:(i+k)*2+rest.length=m.cp i0*2:=hX;have tO:w.heap[m.blk i0]? = some (.cells (pre++((pv++qv)++rest)).toArray 98 (0,0)):=by rw[UU,zT]
 have uP:∀j v,(pv++qv)[j]? = some v->w.cell? ⟨m.blk i0,m.sh i0+0*2+j,none⟩=some v:=fun j v hv=>by rw[Nat.zero_mul,Nat.add_zero,ng tO pW j,List.getElem?_append_left (zG.1 hv).1,hv]
 have C5:∀j v,nv[j]? = some v->w.cell? ⟨m.blk i1,j,none⟩=some v:=fun j v hv=>by have:=ng (pre:=[]) (l:=nv) tN (off:=0) rfl j;rw[Nat.zero_add]at this;rw[this,hv]
 have Lk:∀v∈pv++qv,v.oneCell'=true:=fun v hv=>(yD.1 hv).elim (op v) (oq v);have Kp:(pv++qv).take (i*2)=pv:=by rw[<-lp];exact List.take_left
 have HG:(pv++qv).drop (i*2)=qv:=by rw[<-lp];exact List.drop_left
 have Ky:i0<x.s.nx:=hh.bd i0 _ Q4;have KB:okL (p++nu++q)=true:=JE (JE okp okn) okq;have pV:eY (p++nu++q)=some (pv++nv++qv):=Qz (Qz hp ce) hq;have DB:∀l,(⟨ug x.O.h 0 (.vec l 98 2 (t+1)),x.O.nx⟩:Sg)=⟨[(0,.vec l 98 2 (t+1)),(1,.row nu 98)],2⟩:=fun l=>by rw[hx];rfl
 by_cases bN:i+k+1<=m.cp i0;have hc:=z47 (m.blk i0) (m.sh i0+0*2) (i+k) (m.cp i0) i (m.blk i1) (pv++qv) nv w (by omega) bN (by omega) (Ne.symm hblk) bA ln uP
  (fun j hj=>by
   rw[Nat.zero_mul,Nat.add_zero,ng tO pW j];have:j<((pv++qv)++rest).length:=by rw[zU,bA];omega
   rw[List.getElem?_eq_getElem this];rfl)
  (fun j _=>l_ tO _) C5 Lk on 98 98 nv.toArray.size _ (qwp tN) (qwp tO) (by rw[List.size_toArray,zU,zU,bA];omega) (l_ tN _) (l_ tN _)
 refine(show Calls Tryz.prog 77 _ w _ from hc).mono ?_;rintro e1 w' ⟨rfl,rfl⟩;rw[HG];have hd:w.drew.heap[m.blk i0]? = some (.cells (pre++((pv++qv)++rest)).toArray 98 (0,0)):=tO;obtain⟨r1,r2,rfl,Kr⟩:∃r1 r2:I M,rest=r1++r2/\r1.length=2:=⟨rest.take 2,rest.drop 2,(List.take_append_drop 2 rest).symm,by rw[List.length_take];omega⟩;obtain⟨q1,q2,rfl,Q2⟩:∃q1 q2:I M,qv=q1++q2/\q1.length=2:=⟨qv.take 2,qv.drop 2,(List.take_append_drop 2 qv).symm,by rw[List.length_take];omega⟩;have key:(w.drew.setCells (m.blk i0) (m.sh i0+0*2+(i+1)*2) (q1++q2)).setCells (m.blk i0) (m.sh i0+0*2+i*2) nv=w.drew.setRow (m.blk i0) (pre++(pv++nv++(q1++q2))++r2).toArray:=by
  have V?:(pre++((pv++(q1++q2))++(r1++r2))).length=m.sh i0+(i*2+k*2)+(2+r2.length):=by simp only[zU]at bA lq ⊢;omega
  rw[Rt (m.blk i0) 98 _ _ _ _ hd (by rw[List.size_toArray,V?];omega)];have e1:(pre++((pv++(q1++q2))++(r1++r2))).take (m.sh i0+0*2+(i+1)*2)=pre++pv++q1:=by rw[show pre++((pv++(q1++q2))++(r1++r2))=(pre++pv++q1)++(q2++(r1++r2)) by simp[zT]];rw[show m.sh i0+0*2+(i+1)*2=(pre++pv++q1).length by simp only[zU];omega];exact List.take_left
  have e2:(pre++((pv++(q1++q2))++(r1++r2))).drop (m.sh i0+0*2+(i+1)*2+(q1++q2).length)=r2:=by rw[show pre++((pv++(q1++q2))++(r1++r2))=(pre++pv++(q1++q2)++r1)++r2 by simp[zT]];rw[show m.sh i0+0*2+(i+1)*2+(q1++q2).length=(pre++pv++(q1++q2)++r1).length by simp only[zU];omega];exact List.drop_left
  simp only[List.toList_toArray]at*;rw[e1,e2];rw[Rt (m.blk i0) 98 _ _ _ _ (setRow_heap w.drew _ _ _ 98 _ hd) (by rw[List.size_toArray];simp only[zU];omega),setRow_setRow];congr 2;simp only[List.toList_toArray];have e3:(pre++pv++q1++(q1++q2)++r2).take (m.sh i0+0*2+i*2)=pre++pv:=by rw[show pre++pv++q1++(q1++q2)++r2=(pre++pv)++(q1++(q1++q2)++r2) by simp[zT]];rw[show m.sh i0+0*2+i*2=(pre++pv).length by simp only[zU];omega];exact List.take_left
  have e4:(pre++pv++q1++(q1++q2)++r2).drop (m.sh i0+0*2+i*2+nv.length)=q1++q2++r2:=by rw[show pre++pv++q1++(q1++q2)++r2=(pre++pv++q1)++(q1++q2++r2) by simp[zT]];rw[show m.sh i0+0*2+i*2+nv.length=(pre++pv++q1).length by simp only[zU];omega];exact List.drop_left
  rw[e3,e4];simp[zT]
 rw[key];have hfin:(w.drew.setRow (m.blk i0) (pre++(pv++nv++(q1++q2))++r2).toArray).heap[m.blk i0]? = some (.cells (pre++(pv++nv++(q1++q2))++r2).toArray 98 (0,0)):=setRow_heap w.drew _ _ _ 98 _ hd;have aS:bQ m x.s w m ⟨up x.s.h i0 (.inl (pv++nv++(q1++q2),98,4)),x.s.nx⟩ (w.drew.setRow (m.blk i0) (pre++(pv++nv++(q1++q2))++r2).toArray):=by refine bQ.write fT Q4 rfl (fun j hj=>by rw[setRow_other _ _ _ _ hj];rfl) (by unfold World.setRow;exact Array.size_modify) rfl rfl rfl (Nat.le_succ _) fun m' ha=>?_;obtain⟨a1,a2,a3⟩:=ha i0 Ky;refine⟨pre,r2,by rw[a1,rpnq];exact hfin,by rw[a2];exact pW,?_⟩;rw[a3];simp only[zU]at hX bA lq ⊢;omega
 have kP:=Gz hh hg (some i0) ⟨up x.s.h i0 (.inl (pv++nv++(q1++q2),98,4)),x.s.nx⟩ (l1:=p++nu++q) (fun j b hb d5=>by
   have:i0≠j:=fun e=>d5 (by rw[kW,e]);simp only[AK,if_neg this];exact hb) (fun j hj=>.inl (by rw[kW];exact hj)) (fun j b hb=>by
   simp only[AK]at hb;split at hb;rename_i e;subst e;exact Ky;exact hh.bd j _ hb) KB (fun y _ _=>.inr ⟨i0,_,rfl,by simp only[AK,if_true,Q4,zM],(H7 _ _ pV y _).2 rfl⟩)
 refine⟨_,m,.vl 0 (t+1) 0 (i+k+1),.slice (some ⟨i0,0*2,none⟩) (i+k+1) (bY+0),_,rfl,⟨rfl,DB _⟩,aS,fun m' dK=>?_,kP.h,kP.fr F mJ,Gs hh hg rfl (.inr rfl),kP.mo.ke,zF _⟩;obtain⟨a1,a2,a3⟩:=dK i0 Ky;simp only[aI];rw[a1,a2];simp[bX,bR,a3];have hgr:=z7y (m.blk i0) (m.sh i0+0*2) (i+k) (m.cp i0) i (m.blk i1) (pv++qv) nv w (by omega) (by omega) (by omega) wY bA ln uP C5 Lk on;refine(show Calls Tryz.prog 77 _ w _ from hgr).mono ?_;rintro e1 w' ⟨rfl,rfl⟩;rw[HG,Kp];have hGn:i+k+1<=grownCap w (i+k+1) (m.cp i0) 98:=grownCap_ge w _ _ _;generalize grownCap w (i+k+1) (m.cp i0) 98=G at hGn;obtain⟨Z1,hZ1,hZl⟩:∃v06:I M,Builtin.zeroCells E6.cells (i+k+1-i)=v06.toArray/\v06.length=(k+1)*2:=⟨_,(Array.toArray_toList).symm,by simp[Builtin.zeroCells,E6,Value.cells];omega⟩;obtain⟨Z2,hZ2,hZl2⟩:∃v06:I M,Builtin.zeroCells E6.cells (G-(i+k+1))=v06.toArray/\v06.length=(G-(i+k+1))*2:=⟨_,(Array.toArray_toList).symm,by simp[Builtin.zeroCells,E6,Value.cells]⟩;rw[hZ1,hZ2];obtain⟨za,zb,rfl,hza⟩:∃za zb:I M,Z1=za++zb/\za.length=2:=⟨Z1.take 2,Z1.drop 2,(List.take_append_drop 2 Z1).symm,by rw[List.length_take];omega⟩;have y?:zb.length=k*2:=by rw[zU]at hZl;omega
 have dA:pv.toArray++(za++zb).toArray++Z2.toArray=(pv++(za++zb)++Z2).toArray:=by simp
 rw[dA];have co:((w.alloc (.cells (pv++(za++zb)++Z2).toArray 98)).drew).heap[w.heap.size]? = some (.cells (pv++(za++zb)++Z2).toArray 98 (0,0)):=by show(w.heap.push _)[w.heap.size]? = _;simp
 have r?:((w.alloc (.cells (pv++(za++zb)++Z2).toArray 98)).drew).setCells w.heap.size (i*2) nv=((w.alloc (.cells (pv++(za++zb)++Z2).toArray 98)).drew).setRow w.heap.size (pv++nv++zb++Z2).toArray:=by
  rw[Rt w.heap.size 98 _ _ _ _ co (by rw[List.size_toArray];simp only[zU];omega)];congr 2;simp only[List.toList_toArray];have e3:(pv++(za++zb)++Z2).take (i*2)=pv:=by rw[zT,<-lp];exact List.take_left
  have e4:(pv++(za++zb)++Z2).drop (i*2+nv.length)=zb++Z2:=by rw[show pv++(za++zb)++Z2=(pv++za)++(zb++Z2) by simp[zT]];rw[show i*2+nv.length=(pv++za).length by simp only[zU];omega];exact List.drop_left
  rw[e3,e4];simp[zT]
 have NH:((((w.alloc (.cells (pv++(za++zb)++Z2).toArray 98)).drew).setRow w.heap.size (pv++nv++zb++Z2).toArray).drew).heap[w.heap.size]? = some (.cells (pv++nv++zb++Z2).toArray 98 (0,0)):=setRow_heap _ _ _ _ 98 _ co;have q?:((((w.alloc (.cells (pv++(za++zb)++Z2).toArray 98)).drew).setRow w.heap.size (pv++nv++zb++Z2).toArray).drew).setCells w.heap.size ((i+1)*2) qv=((((w.alloc (.cells (pv++(za++zb)++Z2).toArray 98)).drew).setRow w.heap.size (pv++nv++zb++Z2).toArray).drew).setRow w.heap.size (pv++nv++qv++Z2).toArray:=by
  rw[Rt w.heap.size 98 _ _ _ _ NH (by rw[List.size_toArray];simp only[zU];omega)];congr 2;simp only[List.toList_toArray];have e3:(pv++nv++zb++Z2).take ((i+1)*2)=pv++nv:=by rw[show pv++nv++zb++Z2=(pv++nv)++(zb++Z2) by simp[zT]];rw[show(i+1)*2=(pv++nv).length by simp only[zU];omega];exact List.take_left
  have e4:(pv++nv++zb++Z2).drop ((i+1)*2+qv.length)=Z2:=by rw[show(i+1)*2+qv.length=(pv++nv++zb).length by simp only[zU];omega];exact List.drop_left
  rw[e3,e4]
 rw[r?,q?];have Q6:(((((w.alloc (.cells (pv++(za++zb)++Z2).toArray 98)).drew).setRow w.heap.size (pv++nv++zb++Z2).toArray).drew).setRow w.heap.size (pv++nv++qv++Z2).toArray).heap=(w.alloc (.cells (pv++nv++qv++Z2).toArray 98)).heap:=by apply Array.ext_getElem?;intro j;by_cases hj:j=w.heap.size;subst hj;rw[setRow_heap _ _ _ _ 98 _ NH];show _=(w.heap.push _)[w.heap.size]?;simp;rw[setRow_other _ _ _ _ hj];show(((w.alloc (.cells (pv++(za++zb)++Z2).toArray 98)).drew).setRow w.heap.size (pv++nv++zb++Z2).toArray).heap[j]? = _;rw[setRow_other _ _ _ _ hj];show(w.heap.push _)[j]? = (w.heap.push _)[j]?;simp only[Array.getElem?_push,if_neg hj]
 have aS:bQ m x.s w (m.set x.s.nx w.heap.size 0 G) ⟨(x.s.nx,.inl (pv++nv++qv,98,4))::x.s.h,x.s.nx+1⟩ (((((w.alloc (.cells (pv++(za++zb)++Z2).toArray 98)).drew).setRow w.heap.size (pv++nv++zb++Z2).toArray).drew).setRow w.heap.size (pv++nv++qv++Z2).toArray):=by refine z72 (bQ.alloc fT (.cells (pv++nv++qv++Z2).toArray 98) (.inl (pv++nv++qv,98,4)) G fun m' ha=>?_) Q6 rfl rfl rfl;obtain⟨a1,a2,a3⟩:=ha x.s.nx (zN _);simp only[Nm.set,if_true]at a1 a2 a3;refine⟨[],Z2,?_,by rw[a2];rfl,?_⟩;rw[a1,rpnq,List.nil_append];show(w.heap.push _)[w.heap.size]? = _;simp;rw[a3,hZl2];simp only[zU];omega
 have kP:=Gz hh hg (some x.s.nx) ⟨(x.s.nx,.inl (pv++nv++qv,98,4))::x.s.h,x.s.nx+1⟩ (l1:=p++nu++q) (fun j b hb d5=>by
   have h3:=hh.bd j b hb;rw[mZ,if_neg (show x.s.nx≠j by omega)];exact hb) (fun j hj=>.inr (by cases hj;exact zF _)) (fun j b hb=>by
   rw[mZ]at hb;split at hb;rename_i e;subst e;exact zN _;exact Nat.lt_succ_of_lt (hh.bd j _ hb)) KB (fun y _ _=>.inr ⟨x.s.nx,_,rfl,by rw[mZ,if_pos rfl],(H7 _ _ pV y _).2 rfl⟩)
 refine⟨_,m.set x.s.nx w.heap.size 0 G,.vl 0 (t+1) 0 (i+k+1),.slice (some ⟨x.s.nx,0*2,none⟩) (i+k+1) (bY+0),_,rfl,⟨rfl,DB _⟩,aS,fun m' dK=>?_,kP.h,kP.fr F mJ,Gs hh hg rfl (.inr rfl),kP.mo.ke,zF _⟩;obtain⟨a1,a2,a3⟩:=dK x.s.nx (zN _);simp only[Nm.set,if_true]at a1 a2 a3;simp only[aI];rw[a1,a2];simp[bX,bR,a3]
end InsZ
end Go.Proofs
namespace Go.Proofs
open Go Go.Rx Go.Vx
set_option maxHeartbeats 1000000
def gf(n:Nat)(p1:Int)(p2:I aK)(p4:Int)(p5:Int):V (I aK):=
 aF (0<=p1/\p1<=(p2.length:Int)/\(p2.length+1)*16<=140737488355328) (some (p2.take p1.toNat++aK.mk p4 p5::p2.drop p1.toNat))
def AI(x:aK):I M:=[.int .i64 x.Feat,.int .i64 x.To]
def oi(l:I aK):∀v∈(l.map AI).flatten,v.oneCell'=true:=fun v hv=>by
 obtain⟨q,h1,h2⟩:=List.mem_flatten.1 hv;obtain⟨x,_,rfl⟩:=List.mem_map.1 h1;simp only[AI,zI,List.not_mem_nil,or_false]at h2;rcases h2 with rfl |rfl;rfl;rfl
def qya(m:Nm)(l:I aK):aJ m ((l.map AI).flatten)=(l.map AI).flatten:=qwn (enc:=AI) (fun m x=>by simp[AI,aJ,aI]) m l
def qic(n:Nat)(p1:Int)(p2:I aK)(p4:Int)(p5:Int)(r:I aK)(J:gf n p1 p2 p4 p5=some r):∀t3:Nat,bE Tryz.prog 77 [.vl 0 t3 0 p2.length,.int .i64 p1,.sl 1 0 1 1] ⟨[(0,.vec (p2.map aU).flatten 98 2 t3),(1,.row [.int .i64 p4,.int .i64 p5] 98)],2⟩ (fun u O'=>∃t:Nat->Nat,u=.vl 0 (t 0) 0 r.length/\O'=⟨[(0,.vec (r.map aU).flatten 98 2 (t 0)),(1,.row [.int .i64 p4,.int .i64 p5] 98)],2⟩):=by
 intro t3;obtain⟨⟨h1,h2,h3⟩,hr⟩:=d7 J;have hr:=Option.some.inj hr;subst hr;obtain⟨i,rfl⟩:∃i:Nat,p1=(i:Int):=⟨p1.toNat,by omega⟩;rw[zZ];by_cases he:i=p2.length;subst he;have hE:pu n (p2.length:Int) p2 p4 p5=some (p2++[aK.mk p4 p5]):=by
  unfold pu;have e1:((p2.length:Int)==(p2.length:Int))=true:=by simp
  rw[qze ⟨by omega,by omega⟩,e1,qze ⟨by omega,by omega⟩];rfl
 have:=qk2 n _ p2 p4 p5 _ hE t3;rw[zW (zF _),List.drop_of_length_le (zF _)];exact this;have hi:i<p2.length:=by omega
 clear J;have e0:i+(p2.length-i)=p2.length:=by omega
 have wY:(i+(p2.length-i)+1)*16<=140737488355328:=by rw[e0];exact h3
 have hk:0<p2.length-i:=Nat.sub_pos_of_lt hi;have hp:eY (((p2.take i).map aU).flatten)=some (((p2.take i).map AI).flatten):=ot (encU:=aU) (enc:=AI) (fun _=>rfl) (p2.take i);have hq:eY (((p2.drop i).map aU).flatten)=some (((p2.drop i).map AI).flatten):=ot (encU:=aU) (enc:=AI) (fun _=>rfl) (p2.drop i);have okp:okL (((p2.take i).map aU).flatten)=true:=nn (encU:=aU) (fun _=>rfl) _;have okq:okL (((p2.drop i).map aU).flatten)=true:=nn (encU:=aU) (fun _=>rfl) _;have lp:(((p2.take i).map AI).flatten).length=i*2:=by rw[qva (enc:=AI) (k:=2) (fun _=>rfl),List.length_take];omega
 have lq:(((p2.drop i).map AI).flatten).length=(p2.length-i)*2:=by rw[qva (enc:=AI) (k:=2) (fun _=>rfl),List.length_drop]
 have rp:=fun m=>qya m (p2.take i);have rq:=fun m=>qya m (p2.drop i);have op:=oi (p2.take i);have oq:=oi (p2.drop i);have rn:∀m,aJ m [Value.int .i64 p4,Value.int .i64 p5]=[Value.int .i64 p4,Value.int .i64 p5]:=fun m=>by simp[aJ,aI]
 have on:∀v∈[Value.int .i64 p4,Value.int .i64 p5],v.oneCell'=true:=oi [aK.mk p4 p5];generalize hpv:((p2.take i).map AI).flatten=pv at*;generalize hqv:((p2.drop i).map AI).flatten=qv at*;have ce:eY [U.int .i64 p4,U.int .i64 p5]=some [Value.int .i64 p4,Value.int .i64 p5]:=rfl;have okn:okL [U.int .i64 p4,U.int .i64 p5]=true:=rfl;have ln:[Value.int .i64 p4,Value.int .i64 p5].length=2:=rfl;have key:=InsZ.ins_lt hp hq ce okp okq okn lp lq ln hk rp rq rn op oq on wY t3;have e1:i+(p2.length-i)=p2.length:=by omega
 have e2:((p2.take i).map aU).flatten++((p2.drop i).map aU).flatten=(p2.map aU).flatten:=by rw[<-List.flatten_append,<-List.map_append,List.take_append_drop]
 have e3:((p2.take i).map aU).flatten++[.int .i64 p4,.int .i64 p5]++((p2.drop i).map aU).flatten=((p2.take i++aK.mk p4 p5::p2.drop i).map aU).flatten:=by rw[List.map_append,List.flatten_append,zQ,List.flatten_cons,zT];rfl
 have e4:(p2.take i++aK.mk p4 p5::p2.drop i).length=p2.length+1:=by rw[zU,zO,List.length_take,List.length_drop];omega
 rw[e1,e2,e3]at key;rw[e4];exact key.mono fun u O' ⟨q1,q2⟩=>⟨fun _=>t3+1,q1,q2⟩
end Go.Proofs
