import Derived.Shelf.Spec.SlicesInsert
import Derived.Shelf.Spec.SlicesInsertGrow
import Derived.Shelf.RegionOpenPlain
import Derived.WalkKit
import Derived.Lib.Walk
import Derived.Lib.SliceRun
import Derived.Lib.JoinLaws
import Derived.Lib.AppendZeros
import Derived.Lib.Overlaps
import Derived.Laws.Externs
import Derived.Laws.IdiomCopy
import Derived.Test.YtldlchbgolpkaaaGreatP16
set_option linter.all false
namespace Go.Proofs
open Go.Shelf Go.RowKit Go.Lib
def js{P:H0}(w:PL)(dT sT ty Cr:TypeId)(k:Nat)(b o dLen dCap:Nat)(a:Addr)(sLen sCap:Nat)(cs:V O)
  (hu:P.underlying dT=some (.slice Cr)) (hs:(P.info? Cr).map (·.size)=some k) (hn:cs.length=Nat.min sLen dLen*k) (tL:∀j v,cs[j]? = some v->w.cell? (a.add j)=some v) (hc:∀j,j<cs.length->(w.cell? ⟨b,o+j,none⟩).isSome=true) (hf:∀j,j<cs.length->w.frozen? ⟨b,o+j,none⟩=false) (h1:∀v∈cs,v.oneCell'=true):
  (Builtin.copy_ #[dT,sT] ty #[.slice (some ⟨b,o,none⟩) dLen dCap,.slice (some a) sLen sCap]).run P w=.ok (goInt (Nat.min sLen dLen)) (w.setCells b o cs):=by
 have hl:=run_loadCells_list (P:=P) w a cs tL;have cK:=run_storeCells_cells (P:=P) b o cs 0 w (by simpa using hc) (by simpa using hf) h1;rcases hq:P.info? Cr with _|i;simp[hq]at hs;have hi:i.size=k:=by simpa[hq]using hs
 simp[Builtin.copy_,run_underlying hu,Builtin.lenOf,Builtin.firstCells,sizeOf,typeInfo,hq,hi,<-hn,hl,cK]
set_option maxHeartbeats 4000000 in
set_option maxRecDepth 100000 in
def z5w(b off n c i vb:Nat)(cs vs:V O)(w:PL)(hi:i<n)(bM:n+1<=c)(hc63:n<4611686018427387904)(TM:vb≠b)
  (eZ:cs.length=n*2) (nV:vs.length=2) (o9:∀j v,cs[j]? = some v->w.cell? ⟨b,off+j,none⟩=some v) (v8:∀j,j<(n+1)*2->(w.cell? ⟨b,off+j,none⟩).isSome=true) (Vn:∀j,j<(n+1)*2->w.frozen? ⟨b,off+j,none⟩=false) (CG:∀j v,vs[j]? = some v->w.cell? ⟨vb,j,none⟩=some v) (Jr:∀v∈cs,v.oneCell'=true) (h1v:∀v∈vs,v.oneCell'=true) (tA tB:TypeId) (kA kB:Nat) (hsa:w.shape? vb=some (tA,kA)) (hsb:w.shape? b=some (tB,kB)) (hkB:kB≠0) (Vq:w.frozen? ⟨vb,0,none⟩=false) (hfe:w.frozen? ⟨vb,kA,none⟩=false):
  Calls Tryz.prog 77 #[.slice (some ⟨b,off,none⟩) n c,.int .i64 i,.slice (some ⟨vb,0,none⟩) 1 1] w fun e w'=>e=.returned (.slice (some ⟨b,off,none⟩) (n+1) c)/\w'=(w.drew.setCells b (off+(i+1)*2) (cs.drop (i*2))).setCells b (off+i*2) vs:=by
 have V?:¬ ((i:Int)=(n:Int)):=by omega
 have dU:(Tryz.prog.info? 98).map (·.size)=some 2:=by kernel_rfl
 have U?:∀w,(sizeOf 98).run Tryz.prog w=.ok 2 w:=fun w=>by
  have h0:∃q,Tryz.prog.info? 98=some q/\q.size=2:=by rcases hq:Tryz.prog.info? 98 with _|q;rw[hq]at dU;cases dU;rw[hq]at dU;exact⟨q,rfl,by simpa using dU⟩
  have⟨q,h1,h2⟩:=h0;simp[sizeOf,typeInfo,h1,h2]
 have hov:∀lb cb,(callFunc 109 #[.slice (some ⟨vb,0,none⟩) 1 1,.slice (some ⟨b,off+(i+1)*2,none⟩) lb cb]).run Tryz.prog w=.ok (.value (.bool false)) w:=fun lb cb=>by
  rw[run_callFunc_extern Tryz.func109 (by kernel_rfl) (by kernel_rfl) (by kernel_rfl) (e:=Extern.SlicesOverlaps.overlaps #[76,76] #[4]) (by kernel_rfl),
   Lib.run_overlaps_apart w 76 4 98 Tryz.underlying76 2 U? ⟨vb,0,none⟩ ⟨b,off+(i+1)*2,none⟩ 1 1 lb cb TM tA tB kA kB hsa hsb hkB Vq hfe]
  rfl
 have CW:(cs.drop (i*2)).length=(n-i)*2:=by rw[List.length_drop,eZ];omega
 have P1:IntKind.i64.wrap ((i:Int)+1)=(i:Int)+1:=by rw[IntKind.wrap_i64];omega
 have vH:(0:Int)<=(i:Int)+1:=by omega
 have iS:i<=n:=by omega
 have htn:((i:Int)+1).toNat=i+1:=by omega
 have uN:¬ (c=i+1):=by omega
 have py:(i:Int)<=(n:Int)+1:=by omega
 have hb4:¬ (c=i):=by omega
 have Vz:∀ty dc sc,(Builtin.copy_ #[76,76] ty #[.slice (some ⟨b,off+(i+1)*2,none⟩) (n-i) dc,.slice (some ⟨b,off+i*2,none⟩) (n+1-i) sc]).run Tryz.prog w.drew=.ok (goInt ((n-i:Nat):Int)) (w.drew.setCells b (off+(i+1)*2) (cs.drop (i*2))):=fun ty dc sc=>by
  have pO:Nat.min (n+1-i) (n-i)=n-i:=by simp only[Nat.min_def];split<;>omega
  have:=js w.drew 76 76 ty 98 2 b (off+(i+1)*2) (n-i) dc ⟨b,off+i*2,none⟩ (n+1-i) sc (cs.drop (i*2)) Tryz.underlying76 dU (by rw[CW,pO])
   (fun j v hj=>by rw[Addr.add_lit,Nat.add_assoc];exact o9 (i*2+j) v (by rwa [List.getElem?_drop]at hj))
   (fun j hj=>by rw[Nat.add_assoc];exact v8 _ (by omega)) (fun j hj=>by rw[Nat.add_assoc];exact Vn _ (by omega)) (fun v hv=>Jr v (List.mem_of_mem_drop hv))
  rw[pO]at this;exact this
 obtain⟨W1,AI⟩:∃W1,W1=w.drew.setCells b (off+(i+1)*2) (cs.drop (i*2)):=⟨_,rfl⟩;have hsp1:∀k,k<(n+1)*2->(W1.cell? ⟨b,off+k,none⟩).isSome=true:=fun k hk=>by rw[AI];exact isSome_setCells b _ _ _ (fun j hj=>by rw[Nat.add_assoc];exact v8 _ (by omega)) _ (v8 k hk)
 have hcp2:∀(W:PL),(∀x,W.cell? x=W1.cell? x)->(∀x,W.frozen? x=W1.frozen? x)->∀ty dc,(Builtin.copy_ #[76,76] ty #[.slice (some ⟨b,off+i*2,none⟩) (n+1-i) dc,.slice (some ⟨vb,0,none⟩) 1 1]).run Tryz.prog W=.ok (goInt 1) (W.setCells b (off+i*2) vs):=fun W U3 Wj ty dc=>by
  have pO:Nat.min 1 (n+1-i)=1:=by simp only[Nat.min_def];split<;>omega
  have:=js W 76 76 ty 98 2 b (off+i*2) (n+1-i) dc ⟨vb,0,none⟩ 1 1 vs Tryz.underlying76 dU (by rw[nV,pO])
   (fun j v hj=>by rw[Addr.add_lit,U3,AI,World.cell?_setCells_out b _ _ _ _ (fun h _=>absurd h TM)];simpa using CG j v hj)
   (fun j hj=>by rw[U3,Nat.add_assoc];exact hsp1 _ (by omega)) (fun j hj=>by rw[Wj,AI,World.frozen?_setCells,Nat.add_assoc];exact Vn _ (by omega)) h1v
  rw[pO]at this;exact this
 rw[<-AI]at Vz;have mixed:Tryz.prog.follows .mixedOrders=true:=by kernel_rfl
 go_enter Tryz.func77,Tryz.ntmps77
 go_wp2_with (simp[hov])
 go_region_law_o (refine step_copy_runI rfl _ _ 76 76 rfl _ _ (by simp[Act.eval,Act.put]) (by simp[Act.eval,Act.put]) (Vz _ _ _) ?_)
 go_wp2_with (at_builtin;refine wpList_copy_runI _ rfl _ _ 76 76 rfl _ _ rfl rfl (hcp2 _ (fun _=>rfl) (fun _=>rfl) _ _) ?_)
 go_ret
 first |exact⟨rfl,rfl⟩|exact⟨rfl,by rw[AI]⟩
def EQ:O:=.agg #[.int .i64 0,.int .i64 0]
set_option maxHeartbeats 4000000 in
set_option maxRecDepth 100000 in
def z9p(b off n c i vb:Nat)(cs vs:V O)(w:PL)(hi:i<n)(vB:n<=c)(bM:c<n+1)(xP:(n+1)*16<=140737488355328)(eZ:cs.length=n*2)(nV:vs.length=2)
  (o9:∀j v,cs[j]? = some v->w.cell? ⟨b,off+j,none⟩=some v) (CG:∀j v,vs[j]? = some v->w.cell? ⟨vb,j,none⟩=some v) (Jr:∀v∈cs,v.oneCell'=true) (h1v:∀v∈vs,v.oneCell'=true):
  Calls Tryz.prog 77 #[.slice (some ⟨b,off,none⟩) n c,.int .i64 i,.slice (some ⟨vb,0,none⟩) 1 1] w fun e w'=>
   e=.returned (.slice (some ⟨w.heap.size,0,none⟩) (n+1) (grownCap w (n+1) c 98))/\
   w'=(((w.alloc (.cells ((cs.take (i*2)).toArray++Builtin.zeroCells EQ.cells (n+1-i)++Builtin.zeroCells EQ.cells (grownCap w (n+1) c 98-(n+1))) 98)).drew.setCells w.heap.size (i*2) vs).drew).setCells w.heap.size ((i+1)*2) (cs.drop (i*2)):=by
 have N0:(Tryz.prog.info? 98).map (fun q=>(q.size,q.bytes,q.zero))=some (2,16,some EQ):=by kernel_rfl
 obtain⟨i0,Jh,W?,TK,T?⟩:∃i0,Tryz.prog.info? 98=some i0/\i0.zero=some EQ/\i0.size=2/\i0.bytes=16:=by rcases hq:Tryz.prog.info? 98 with _|q;rw[hq]at N0;cases N0;rw[hq]at N0;simp[zM,zA,zB]at N0;exact⟨q,rfl,N0.2.2,N0.1,N0.2.1⟩
 have V?:¬ ((i:Int)=(n:Int)):=by omega
 have hz3:(c:Int)<(n:Int)+1:=by omega
 have dU:(Tryz.prog.info? 98).map (·.size)=some 2:=by rw[Jh];simp[TK]
 have hbw:b<w.heap.size:=block_lt_of_cell (o9 0 _ (List.getElem?_eq_getElem (by omega)));have hvw:vb<w.heap.size:=block_lt_of_cell (CG 0 _ (List.getElem?_eq_getElem (by omega)));have ph:(n:Int)+1-(i:Int)=((n+1-i:Nat):Int):=by omega
 have FZ:i+(n+1-i)=n+1:=by omega
 have lK:(Builtin.firstCells i0.size i (.slice (some ⟨b,off,none⟩) i c)).run Tryz.prog w.drew=.ok (cs.take (i*2)).toArray w.drew:=by rw[TK];exact run_firstCells_some w.drew 2 i ⟨b,off,none⟩ i c (cs.take (i*2)) (by rw[List.length_take];omega) (fun j v hj=>by rw[Addr.add_lit];rw[List.getElem?_take]at hj;split at hj;exact o9 j v hj;cases hj)
 have pd:∀ty,(Builtin.append_ #[76,3] ty #[.slice (some ⟨b,off,none⟩) i c,.int .i64 ((n:Int)+1-(i:Int))]).run Tryz.prog w=
   .ok (.slice (some ⟨w.heap.size,0,none⟩) (n+1) (grownCap w (n+1) c 98)) (w.drew.alloc (.cells ((cs.take (i*2)).toArray++Builtin.zeroCells EQ.cells (n+1-i)++Builtin.zeroCells EQ.cells (grownCap w (n+1) c 98-(n+1))) 98)):=fun ty=>by
  have h:=Lib.run_append_grow_zeros w 76 3 ty 98 i0 _ .i64 .i64 Tryz.underlying76 Tryz.underlying3 Jh W? (some ⟨b,off,none⟩) i c (cs.take (i*2)) lK (n+1-i) (by omega) (by omega) (by omega) (by omega) (by rw[T?];omega) (by rw[T?,FZ];exact growslice_fits bM xP);rw[FZ]at h;rw[ph];exact h
 obtain⟨G,hG⟩:∃G,G=grownCap w (n+1) c 98:=⟨_,rfl⟩;obtain⟨ROW,Bk⟩:∃ROW:H2 O,ROW=(cs.take (i*2)).toArray++Builtin.zeroCells EQ.cells (n+1-i)++Builtin.zeroCells EQ.cells (G-(n+1)):=⟨_,rfl⟩;rw[<-hG]at pd ⊢;rw[<-Bk]at pd ⊢;have hRl:(n+1)*2<=ROW.size:=by rw[Bk];simp[Builtin.zeroCells,EQ,Value.cells,eZ];omega
 obtain⟨W1,AI⟩:∃W1,W1=w.drew.alloc (.cells ROW 98):=⟨_,rfl⟩;rw[<-AI]at pd;have hN:∀j,j<(n+1)*2->(W1.cell? ⟨w.heap.size,j,none⟩).isSome=true:=fun j hj=>by rw[AI,World.cell?_alloc_at (w:=w.drew) ROW _ w.heap.size j rfl,Array.getElem?_eq_getElem (by omega)];rfl
 have hNf:∀j,W1.frozen? ⟨w.heap.size,j,none⟩=false:=fun j=>by rw[AI];exact World.frozen?_alloc_at (w:=w.drew) ROW _ w.heap.size j rfl
 have hOb:∀j v,w.cell? ⟨b,j,none⟩=some v->W1.cell? ⟨b,j,none⟩=some v:=fun j v h=>by rw[AI,World.cell?_alloc_past (w:=w.drew) _ b j hbw];exact h
 have hOv:∀j v,w.cell? ⟨vb,j,none⟩=some v->W1.cell? ⟨vb,j,none⟩=some v:=fun j v h=>by rw[AI,World.cell?_alloc_past (w:=w.drew) _ vb j hvw];exact h
 have hcpA:∀(W:PL),(∀x,W.cell? x=W1.cell? x)->(∀x,W.frozen? x=W1.frozen? x)->∀ty dc,(Builtin.copy_ #[76,76] ty #[.slice (some ⟨w.heap.size,i*2,none⟩) (n+1-i) dc,.slice (some ⟨vb,0,none⟩) 1 1]).run Tryz.prog W=.ok (goInt 1) (W.setCells w.heap.size (i*2) vs):=fun W U3 Wj ty dc=>by
  have pO:Nat.min 1 (n+1-i)=1:=by simp only[Nat.min_def];split<;>omega
  have:=js W 76 76 ty 98 2 w.heap.size (i*2) (n+1-i) dc ⟨vb,0,none⟩ 1 1 vs Tryz.underlying76 dU (by rw[nV,pO])
   (fun j v hj=>by rw[Addr.add_lit,U3];simpa using hOv _ v (CG j v hj))
   (fun j hj=>by rw[U3];exact hN _ (by omega)) (fun j hj=>by rw[Wj];exact hNf _) h1v
  rw[pO]at this;exact this
 have hGn:n+1<=G:=by rw[hG];exact grownCap_ge w _ _ _
 have hG63:G<=9223372036854775807:=by have:=grownCap_le_maxLen w (n+1) c 98 (by unfold maxLen;omega);rw[<-hG]at this;unfold maxLen at this;omega
 have hGi:¬ (G=i):=by omega
 have hGim:¬ (G=i+1):=by omega
 have pu:¬ (c=i):=by omega
 have hbN:b≠w.heap.size:=by omega
 have CW:(cs.drop (i*2)).length=(n-i)*2:=by rw[List.length_drop,eZ];omega
 have Vy:∀(W:PL),(∀x,W.cell? x=(W1.setCells w.heap.size (i*2) vs).cell? x)->(∀x,W.frozen? x=(W1.setCells w.heap.size (i*2) vs).frozen? x)->∀ty dc sc,(Builtin.copy_ #[76,76] ty #[.slice (some ⟨w.heap.size,(i+1)*2,none⟩) (n-i) dc,.slice (some ⟨b,off+i*2,none⟩) (n-i) sc]).run Tryz.prog W=.ok (goInt ((n-i:Nat):Int)) (W.setCells w.heap.size ((i+1)*2) (cs.drop (i*2))):=fun W U3 Wj ty dc sc=>by
  have pO:Nat.min (n-i) (n-i)=n-i:=Nat.min_self _;have:=js W 76 76 ty 98 2 w.heap.size ((i+1)*2) (n-i) dc ⟨b,off+i*2,none⟩ (n-i) sc (cs.drop (i*2)) Tryz.underlying76 dU (by rw[CW,pO])
   (fun j v hj=>by rw[Addr.add_lit,U3,World.cell?_setCells_out _ _ _ _ _ (fun h _=>absurd h hbN),Nat.add_assoc];exact hOb _ v (o9 (i*2+j) v (by rwa [List.getElem?_drop]at hj)))
   (fun j hj=>by rw[U3];exact isSome_setCells _ _ _ _ (fun t ht=>hN _ (by omega)) _ (hN _ (by omega)))
   (fun j hj=>by rw[Wj,World.frozen?_setCells];exact hNf _) (fun v hv=>Jr v (List.mem_of_mem_drop hv))
  rw[pO]at this;exact this
 subst AI;have hE1:∀x,((w.alloc (.cells ROW 98)).drew).cell? x=(w.drew.alloc (.cells ROW 98)).cell? x:=fun x=>rfl;have hE2:∀x,((w.alloc (.cells ROW 98)).drew).frozen? x=(w.drew.alloc (.cells ROW 98)).frozen? x:=fun x=>rfl;have Wn:∀x,(((w.alloc (.cells ROW 98)).drew.setCells w.heap.size (i*2) vs).drew).cell? x=((w.drew.alloc (.cells ROW 98)).setCells w.heap.size (i*2) vs).cell? x:=fun x=>rfl;have Bm:∀x,(((w.alloc (.cells ROW 98)).drew.setCells w.heap.size (i*2) vs).drew).frozen? x=((w.drew.alloc (.cells ROW 98)).setCells w.heap.size (i*2) vs).frozen? x:=fun x=>rfl;have P1:IntKind.i64.wrap ((i:Int)+1)=(i:Int)+1:=by rw[IntKind.wrap_i64];omega
 have vH:(0:Int)<=(i:Int)+1:=by omega
 have iS:i<=n:=by omega
 have htn:((i:Int)+1).toNat=i+1:=by omega
 have py:(i:Int)<=(n:Int):=by omega
 have mixed:Tryz.prog.follows .mixedOrders=true:=by kernel_rfl
 clear ph FZ lK Bk hG hRl
 go_enter Tryz.func77,Tryz.ntmps77
 go_wp2_with (first
  |(at_builtin;refine Lib.wpList_append_run _ rfl _ _ _ _ rfl _ _ rfl rfl _ _ (pd _) ?_)
  |(at_builtin;refine wpList_copy_runI _ rfl _ _ 76 76 rfl _ _ rfl rfl (hcpA _ hE1 hE2 _ _) ?_)
  |(at_builtin;refine wpList_copy_runI _ rfl _ _ 76 76 rfl _ _ rfl rfl (Vy _ (fun _=>rfl) (fun _=>rfl) _ _ _) ?_))
 go_region_law_o (refine step_copy_runI rfl _ _ 76 76 rfl (.slice (some ⟨w.heap.size,(i+1)*2,none⟩) (n-i) (G-(i+1))) (.slice (some ⟨b,off+i*2,none⟩) (n-i) (c-i)) (by simp[Act.eval,Act.put]) (by simp[Act.eval,Act.put]) (Vy _ Wn Bm 3 (G-(i+1)) (c-i)) ?_)
 go_wp2
 go_ret
 exact⟨rfl,rfl⟩
def Oz(b:Nat)(t:TypeId):∀(vs:V O)(o:Nat)(cur:H2 O)(w:PL),w.heap[b]? = some (.cells cur t (0,0))->o+vs.length<=cur.size->
  w.setCells b o vs=w.setRow b (cur.toList.take o++vs++cur.toList.drop (o+vs.length)).toArray
 |[],o,cur,w,hg,_=>by simp[World.setCells,List.append_nil,zS,Nat.add_zero,List.take_append_drop,Array.toArray_toList];rw[setRow_self w b cur t (0,0) hg]
 |v::r,o,cur,w,hg,hl=>by
  have hi:o<cur.size:=by simp at hl;omega
  have ih:=Oz b t r (o+1) (cur.setIfInBounds o v) (w.setRow b (cur.setIfInBounds o v)) (setRow_heap w b cur _ t _ hg) (by simp at hl ⊢;omega);rw[World.setCells,setCell_eq_setRow w b o cur t (0,0) v hg,ih,setRow_setRow];congr 2;have e:=list_seg_step cur.toList o v r (by simp at hl ⊢;omega);simpa[Array.toList_setIfInBounds,Nat.add_assoc]using e
variable{w:PL}
variable{b:Nat}
variable{e:TypeId}
def da{pre l:V O}(h:w.heap[b]? = some (.cells (pre++l).toArray e (0,0))){off:Nat}(ho:pre.length=off)(j:Nat):w.cell? ⟨b,off+j,none⟩=l[j]?:=by subst ho;simp[World.cell?,h,List.getElem?_append_right]
def iq{c:H2 O}(h:w.heap[b]? = some (.cells c e (0,0)))(o:Nat):w.frozen? ⟨b,o,none⟩=false:=by simp[World.frozen?,h]
def qxg{c:H2 O}(h:w.heap[b]? = some (.cells c e (0,0))):w.shape? b=some (e,c.size):=by simp[World.shape?,h]
namespace InsZ
open Go.Rx Go.Vx
def z8q{m aK:Nm}{s bI:S}{w₁ mO:PL}(h:bG m s w aK bI w₁)(hh:mO.heap=w₁.heap)(h1:mO.os=w₁.os)(h2:mO.tape=w₁.tape)(h3:mO.output=w₁.output):bG m s w aK bI mO:=by refine⟨h.agree,h.nx,fun m' eF=>?_,h.own,fun b hb hn=>by rw[hh];exact h.same b hb hn,by rw[hh];exact h.size,h1.trans h.os,h2.trans h.tape,h3.trans h.output⟩;have hf:=h.fits m' eF;exact⟨fun i b hb=>(hf.ok i b hb).world (by rw[hh]),hf.inj,hf.bd⟩
def ins_lt{i k:Nat}{p q nu:V U}{pv qv nv:V O}(hp:eG p=some pv)(hq:eG q=some qv)(pf:eG nu=some nv)(okp:okL p=true)(okq:okL q=true)(okn:okL nu=true)
  (lp:pv.length=i*2) (lq:qv.length=k*2) (ln:nv.length=2) (hk:0<k) (rp:∀m,aE m pv=pv) (rq:∀m,aE m qv=qv) (rn:∀m,aE m nv=nv) (op:∀v∈pv,v.oneCell'=true) (oq:∀v∈qv,v.oneCell'=true) (on:∀v∈nv,v.oneCell'=true) (xP:(i+k+1)*16<=140737488355328) (t:Nat):
  b7 Tryz.prog 77 [.vl 0 t 0 (i+k),.int .i64 i,.sl 1 0 1 1] ⟨[(0,.vec (p++q) 98 2 t),(1,.row nu 98)],2⟩ (fun u X'=>u=.vl 0 (t+1) 0 (i+k+1)/\X'=⟨[(0,.vec (p++nu++q) 98 2 (t+1)),(1,.row nu 98)],2⟩):=by
 intro F x vs m w cargs hx hh k9 he dR bW;obtain⟨v0,VV,rfl,h0,he⟩:=he.inv;obtain⟨v1,tf,rfl,h1,he⟩:=he.inv;obtain⟨v2,IB,rfl,h2,he⟩:=he.inv;have:=he.nil_inv;subst this;simp only[aD]at h0 h1 h2;subst h1;have hg:gt x.X.h 0=some (.vec (p++q) 98 2 t):=by rw[hx];rfl
 have Ji:gt x.X.h 1=some (.row nu 98):=by rw[hx];rfl
 obtain⟨_,hK,h0⟩:=h0;obtain⟨l,e',sz,hb,nV⟩:=(h0 _ hg).2 rfl;cases hb;obtain⟨_,hBk⟩:=hh.ok 0 _ hg;obtain⟨_,_,hB⟩:=hBk;rcases hB with⟨hn,_⟩|⟨i0,l',k8,y5,hE⟩;exfalso;have:q=[]:=(List.append_eq_nil_iff.1 hn).2;subst this;simp only[eG,zA]at hq;subst hq;simp at lq;omega;rw[k8]at nV;simp only[I5]at nV;rcases nV with⟨Bh,_⟩|rfl;omega;have BK:=(DW _ _ (Ou hp hq) x l').1 hE;subst BK;obtain⟨_,_,h2⟩:=h2;obtain⟨i1,Ud,rfl,_,_⟩:=(h2 _ Ji).2 rfl;obtain⟨_,i1',l1,TJ,Aq,hE1⟩:=(hh.ok 1 _ Ji).2;rw[Ud]at TJ;cases TJ;have vC:=(DW _ _ pf x l1).1 hE1;rw[vC]at Aq;have h01:i0≠i1:=fun e=>by have:=hh.inj 0 1 _ _ i0 hg Ji k8 (by rw[Ud,e]);omega
 have wI:=dR m (aI.refl _ _);have Bg:m.blk i0≠m.blk i1:=wI.inj i0 i1 _ _ y5 Aq h01 rfl;obtain⟨pre,rest,nD,mU,gM⟩:=(wI.ok i0 _ y5:wX m i0 _ 98 w 4);obtain⟨hsh1,tT⟩:=(wI.ok i1 _ Aq:wX m i1 _ 98 w 0);have rpq:∀m,aE m (pv++qv)=pv++qv:=fun m=>by rw[x3,rp,rq]
 have rpnq:∀m,aE m (pv++nv++qv)=pv++nv++qv:=fun m=>by rw[x3,x3,rp,rn,rq]
 rw[rpq]at nD;rw[rn]at tT;have nX:=bW.at;simp only[aE,ren,wW]at nX;subst nX;have ec:bX m i0 (bY+0)=m.cp i0:=by simp[bX,bR]
 have ec1:bX m i1 1=1:=by simp[bX,bY]
 rw[ec,ec1,hsh1];have aZ:(pv++qv).length=(i+k)*2:=by rw[zU,lp,lq];omega
 rw[aZ]at gM;replace gM:(i+k)*2+rest.length=m.cp i0*2:=gM;have kQ:w.heap[m.blk i0]? = some (.cells (pre++((pv++qv)++rest)).toArray 98 (0,0)):=by rw[nD,zT]
 have o9:∀j v,(pv++qv)[j]? = some v->w.cell? ⟨m.blk i0,m.sh i0+0*2+j,none⟩=some v:=fun j v hv=>by rw[Nat.zero_mul,Nat.add_zero,da kQ mU j,List.getElem?_append_left (zG.1 hv).1,hv]
 have CG:∀j v,nv[j]? = some v->w.cell? ⟨m.blk i1,j,none⟩=some v:=fun j v hv=>by have:=da (pre:=[]) (l:=nv) tT (off:=0) rfl j;rw[Nat.zero_add]at this;rw[this,hv]
 have Jr:∀v∈pv++qv,v.oneCell'=true:=fun v hv=>(yD.1 hv).elim (op v) (oq v);have Ix:(pv++qv).take (i*2)=pv:=by rw[<-lp];exact List.take_left
 have HL:(pv++qv).drop (i*2)=qv:=by rw[<-lp];exact List.drop_left
 have Jh:i0<x.s.nx:=hh.bd i0 _ y5;have K6:okL (p++nu++q)=true:=JB (JB okp okn) okq;have tK:eG (p++nu++q)=some (pv++nv++qv):=Ou (Ou hp pf) hq;have E4:∀l,(⟨ug x.X.h 0 (.vec l 98 2 (t+1)),x.X.nx⟩:Sg)=⟨[(0,.vec l 98 2 (t+1)),(1,.row nu 98)],2⟩:=fun l=>by rw[hx];rfl
 by_cases bM:i+k+1<=m.cp i0;have hc:=z5w (m.blk i0) (m.sh i0+0*2) (i+k) (m.cp i0) i (m.blk i1) (pv++qv) nv w (by omega) bM (by omega) (Ne.symm Bg) aZ ln o9
  (fun j hj=>by
   rw[Nat.zero_mul,Nat.add_zero,da kQ mU j];have:j<((pv++qv)++rest).length:=by rw[zU,aZ];omega
   rw[List.getElem?_eq_getElem this];rfl)
  (fun j _=>iq kQ _) CG Jr on 98 98 nv.toArray.size _ (qxg tT) (qxg kQ) (by rw[List.size_toArray,zU,zU,aZ];omega) (iq tT _) (iq tT _)
 refine(show Calls Tryz.prog 77 _ w _ from hc).mono ?_;rintro e1 w' ⟨rfl,rfl⟩;rw[HL];have hd:w.drew.heap[m.blk i0]? = some (.cells (pre++((pv++qv)++rest)).toArray 98 (0,0)):=kQ;obtain⟨r1,r2,rfl,Jb⟩:∃r1 r2:V O,rest=r1++r2/\r1.length=2:=⟨rest.take 2,rest.drop 2,(List.take_append_drop 2 rest).symm,by rw[List.length_take];omega⟩;obtain⟨q1,q2,rfl,P6⟩:∃q1 q2:V O,qv=q1++q2/\q1.length=2:=⟨qv.take 2,qv.drop 2,(List.take_append_drop 2 qv).symm,by rw[List.length_take];omega⟩;have key:(w.drew.setCells (m.blk i0) (m.sh i0+0*2+(i+1)*2) (q1++q2)).setCells (m.blk i0) (m.sh i0+0*2+i*2) nv=w.drew.setRow (m.blk i0) (pre++(pv++nv++(q1++q2))++r2).toArray:=by
  have hsz1:(pre++((pv++(q1++q2))++(r1++r2))).length=m.sh i0+(i*2+k*2)+(2+r2.length):=by simp only[zU]at aZ lq ⊢;omega
  rw[Oz (m.blk i0) 98 _ _ _ _ hd (by rw[List.size_toArray,hsz1];omega)];have e1:(pre++((pv++(q1++q2))++(r1++r2))).take (m.sh i0+0*2+(i+1)*2)=pre++pv++q1:=by rw[show pre++((pv++(q1++q2))++(r1++r2))=(pre++pv++q1)++(q2++(r1++r2)) by simp[zT]];rw[show m.sh i0+0*2+(i+1)*2=(pre++pv++q1).length by simp only[zU];omega];exact List.take_left
  have e2:(pre++((pv++(q1++q2))++(r1++r2))).drop (m.sh i0+0*2+(i+1)*2+(q1++q2).length)=r2:=by rw[show pre++((pv++(q1++q2))++(r1++r2))=(pre++pv++(q1++q2)++r1)++r2 by simp[zT]];rw[show m.sh i0+0*2+(i+1)*2+(q1++q2).length=(pre++pv++(q1++q2)++r1).length by simp only[zU];omega];exact List.drop_left
  simp only[List.toList_toArray]at*;rw[e1,e2];rw[Oz (m.blk i0) 98 _ _ _ _ (setRow_heap w.drew _ _ _ 98 _ hd) (by rw[List.size_toArray];simp only[zU];omega),setRow_setRow];congr 2;simp only[List.toList_toArray];have e3:(pre++pv++q1++(q1++q2)++r2).take (m.sh i0+0*2+i*2)=pre++pv:=by rw[show pre++pv++q1++(q1++q2)++r2=(pre++pv)++(q1++(q1++q2)++r2) by simp[zT]];rw[show m.sh i0+0*2+i*2=(pre++pv).length by simp only[zU];omega];exact List.take_left
  have e4:(pre++pv++q1++(q1++q2)++r2).drop (m.sh i0+0*2+i*2+nv.length)=q1++q2++r2:=by rw[show pre++pv++q1++(q1++q2)++r2=(pre++pv++q1)++(q1++q2++r2) by simp[zT]];rw[show m.sh i0+0*2+i*2+nv.length=(pre++pv++q1).length by simp only[zU];omega];exact List.drop_left
  rw[e3,e4];simp[zT]
 rw[key];have xN:(w.drew.setRow (m.blk i0) (pre++(pv++nv++(q1++q2))++r2).toArray).heap[m.blk i0]? = some (.cells (pre++(pv++nv++(q1++q2))++r2).toArray 98 (0,0)):=setRow_heap w.drew _ _ _ 98 _ hd;have aS:bG m x.s w m ⟨up x.s.h i0 (.inl (pv++nv++(q1++q2),98,4)),x.s.nx⟩ (w.drew.setRow (m.blk i0) (pre++(pv++nv++(q1++q2))++r2).toArray):=by refine bG.write dR y5 rfl (fun j hj=>by rw[setRow_other _ _ _ _ hj];rfl) (by unfold World.setRow;exact Array.size_modify) rfl rfl rfl (Nat.le_succ _) fun m' ha=>?_;obtain⟨a1,a2,a3⟩:=ha i0 Jh;refine⟨pre,r2,by rw[a1,rpnq];exact xN,by rw[a2];exact mU,?_⟩;rw[a3];simp only[zU]at gM aZ lq ⊢;omega
 have iZ:=Fy hh hg (some i0) ⟨up x.s.h i0 (.inl (pv++nv++(q1++q2),98,4)),x.s.nx⟩ (l1:=p++nu++q) (fun j b hb d5=>by
   have:i0≠j:=fun e=>d5 (by rw[k8,e]);simp only[B2,if_neg this];exact hb) (fun j hj=>.inl (by rw[k8];exact hj)) (fun j b hb=>by
   simp only[B2]at hb;split at hb;rename_i e;subst e;exact Jh;exact hh.bd j _ hb) K6 (fun y _ _=>.inr ⟨i0,_,rfl,by simp only[B2,if_true,y5,zM],(DW _ _ tK y _).2 rfl⟩)
 refine⟨_,m,.vl 0 (t+1) 0 (i+k+1),.slice (some ⟨i0,0*2,none⟩) (i+k+1) (bY+0),_,rfl,⟨rfl,E4 _⟩,aS,fun m' eF=>?_,iZ.h,iZ.fr F k9,Fo hh hg rfl (.inr rfl),iZ.mo.ke,zF _⟩;obtain⟨a1,a2,a3⟩:=eF i0 Jh;simp only[ren];rw[a1,a2];simp[bX,bR,a3];have hgr:=z9p (m.blk i0) (m.sh i0+0*2) (i+k) (m.cp i0) i (m.blk i1) (pv++qv) nv w (by omega) (by omega) (by omega) xP aZ ln o9 CG Jr on;refine(show Calls Tryz.prog 77 _ w _ from hgr).mono ?_;rintro e1 w' ⟨rfl,rfl⟩;rw[HL,Ix];have hGn:i+k+1<=grownCap w (i+k+1) (m.cp i0) 98:=grownCap_ge w _ _ _;generalize grownCap w (i+k+1) (m.cp i0) 98=G at hGn;obtain⟨Z1,hZ1,hZl⟩:∃v06:V O,Builtin.zeroCells EQ.cells (i+k+1-i)=v06.toArray/\v06.length=(k+1)*2:=⟨_,(Array.toArray_toList).symm,by simp[Builtin.zeroCells,EQ,Value.cells];omega⟩;obtain⟨Z2,hZ2,hZl2⟩:∃v06:V O,Builtin.zeroCells EQ.cells (G-(i+k+1))=v06.toArray/\v06.length=(G-(i+k+1))*2:=⟨_,(Array.toArray_toList).symm,by simp[Builtin.zeroCells,EQ,Value.cells]⟩;rw[hZ1,hZ2];obtain⟨za,zb,rfl,hza⟩:∃za zb:V O,Z1=za++zb/\za.length=2:=⟨Z1.take 2,Z1.drop 2,(List.take_append_drop 2 Z1).symm,by rw[List.length_take];omega⟩;have T?:zb.length=k*2:=by rw[zU]at hZl;omega
 have dX:pv.toArray++(za++zb).toArray++Z2.toArray=(pv++(za++zb)++Z2).toArray:=by simp
 rw[dX];have pn:((w.alloc (.cells (pv++(za++zb)++Z2).toArray 98)).drew).heap[w.heap.size]? = some (.cells (pv++(za++zb)++Z2).toArray 98 (0,0)):=by show(w.heap.push _)[w.heap.size]? = _;simp
 have M?:((w.alloc (.cells (pv++(za++zb)++Z2).toArray 98)).drew).setCells w.heap.size (i*2) nv=((w.alloc (.cells (pv++(za++zb)++Z2).toArray 98)).drew).setRow w.heap.size (pv++nv++zb++Z2).toArray:=by
  rw[Oz w.heap.size 98 _ _ _ _ pn (by rw[List.size_toArray];simp only[zU];omega)];congr 2;simp only[List.toList_toArray];have e3:(pv++(za++zb)++Z2).take (i*2)=pv:=by rw[zT,<-lp];exact List.take_left
  have e4:(pv++(za++zb)++Z2).drop (i*2+nv.length)=zb++Z2:=by rw[show pv++(za++zb)++Z2=(pv++za)++(zb++Z2) by simp[zT]];rw[show i*2+nv.length=(pv++za).length by simp only[zU];omega];exact List.drop_left
  rw[e3,e4];simp[zT]
 have G1:((((w.alloc (.cells (pv++(za++zb)++Z2).toArray 98)).drew).setRow w.heap.size (pv++nv++zb++Z2).toArray).drew).heap[w.heap.size]? = some (.cells (pv++nv++zb++Z2).toArray 98 (0,0)):=setRow_heap _ _ _ _ 98 _ pn;have L?:((((w.alloc (.cells (pv++(za++zb)++Z2).toArray 98)).drew).setRow w.heap.size (pv++nv++zb++Z2).toArray).drew).setCells w.heap.size ((i+1)*2) qv=((((w.alloc (.cells (pv++(za++zb)++Z2).toArray 98)).drew).setRow w.heap.size (pv++nv++zb++Z2).toArray).drew).setRow w.heap.size (pv++nv++qv++Z2).toArray:=by
  rw[Oz w.heap.size 98 _ _ _ _ G1 (by rw[List.size_toArray];simp only[zU];omega)];congr 2;simp only[List.toList_toArray];have e3:(pv++nv++zb++Z2).take ((i+1)*2)=pv++nv:=by rw[show pv++nv++zb++Z2=(pv++nv)++(zb++Z2) by simp[zT]];rw[show(i+1)*2=(pv++nv).length by simp only[zU];omega];exact List.take_left
  have e4:(pv++nv++zb++Z2).drop ((i+1)*2+qv.length)=Z2:=by rw[show(i+1)*2+qv.length=(pv++nv++zb).length by simp only[zU];omega];exact List.drop_left
  rw[e3,e4]
 rw[M?,L?];have P9:(((((w.alloc (.cells (pv++(za++zb)++Z2).toArray 98)).drew).setRow w.heap.size (pv++nv++zb++Z2).toArray).drew).setRow w.heap.size (pv++nv++qv++Z2).toArray).heap=(w.alloc (.cells (pv++nv++qv++Z2).toArray 98)).heap:=by apply Array.ext_getElem?;intro j;by_cases hj:j=w.heap.size;subst hj;rw[setRow_heap _ _ _ _ 98 _ G1];show _=(w.heap.push _)[w.heap.size]?;simp;rw[setRow_other _ _ _ _ hj];show(((w.alloc (.cells (pv++(za++zb)++Z2).toArray 98)).drew).setRow w.heap.size (pv++nv++zb++Z2).toArray).heap[j]? = _;rw[setRow_other _ _ _ _ hj];show(w.heap.push _)[j]? = (w.heap.push _)[j]?;simp only[Array.getElem?_push,if_neg hj]
 have aS:bG m x.s w (m.set x.s.nx w.heap.size 0 G) ⟨(x.s.nx,.inl (pv++nv++qv,98,4))::x.s.h,x.s.nx+1⟩ (((((w.alloc (.cells (pv++(za++zb)++Z2).toArray 98)).drew).setRow w.heap.size (pv++nv++zb++Z2).toArray).drew).setRow w.heap.size (pv++nv++qv++Z2).toArray):=by refine z8q (bG.alloc dR (.cells (pv++nv++qv++Z2).toArray 98) (.inl (pv++nv++qv,98,4)) G fun m' ha=>?_) P9 rfl rfl rfl;obtain⟨a1,a2,a3⟩:=ha x.s.nx (zN _);simp only[Nm.set,if_true]at a1 a2 a3;refine⟨[],Z2,?_,by rw[a2];rfl,?_⟩;rw[a1,rpnq,List.nil_append];show(w.heap.push _)[w.heap.size]? = _;simp;rw[a3,hZl2];simp only[zU];omega
 have iZ:=Fy hh hg (some x.s.nx) ⟨(x.s.nx,.inl (pv++nv++qv,98,4))::x.s.h,x.s.nx+1⟩ (l1:=p++nu++q) (fun j b hb d5=>by
   have h3:=hh.bd j b hb;rw[n9,if_neg (show x.s.nx≠j by omega)];exact hb) (fun j hj=>.inr (by cases hj;exact zF _)) (fun j b hb=>by
   rw[n9]at hb;split at hb;rename_i e;subst e;exact zN _;exact Nat.lt_succ_of_lt (hh.bd j _ hb)) K6 (fun y _ _=>.inr ⟨x.s.nx,_,rfl,by rw[n9,if_pos rfl],(DW _ _ tK y _).2 rfl⟩)
 refine⟨_,m.set x.s.nx w.heap.size 0 G,.vl 0 (t+1) 0 (i+k+1),.slice (some ⟨x.s.nx,0*2,none⟩) (i+k+1) (bY+0),_,rfl,⟨rfl,E4 _⟩,aS,fun m' eF=>?_,iZ.h,iZ.fr F k9,Fo hh hg rfl (.inr rfl),iZ.mo.ke,zF _⟩;obtain⟨a1,a2,a3⟩:=eF x.s.nx (zN _);simp only[Nm.set,if_true]at a1 a2 a3;simp only[ren];rw[a1,a2];simp[bX,bR,a3]
end InsZ
end Go.Proofs
namespace Go.Proofs
open Go Go.Rx Go.Vx
set_option maxHeartbeats 1000000
def ur(n:Nat)(p1:Int)(p2:V aG)(p4:Int)(p5:Int):M (V aG):=
 aH (0<=p1/\p1<=(p2.length:Int)/\(p2.length+1)*16<=140737488355328) (some (p2.take p1.toNat++aG.mk p4 p5::p2.drop p1.toNat))
def AY(x:aG):V O:=[.int .i64 x.Feat,.int .i64 x.To]
def fe(l:V aG):∀v∈(l.map AY).flatten,v.oneCell'=true:=fun v hv=>by
 have⟨q,h1,h2⟩:=List.mem_flatten.1 hv;obtain⟨x,_,rfl⟩:=List.mem_map.1 h1;simp only[AY,zI,List.not_mem_nil,or_false]at h2;rcases h2 with rfl |rfl;rfl;rfl
def qze(m:Nm)(l:V aG):aE m ((l.map AY).flatten)=(l.map AY).flatten:=qxe (enc:=AY) (fun m x=>by simp[AY,aE,ren]) m l
def qip(n:Nat)(p1:Int)(p2:V aG)(p4:Int)(p5:Int)(r:V aG)(J:ur n p1 p2 p4 p5=some r):∀t3:Nat,b7 Tryz.prog 77 [.vl 0 t3 0 p2.length,.int .i64 p1,.sl 1 0 1 1] ⟨[(0,.vec (p2.map aL).flatten 98 2 t3),(1,.row [.int .i64 p4,.int .i64 p5] 98)],2⟩ (fun u X'=>∃t:Nat->Nat,u=.vl 0 (t 0) 0 r.length/\X'=⟨[(0,.vec (r.map aL).flatten 98 2 (t 0)),(1,.row [.int .i64 p4,.int .i64 p5] 98)],2⟩):=by
 intro t3;obtain⟨⟨h1,h2,h3⟩,hr⟩:=d7 J;have hr:=Option.some.inj hr;subst hr;obtain⟨i,rfl⟩:∃i:Nat,p1=(i:Int):=⟨p1.toNat,by omega⟩;rw[zZ];by_cases he:i=p2.length;subst he;have hE:d? n (p2.length:Int) p2 p4 p5=some (p2++[aG.mk p4 p5]):=by
  unfold d?;have e1:((p2.length:Int)==(p2.length:Int))=true:=by simp
  rw[z0o ⟨by omega,by omega⟩,e1,z0o ⟨by omega,by omega⟩];rfl
 have:=qki n _ p2 p4 p5 _ hE t3;rw[zW (zF _),List.drop_of_length_le (zF _)];exact this;have hi:i<p2.length:=by omega
 clear J;have e0:i+(p2.length-i)=p2.length:=by omega
 have xP:(i+(p2.length-i)+1)*16<=140737488355328:=by rw[e0];exact h3
 have hk:0<p2.length-i:=Nat.sub_pos_of_lt hi;have hp:eG (((p2.take i).map aL).flatten)=some (((p2.take i).map AY).flatten):=fi (encU:=aL) (enc:=AY) (fun _=>rfl) (p2.take i);have hq:eG (((p2.drop i).map aL).flatten)=some (((p2.drop i).map AY).flatten):=fi (encU:=aL) (enc:=AY) (fun _=>rfl) (p2.drop i);have okp:okL (((p2.take i).map aL).flatten)=true:=xl (encU:=aL) (fun _=>rfl) _;have okq:okL (((p2.drop i).map aL).flatten)=true:=xl (encU:=aL) (fun _=>rfl) _;have lp:(((p2.take i).map AY).flatten).length=i*2:=by rw[Gm (enc:=AY) (k:=2) (fun _=>rfl),List.length_take];omega
 have lq:(((p2.drop i).map AY).flatten).length=(p2.length-i)*2:=by rw[Gm (enc:=AY) (k:=2) (fun _=>rfl),List.length_drop]
 have rp:=fun m=>qze m (p2.take i);have rq:=fun m=>qze m (p2.drop i);have op:=fe (p2.take i);have oq:=fe (p2.drop i);have rn:∀m,aE m [Value.int .i64 p4,Value.int .i64 p5]=[Value.int .i64 p4,Value.int .i64 p5]:=fun m=>by simp[aE,ren]
 have on:∀v∈[Value.int .i64 p4,Value.int .i64 p5],v.oneCell'=true:=fe [aG.mk p4 p5];generalize hpv:((p2.take i).map AY).flatten=pv at*;generalize hqv:((p2.drop i).map AY).flatten=qv at*;have pf:eG [U.int .i64 p4,U.int .i64 p5]=some [Value.int .i64 p4,Value.int .i64 p5]:=rfl;have okn:okL [U.int .i64 p4,U.int .i64 p5]=true:=rfl;have ln:[Value.int .i64 p4,Value.int .i64 p5].length=2:=rfl;have key:=InsZ.ins_lt hp hq pf okp okq okn lp lq ln hk rp rq rn op oq on xP t3;have e1:i+(p2.length-i)=p2.length:=by omega
 have e2:((p2.take i).map aL).flatten++((p2.drop i).map aL).flatten=(p2.map aL).flatten:=by rw[<-List.flatten_append,<-List.map_append,List.take_append_drop]
 have e3:((p2.take i).map aL).flatten++[.int .i64 p4,.int .i64 p5]++((p2.drop i).map aL).flatten=((p2.take i++aG.mk p4 p5::p2.drop i).map aL).flatten:=by rw[List.map_append,List.flatten_append,zQ,List.flatten_cons,zT];rfl
 have e4:(p2.take i++aG.mk p4 p5::p2.drop i).length=p2.length+1:=by rw[zU,zO,List.length_take,List.length_drop];omega
 rw[e1,e2,e3]at key;rw[e4];exact key.mono fun u X' ⟨q1,q2⟩=>⟨fun _=>t3+1,q1,q2⟩
end Go.Proofs
