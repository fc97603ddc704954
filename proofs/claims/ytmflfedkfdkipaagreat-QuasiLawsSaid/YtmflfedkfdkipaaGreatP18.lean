import Derived.Test.YtmflfedkfdkipaaGreatP17
set_option linter.all false
namespace Go.Proofs
open Go Go.Rx Go.Vx Go.Shelf Go.Sort
set_option maxRecDepth 10000
def qm2{N:Nat}:∀{l:Z aT}{s s':Z Int},(∀x,x∈s↔x∈s')->BR N s l=BR N s' l
 |[],s,s',_=>rfl|a::l,s,s',h=>by simp only[BR];rw[qm2 (l:=l) (s:=a.Feat::s) (s':=a.Feat::s') fun x=>by simp only[zI,h x]];by_cases h1:a.Feat∈s;simp only[h1,(h _).1 h1,if_true];simp only[h1,mt (h _).2 h1,if_false]
def qx0{l:Z aT}(hl:l.length<=1000000){i:Nat}{x:aT}(hx:l[i]? = some x)(hi:i<l.length){rc:Int->I Int}:∀(m k:Nat),i-k<m->k<=i->
  Gq l i rc m k=if x.Feat∈((l.take i).drop k).map aT.Feat then some 4 else rc (IntKind.i64.wrap ((i:Int)+1))
 |0,k,hm,_=>by omega
 |m+1,k,hm,hk=>by
  unfold Gq;by_cases aH:k<i;obtain⟨y,hy,_⟩:=iL (l:=l) (i:=k) (by omega);have pB:(l.take i)[k]? = some y:=by rw[List.getElem?_take_of_lt aH];exact hy
  have hd:decide ((k:Int)<(i:Int))=true:=o0 aH;have hw:IntKind.i64.wrap ((k:Int)+1)=((k+1:Nat):Int):=UI (by omega) (by omega);simp only[hd,zC,dP,hy,hx,aM,aZ pB,zQ,zI,hw];by_cases e:y.Feat=x.Feat;simp[e];have e2:(y.Feat==x.Feat)=false:=by simpa using e
  have e3:¬ x.Feat=y.Feat:=fun h=>e h.symm;simp only[e2,zD,e3,false_or];exact qx0 hl hx hi m (k+1) (by omega) (by omega);have hd:decide ((k:Int)<(i:Int))=false:=oW aH;have:(l.take i).drop k=[]:=List.drop_eq_nil_of_le (by simp;omega);simp only[hd,zD,zz,this,List.map_nil,List.not_mem_nil,if_false]
def qwz{l:Z aT}{N n:Nat}(hl:l.length<=1000000)(hn:l.length<n):∀(m i:Nat),l.length-i<m->i<=l.length->ML l N n m i=some (BR N ((l.take i).map aT.Feat) (l.drop i))
 |0,i,hm,_=>by omega
 |m+1,i,hm,hi=>by
  unfold ML;by_cases aH:i<l.length;obtain⟨a,ha,_⟩:=iL aH;have h2:=qx0 hl ha aH (rc:=ML l N n m) n 0 (by omega) (by omega);rw[zV,List.drop_zero]at h2;simp only[o0 aH,zC,dP,ha,aM,aZ ha,BR];by_cases h1:a.Feat<0;simp[h1,aM];by_cases h3:a.To<0;simp[h1,h3,aM];by_cases h4:a.To>=(N:Int);simp[h1,h3,h4,aM];simp only[h1,h3,h4,yB,zD,aM,or_self,if_false,h2,rF aH (show l.length<=9223372036854775807 by omega)];rw[qwz hl hn m (i+1) (by omega) (by omega),kK ha];by_cases h5:a.Feat∈(l.take i).map aT.Feat;simp only[h5,if_true];simp only[h5,if_false];congr 1;exact qm2 fun x=>by simp[or_comm]
  simp only[oW aH,zD,wa,cD aH,BR]
def qxz{f:GFS}{k:Nat}(hf:dG f k)(hk:k<=1000000){n:Nat}(hn:k<n):∀(m i:Nat),f.Nodes.length-i<m->i<=f.Nodes.length->Gp f n m i=some (OT f.Nodes.length (f.Nodes.drop i))
 |0,i,hm,_=>by omega
 |m+1,i,hm,hi=>by
  have vT:=hf.nodes;unfold Gp;by_cases aH:i<f.Nodes.length;obtain⟨x,hx,gJ⟩:=iL aH;have oF:=hf.arcs x gJ;have h2:=qwz (l:=x.Arcs) (N:=f.Nodes.length) (n:=n) (by omega) (by omega) n 0 (by omega) (by omega);rw[zV,List.drop_zero,List.take_zero,List.map_nil]at h2;simp only[o0 aH,zC,dP,hx,aM,aZ hx,OT,D9,qu,h2,rF aH (show f.Nodes.length<=9223372036854775807 by omega)];by_cases h1:x.Typex<0;simp[h1];simp only[h1,yB,zD,if_false];by_cases h3:BR f.Nodes.length [] x.Arcs=0;simp only[h3,bne_self_eq_false,zD,ne_eq,not_true,if_false];exact qxz hf hk hn m (i+1) (by omega) (by omega);have hb:(BR f.Nodes.length [] x.Arcs != 0)=true:=by simpa using h3
  simp only[hb,zC,h3,ne_eq,not_false_eq_true,if_true];simp only[oW aH,zD,zy,cD aH,OT]
variable{f:GFS}
variable{k:Nat}
variable{n:Nat}
def z7b(hf:dG f k)(hk:k<=1000000)(hn:k<n):Nx n f=some (FJ f):=by
 have vT:=hf.nodes;unfold Nx FJ;by_cases h0:f.Nodes.length=0;simp[h0];have e0:((f.Nodes.length:Int)==0)=false:=by simp;intro h;simp[h]at h0
 simp only[e0,zD,h0,if_false];by_cases h1:f.Nodes.length>4096;have:(f.Nodes.length:Int)>4096:=by omega
 simp[h1,this];have:¬ (f.Nodes.length:Int)>4096:=by omega
 simp only[h1,this,yB,zD,if_false];have h:=qxz hf hk hn n 0 (by omega) (by omega);rw[zV,List.drop_zero]at h;exact h
def z5h{l:Z aT}{i:Nat}{x:aT}(hx:l[i]? = some x){out:Z aT}(CW:out.length<=1000000)(CP:kC out){rc:Int->Z aT->I (Z aT)}:∀(m p:Nat),p<m->p<=out.length->(∀a∈out.drop p,x.Feat<a.Feat)->
  ∃q,q<=out.length/\Ha l i out rc m p=Hb l i out rc (q:Int)/\(∀a∈out.drop q,x.Feat<a.Feat)/\(∀a∈out.take q,a.Feat<=x.Feat)
 |0,p,hm,_,_=>by omega
 |m+1,p,hm,hp,hd=>by
  unfold Ha;cases p with
  |zero=>
   have:¬ ((0:Nat):Int)>0:=by omega
   simp only[this,yB,zD,aM];exact⟨0,by omega,rfl,hd,by simp⟩
  |succ p=>
   have h0:((p+1:Nat):Int)>0:=by omega
   have hw:IntKind.i64.wrap (((p+1:Nat):Int)-1)=(p:Int):=UI (by omega) (by omega);obtain⟨y,hy,_⟩:=iL (l:=out) (i:=p) (by omega);simp only[h0,yC,zC,hw,dP,hy,hx,aM];by_cases e:y.Feat>x.Feat;simp only[e,yC,zC];refine z5h hx CW CP m p (by omega) (by omega) fun a ha=>?_;rw[aZ hy]at ha;rcases zI.1 ha with rfl |ha
   omega;exact hd a ha;simp only[e,yB,zD];refine⟨p+1,hp,rfl,hd,fun a ha=>?_⟩;obtain⟨j,hj,rfl⟩:=List.mem_iff_getElem.1 ha;simp only[List.length_take]at hj;rw[List.getElem_take];obtain⟨oP,ey⟩:=zG.1 hy;by_cases ej:j=p;subst ej;rw[ey];omega;have:=List.pairwise_iff_getElem.1 CP j p (by omega) oP (by omega);rw[ey]at this;omega
def YZ{l:Z aT}{i:Nat}{x:aT}(hx:l[i]? = some x){out:Z aT}(CW:out.length<=1000000){rc:Int->Z aT->I (Z aT)}{q:Nat}(hq:q<=out.length):
  Hb l i out rc (q:Int)=rc (IntKind.i64.wrap ((i:Int)+1)) (out.take q++x::out.drop q):=by
 have e1:(out.drop 0).take ((q:Int)).toNat=out.take q:=by rw[List.drop_zero,zZ]
 have e2:(out.drop (0+((q:Int)).toNat)).take (out.length-((q:Int)).toNat)=out.drop q:=by rw[zZ,Nat.zero_add,zW (by simp)]
 have l1:(out.take q).length=q:=by simp;omega
 have n1:(0:Int)<=(q:Int)/\(q:Int)<=((out.length:Nat):Int):=by omega
 have n2:0+((q:Int)).toNat<=out.length:=by rw[zZ];omega
 have n3:(out.take q).length*16<=140737488355328/\(out.take q).length<=140737488355328:=by omega
 have n4:((out.take q).length+1)*16<=140737488355328/\(out.take q).length+1<=140737488355328:=by omega
 have n5:(0+((q:Int)).toNat)+(out.length-((q:Int)).toNat)<=out.length:=by rw[zZ];omega
 have n6:((out.take q++[x]).length+(out.drop q).length)*16<=140737488355328/\(out.take q++[x]).length+(out.drop q).length<=140737488355328:=by simp;omega
 unfold Hb;simp only[aG,e1,e2,dP,hx,aM];rw[if_pos n1,if_pos n2,if_pos n3,if_pos n4,if_pos n1,if_pos n5,if_pos n6];simp
def z5g{l:Z aT}(hl:l.length<=1000000)(hd:jA l){n:Nat}(hn:l.length<n):∀(m i:Nat),l.length-i<m->i<=l.length->MY l n m i (uA (l.take i))=some (uA l)
 |0,i,hm,_=>by omega
 |m+1,i,hm,hi=>by
  have hdi:jA (l.take i):=hd.sublist (List.take_sublist i l);have CW:(uA (l.take i)).length=i:=by rw[(MF _).length_eq];simp;omega
  unfold MY;by_cases aH:i<l.length;obtain⟨x,hx,_⟩:=iL aH;obtain⟨q,q1,q2,q3,q4⟩:=z5h hx (out:=uA (l.take i)) (by omega) (Q2 hdi) (rc:=MY l n m) n (uA (l.take i)).length (by omega) (zF _) (by simp);simp only[o0 aH,zC,q2,YZ hx (show(uA (l.take i)).length<=1000000 by omega) q1,rF aH (show l.length<=9223372036854775807 by omega)];have Ap:jA (l.take (i+1)):=hd.sublist (List.take_sublist _ l);have AR:((uA (l.take i)).take q++x::(uA (l.take i)).drop q).Perm (l.take (i+1)):=by rw[kK hx];refine List.perm_middle.trans ?_;rw[List.take_append_drop];exact((MF (l.take i)).cons x).trans (List.perm_append_comm (l₁:=[x]) (l₂:=l.take i))
  have cT:∀a∈uA (l.take i),a.Feat≠x.Feat:=fun a ha e=>by rw[kK hx]at Ap;have:=(List.pairwise_append.1 Ap).2.2 a ((MF _).mem_iff.1 ha) x (by simp);exact this e
  have CP:kC ((uA (l.take i)).take q++x::(uA (l.take i)).drop q):=by have h0:=Q2 hdi;unfold kC at*;rw[List.pairwise_append];refine⟨h0.sublist (List.take_sublist _ _),List.pairwise_cons.2 ⟨q3,h0.sublist (List.drop_sublist _ _)⟩,fun a ha b hb=>?_⟩;have h1:=q4 a ha;have h2:=cT a (List.mem_of_mem_take ha);rcases zI.1 hb with rfl |hb;omega;have:=q3 b hb;omega
  rw[<-z0f Ap AR CP];exact z5g hl hd hn m (i+1) (by omega) (by omega);simp only[oW aH,zD,ji];rw[zW (by omega)]
def qio{l:Z aT}(hl:l.length<=1000000)(hd:jA l)(hn:l.length<n):Ow n l=some (uA l):=by have h:=z5g hl hd hn n 0 (by omega) (by omega);rw[zV,List.take_zero]at h;exact h
structure IZ(f:GFS)(w:Z Int)(o:Z Int):Prop where
 len:w.length=f.Nodes.length
 get:∀x,fG f x->aC w x=some (if x∈o then(o.idxOf x:Int)else -1)
def IZ.snoc{w o:Z Int}(h:IZ f w o){v:Int}(hv:fG f v)(hn:v ∉ o):IZ f (w.set (0+v.toNat) (o.length:Int)) (o++[v]):=by
 refine⟨by simp[h.len],fun x hx=>?_⟩;have rQ:v.toNat<w.length:=by rw[h.len];have:=hv.1;have:=hv.2;omega
 have hc:0<=x/\x<((w.set (0+v.toNat) (o.length:Int)).length:Int):=by rw[List.length_set,h.len];exact hx
 have h2:=h.get x hx;have O5:0<=x/\x<(w.length:Int):=by rw[h.len];exact hx
 rw[aC,if_pos O5]at h2;rw[aC,if_pos hc,Nat.zero_add];by_cases e:x=v;subst e;simp[List.idxOf_append,hn,rQ];rw[List.getElem?_set_ne (by have:=hx.1;have:=hv.1;omega),h2];by_cases hxo:x∈o;simp[hxo,List.idxOf_append];simp[hxo,e]
def qqu{f:GFS}{k:Nat}(hg:jL f)(hf:dG f k)(hk:k<=1000000):∀(n:Nat)(o:Z Int)(v:Int)(w:Z Int),Seen f o->fG f v->v ∉ o->IZ f w o->f.Nodes.length-o.length+k+2<=n->
  ∃w',N5 n v f.Nodes w o=some (w',dfs f n o v)/\IZ f w' (dfs f n o v)
 |0,o,v,w,hs,hv,hn,hw,yw=>by omega
 |n+1,o,v,w,hs,hv,hn,hw,yw=>by
  have CS:=hs.snoc hv hn;have AV:=CS.len;simp only[zU,zO,zS]at AV;obtain⟨hx,gJ⟩:=tK hv;have fF:=hg _ gJ;have oF:=hf.arcs _ gJ;have vT:=hf.nodes;have GZ:(sar f v).length=(nd f v).Arcs.length:=(MF _).length_eq;have key:∀(m i:Nat)(p:Z Int)(w:Z Int),(sar f v).length-i<m->i<=(sar f v).length->Seen f p->o.length+1<=p.length->IZ f w p->
    ∃w',QY f.Nodes (sar f v) (N5 n) m i w p=some (w',((sar f v).drop i).foldl (jN (dfs f n)) p)/\IZ f w' (((sar f v).drop i).foldl (jN (dfs f n)) p):=by
   intro m;induction m with
   |zero=>intro i p w hm;omega|succ m ih=>
    intro i p w hm hi hp kZ hw;unfold QY;by_cases aH:i<(sar f v).length;obtain⟨a,ha,KV⟩:=iL aH;have h1:=fF.arc a (sM.1 KV);have r?:fG f a.To:=⟨h1.2.1,h1.2.2⟩;have fJ:IntKind.i64.wrap ((i:Int)+1)=((i+1:Nat):Int):=rF aH (by omega);simp only[o0 aH,zC,dP,ha,aM,hw.get _ r?,aZ ha,List.foldl_cons];by_cases tP:a.To∈p;have ZS:¬ ((p.idxOf a.To:Nat):Int)<0:=by omega
    simp only[tP,if_true,ZS,yB,zD,Hi,fJ,jN];exact ih (i+1) p w (by omega) (by omega) hp kZ hw;have ZS:(-1:Int)<0:=by decide
    simp only[tP,if_false,ZS,yC,zC,Hi,fJ,jN];obtain⟨w1,g1,g2⟩:=qqu hg hf hk n p a.To w hp r? tP hw (by omega);obtain⟨d1,⟨t,d2⟩,_,_⟩:=Lr hg n p a.To hp r? tP (by omega);simp only[g1,aM];exact ih (i+1) _ w1 (by omega) (by omega) d1 (by rw[d2];simp;omega) g2;rw[cD aH];simp only[oW aH,zD,kw,List.foldl_nil];exact⟨w,rfl,hw⟩
  have vV:(o.length+1)*8<=140737488355328/\o.length+1<=140737488355328:=by omega
  obtain⟨w',g1,g2⟩:=key n 0 (o++[v]) _ (by omega) (by omega) CS (by simp) (hw.snoc hv hn);rw[zV,List.drop_zero]at g1;rw[List.drop_zero]at g2;refine⟨w',?_,g2⟩;show kj n (N5 n) v f.Nodes w o=_;simp only[kj,hw.get _ hv,aG,vV,and_self,if_true,hx,aM,qio (show(nd f v).Arcs.length<=1000000 by omega) fF.dis (show(nd f v).Arcs.length<n by omega)];exact g1
def qy4{f:GFS}{o w:Z Int}{z:Int}{l27:Z aU}{rc:Int->Z aU->I GFS}{x:aU}{l:Z aT}(hl:l.length<=1000000)(hw:IZ f w o)(gG:∀a∈l,a.To∈o)(Tq:∀v∈o,fG f v):∀(m i:Nat),l.length-i<m->i<=l.length->
  X8 (w,o) z l27 rc x m i ((l.take i).map (oX o)++l.drop i)=Pc z l27 rc x (l.map (oX o))
 |0,i,hm,_=>by omega
 |m+1,i,hm,hi=>by
  unfold X8;have aN:((l.take i).map (oX o)++l.drop i).length=l.length:=by simp;omega
  rw[aN];by_cases aH:i<l.length;obtain⟨a,ha,KV⟩:=iL aH;have e1:(((l.take i).map (oX o)++l.drop i))[i]? = some a:=by rw[List.getElem?_append_right (by simp;omega)];simp[show min i l.length=i by omega,ha]
  have e2:(((l.take i).map (oX o)++l.drop i)).set (0+(i:Int).toNat) (oX o a)=(l.take (i+1)).map (oX o)++l.drop (i+1):=by
   rw[aZ ha,kK ha];have h3:((l.take i).map (oX o)).length=i:=by simp;omega
   have:=VV ((l.take i).map (oX o)) (l.drop (i+1)) a (oX o a);rw[h3]at this;rw[Nat.zero_add,zZ,this,List.map_append,zQ,List.map_nil,zT];rfl
  have kY:=gG a KV;have e3:(⟨a.Feat,(o.idxOf a.To:Int)⟩:aT)=oX o a:=rfl;simp only[o0 aH,zC,dP,e1,aM,hw.get _ (Tq _ kY),kY,if_true,e3,e2,rF aH (show l.length<=9223372036854775807 by omega)];exact qy4 hl hw gG Tq m (i+1) (by omega) (by omega);simp only[oW aH,zD];rw[zW (by omega),List.drop_eq_nil_of_le (by omega),List.append_nil]
def qy3{f:GFS}{k:Nat}(hg:jL f)(hf:dG f k)(hk:k<=1000000){n:Nat}(hn:k+2<=n){r:Int}{o w:Z Int}(ho:TZ f r o)(hw:IZ f w o):∀(m i:Nat),o.length-i<m->i<=o.length->
  MM f n (w,o) m i ((o.take i).map (kI f o))=some ⟨o.map (kI f o)⟩
 |0,i,hm,_=>by omega
 |m+1,i,hm,hi=>by
  have CW:=ho.seen.len;have vT:=hf.nodes;unfold MM;by_cases aH:i<o.length;obtain⟨v,hv,yS⟩:=iL aH;obtain⟨hx,gJ⟩:=tK (ho.seen.ing v yS);have fF:=hg _ gJ;have oF:=hf.arcs _ gJ;have GZ:(sar f v).length=(nd f v).Arcs.length:=(MF _).length_eq;have h2:=qy4 (z:=(i:Int)) (l27:=(o.take i).map (kI f o)) (rc:=MM f n (w,o) m) (x:=nd f v) (l:=sar f v) (by omega) hw (fun a ha=>ho.clo v yS a (sM.1 ha)) ho.seen.ing n 0 (by omega) (by omega);rw[zV,List.take_zero,List.map_nil,List.nil_append,List.drop_zero]at h2;have vV:(((o.take i).map (kI f o)).length+1)*32<=140737488355328/\((o.take i).map (kI f o)).length+1<=140737488355328:=by simp;omega
  have hso:=qio (show(nd f v).Arcs.length<=1000000 by omega) fF.dis (show(nd f v).Arcs.length<n by omega);simp only[o0 aH,zC,dP,hv,hx,aM,hso];show X8 (w,o) i _ _ (nd f v) n 0 (sar f v)=_;rw[h2];simp only[Pc,aG];rw[if_pos vV,rF aH (show o.length<=9223372036854775807 by omega)];have:=qy3 hg hf hk hn ho hw m (i+1) (by omega) (by omega);rw[kK hv]at this;simpa[kI,sar]using this;simp only[oW aH,zD,wb];rw[zW (by omega)]
def qy2{f:GFS}(hN:f.Nodes.length<=1000000){r:Int}{n:Nat}:∀(m i:Nat),f.Nodes.length-i<m->i<=f.Nodes.length->Gr f r n m i (List.replicate i (-1))=Pd f r n (List.replicate f.Nodes.length (-1))
 |0,i,hm,_=>by omega
 |m+1,i,hm,hi=>by
  unfold Gr;by_cases aH:i<f.Nodes.length;have vV:((List.replicate i (-1:Int)).length+1)*8<=140737488355328/\(List.replicate i (-1:Int)).length+1<=140737488355328:=by simp;omega
  have e:List.replicate i (-1:Int)++[-1]=List.replicate (i+1) (-1):=by rw[List.replicate_succ']
  simp only[o0 aH,zC,aG];rw[if_pos vV,rF aH (show f.Nodes.length<=9223372036854775807 by omega),e];exact qy2 hN m (i+1) (by omega) (by omega);simp only[oW aH,zD];rw[show i=f.Nodes.length by omega]
def z7c(hg:jL f)(hf:dG f k)(hk:k<=1000000){r:Int}(hr:fG f r)(hn:2*k+4<=n):Ny n f r=some (cK f r):=by
 obtain⟨ho,c9⟩:=JP hg hr;have vT:=hf.nodes;have h0:IZ f (List.replicate f.Nodes.length (-1)) []:=⟨by simp,fun x hx=>by
  have hc:0<=x/\x<((List.replicate f.Nodes.length (-1:Int)).length:Int):=by rw[List.length_replicate];exact hx
  rw[aC,if_pos hc];have:x.toNat<f.Nodes.length:=by have:=hx.1;have:=hx.2;omega
  simp[this]⟩
 obtain⟨w,g1,g2⟩:=qqu hg hf hk n [] r _ (Seen.nil f) hr (by simp) h0 (by simp;omega);rw[c9 n (by omega)]at g1 g2;have CW:=ho.seen.len;have h1:=qy3 hg hf hk (show k+2<=n by omega) ho g2 n 0 (by omega) (by omega);rw[zV,List.take_zero,List.map_nil]at h1;have h2:=qy2 (f:=f) (by omega) (r:=r) (n:=n) n 0 (by omega) (by omega);rw[zV,List.replicate_zero]at h2;simp only[Ny,h2,Pd,g1,aM,h1,cK]
def qst(hf:dG f k)(hk:k<=1000000)(hn:2*k+4<=n):Oh n f=some (if FJ f=0 then(cK f 0,0)else(⟨[]⟩,FJ f)):=by
 simp only[Oh,z7b hf hk (show k<n by omega),aM];by_cases he:FJ f=0;obtain⟨e1,e2,e3⟩:=qpc.1 he;simp[he,z7c e3 hf hk (r:=0) ⟨by omega,by omega⟩ hn,aM];have hb:(FJ f != 0)=true:=by simpa using he
 simp[he,hb]
end Go.Proofs
namespace Go.Proofs
structure Gcell where
 forward:Int
 kind:Int
 arcs:Z aT
end Go.Proofs
namespace Go.Proofs
open Go Go.Rx Go.Vx
def OS(l:Z aT)(f:Int):BQ:=l.any (fun x=>x.Feat==f)
def Na{l:Z aT}{f:Int}:OS l f=true↔∃x∈l,x.Feat=f:=by simp[OS]
def y5(a b:Z aT):Z aT:=b.filter fun y=>!OS a y.Feat
def CC(a b:Z aT):Z (Int×Int):=b.filterMap fun y=>(a.find? fun x=>x.Feat==y.Feat).map fun x=>(x.To,y.To)
def z78{a:Z aT}(hd:jA a){x:aT}(hx:x∈a){f:Int}(hf:x.Feat=f):a.find? (fun x=>x.Feat==f)=some x:=by
 have key:∀o,a.find? (fun x=>x.Feat==f)=o->o=some x:=by intro o h;rcases o with _|y;have:=List.find?_eq_none.1 h x hx;simp[hf]at this;have h1:=List.find?_some h;have h2:=List.mem_of_find?_eq_some h;simp at h1;rw[hd.eq y h2 x hx (by omega)]
 exact key _ rfl
def tj(a:Z aT):∀b:Z aT,(y5 a b).length+(CC a b).length=b.length
 |[]=>rfl|y::b=>by
  have ih:=tj a b;unfold y5 CC at*;cases h:a.find? (fun x=>x.Feat==y.Feat)with
  |none=>
   have h2:OS a y.Feat=false:=by rw[List.find?_eq_none]at h;rw[Bool.eq_false_iff];intro e;obtain⟨x,hx,he⟩:=Na.1 e;have:=h x hx;simp[he]at this
   simp only[List.filter_cons,h2,Bool.not_false,if_true,List.filterMap_cons,h,Option.map_none,zO];omega
  |some x=>have h2:OS a y.Feat=true:=Na.2 ⟨x,List.mem_of_find?_eq_some h,by have:=List.find?_some h;simpa using this⟩;simp only[List.filter_cons,h2,Bool.not_true,Bool.false_eq_true,if_false,List.filterMap_cons,h,zM,zO];omega
def z83{a b:Z aT}{p:Int×Int}(h:p∈CC a b):∃x∈a,∃y∈b,x.Feat=y.Feat/\p=(x.To,y.To):=by obtain⟨y,hy,e⟩:=List.mem_filterMap.1 h;rcases h1:a.find? (fun x=>x.Feat==y.Feat)with _|x;rw[h1]at e;cases e;rw[h1]at e;have h2:=List.find?_some h1;exact⟨x,List.mem_of_find?_eq_some h1,y,hy,by simpa using h2,(Option.some.inj e).symm⟩
def qup(a b:Z aT)(y:aT):CC a (y::b)=((a.find? fun x=>x.Feat==y.Feat).map fun x=>(x.To,y.To)).toList++CC a b:=by unfold CC;cases h:a.find? (fun x=>x.Feat==y.Feat)<;>simp[List.filterMap_cons,h]
structure Ld(N D:Nat)(aD d:Nat->Nat):Prop where
 lt:∀i,i<N->aD i<N
 idem:∀i,i<N->aD (aD i)=aD i
 zero:∀i,i<N->d (aD i)=0
 bd:∀i,i<N->d i<=D
def j0(aD:Nat->Nat)(m n i:Nat):Nat:=if aD i=n then m else aD i
def OU(aD d:Nat->Nat)(n i:Nat):Nat:=if aD i=n then d i+1 else d i
def Lx(N:Nat)(aD d:Nat->Nat)(i j:Nat):Prop:=j<N/\aD j=aD i/\d j<d i
variable{N:Nat}
variable{D:Nat}
variable{aD:Nat->Nat}
variable{d:Nat->Nat}
variable{m:Nat}
variable{n:Nat}
def Ld.mrg(h:Ld N D aD d)(hm:m<N)(em:aD m=m)(en:aD n=n)(EF:m≠n):Ld N (D+1) (j0 aD m n) (OU aD d n) where
 lt i hi:=by unfold j0;split;exact hm;exact h.lt i hi
 idem i hi:=by have h1:=h.idem i hi;unfold j0;by_cases e:aD i=n;simp[e,em,EF];simp[e,h1]
 zero i hi:=by have h1:=h.idem i hi;have h2:=h.zero i hi;have h3:=h.zero m hm;unfold j0 OU;rw[em]at h3;by_cases e:aD i=n;simp[e,em,EF,h3];simp[e,h1,h2]
 bd i hi:=by have:=h.bd i hi;unfold OU;split<;>omega
variable{i:Nat}
def Lx.mrg{D:Nat}{j:Nat}(h:Lx N aD d i j):Lx N (j0 aD m n) (OU aD d n) i j:=by obtain⟨h1,h2,h3⟩:=h;refine⟨h1,by simp[j0,h2],?_⟩;unfold OU;rw[h2];split<;>omega
def z35(h:Ld N D aD d)(hm:m<N)(hn:n<N)(em:aD m=m)(en:aD n=n)(EF:m≠n):Lx N (j0 aD m n) (OU aD d n) n m:=by have h3:=h.zero m hm;have h4:=h.zero n hn;rw[em]at h3;rw[en]at h4;refine⟨hm,by simp[j0,em,en,EF],?_⟩;simp[OU,em,en,EF,h3,h4]
def z08{v11:Type}{l:Z v11}{k:Nat}{x y:v11}(h:(l.set k x)[i]? = some y):(i=k/\y=x)\/(i≠k/\l[i]? = some y):=by rw[List.getElem?_set]at h;by_cases e:k=i;rw[if_pos e]at h;split at h;exact Or.inl ⟨e.symm,(Option.some.inj h).symm⟩;cases h;rw[if_neg e]at h;exact Or.inr ⟨fun q=>e q.symm,h⟩
def qh(em:aD m=m)(EF:m≠n)(h:j0 aD m n i=i):i≠n/\aD i=i:=by unfold j0 at h;by_cases e:aD i=n;rw[if_pos e]at h;subst h;exact⟨EF,em⟩;rw[if_neg e]at h;exact⟨fun q=>e (by rw[h,q]),h⟩
def z42(em:aD m=m)(h:j0 aD m n i≠i)(hn:i≠n):aD i≠i:=by intro q;apply h;unfold j0;rw[q,if_neg hn]
def tot(l:Z Gcell):Nat:=(l.map fun c=>c.arcs.length).sum
def Yv:∀{l:Z Gcell}{i:Nat}{x:Gcell}(c:Gcell),l[i]? = some x->tot (l.set i c)+x.arcs.length=tot l+c.arcs.length
 |[],i,x,c,h=>by simp at h
 |y::l,0,x,c,h=>by
  have:y=x:=by simpa using h
  subst this;simp only[List.set_cons_zero,tot,zQ,List.sum_cons];omega
 |y::l,i+1,x,c,h=>by have:=Yv (l:=l) (i:=i) c (by simpa using h);simp only[List.set_cons_succ,tot,zQ,List.sum_cons]at this ⊢;omega
def z8n:∀{l:Z Gcell}{i:Nat}{x:Gcell},l[i]? = some x->x.arcs.length<=tot l:=fun{l i x} h=>by
 have:=Yv (Gcell.mk 0 0 []) h;simp only[zS]at this;omega
structure Yt(N:Nat)(FB:Int)(l:Z aT):Prop where
 up:kC l
 ok:∀a∈l,0<=a.Feat/\a.Feat<FB/\0<=a.To/\a.To<N
def Yt.nil(N:Nat)(FB:Int):Yt N FB []:=⟨List.Pairwise.nil,fun a h=>by cases h⟩
def U8(cells:Z Gcell)(m n:Nat)(t:Int)(o:Z aT):Z Gcell:=(cells.set m ⟨-1,t,o⟩).set n ⟨(m:Int),0,[]⟩
def rI(aD:Nat->Nat)(v:Int):Int:=(aD v.toNat:Int)
end Go.Proofs
namespace Go.Proofs
open Go Go.Rx Go.Vx Go.Shelf Go.Sort
set_option maxRecDepth 10000
abbrev Str:=Z O8
def i7{v11 S R:Type}{l:Z v11}(hl:l.length<=9223372036854775807){F:Nat->Int->S->I R}(v07:Nat->S->Prop){Q:R->Prop}
  (h:∀(m i:Nat)(x:v11)(s:S),l[i]? = some x->i<l.length->decide ((i:Int)<(l.length:Int))=true->IntKind.i64.wrap ((i:Int)+1)=((i+1:Nat):Int)->v07 i s->(∀s',v07 (i+1) s'->∃r,F m ((i+1:Nat):Int) s'=some r/\Q r)->∃r,F (m+1) (i:Int) s=some r/\Q r) (hK:∀(m:Nat)(s:S),decide ((l.length:Int)<(l.length:Int))=false->v07 l.length s->∃r,F (m+1) (l.length:Int) s=some r/\Q r):
  ∀(m i:Nat)(s:S),l.length-i<m->i<=l.length->v07 i s->∃r,F m (i:Int) s=some r/\Q r
 |0,i,s,hm,_,_=>by omega
 |m+1,i,s,hm,hi,hs=>by
  by_cases aH:i<l.length;obtain⟨x,hx,_⟩:=iL aH;exact h m i x s hx aH (o0 aH) (rF aH hl) hs fun s' KR=>i7 hl v07 h hK m (i+1) s' (by omega) (by omega) KR;have:i=l.length:=by omega
  subst this;exact hK m s (oW (by omega)) hs
def kA{v09:Type}{p:Prop}[Decidable p]{k:I v09}(h:p):aG p k=k:=if_pos h
def beqF{a b:Str}(h:a≠b):jZ a b=false:=by rcases e:jZ a b with _|_;rfl;exact absurd ((nn _ _).1 e) h
def IG(a b:Str):jZ a b=decide (a=b):=by by_cases h:a=b;rw[(nn _ _).2 h];simp[h];rw[beqF h];simp[h]
variable{v11:Type}
variable{l:Z v11}
def z4x{a b:Nat}(h1:a<=b)(h2:b<=l.length):v8 l (a:Int) (b:Int)=some ((l.drop a).take (b-a)):=by
 unfold v8;have:0<=(a:Int)/\(a:Int)<=(b:Int)/\(b:Int)<=(l.length:Int):=by omega
 simp[this,List.drop_take]
def Xq{b:Nat}(h2:b<=l.length):v8 l 0 (b:Int)=some (l.take b):=by
 have:=z4x (l:=l) (Nat.zero_le b) h2
 rwa [zV,List.drop_zero,Nat.sub_zero]at this
def Wg{a:Nat}(h2:a<=l.length):v8 l (a:Int) (l.length:Int)=some (l.drop a):=by
 have:=z4x (l:=l) h2 (zF _)
 rwa [zW (by simp)]at this
def z81(n:Nat)(z:Int)(b:BQ):∃r,Oc n z b=some r:=by simp only[Oc,X6,zk,Ot];cases decide (z>=48)<;>cases decide (z<=57)<;>cases (z==45)<;>cases b<;>cases decide (z>=65)<;>cases decide (z<=90)<;>cases decide (z>=97)<;>cases decide (z<=122)<;>exact⟨_,rfl⟩
variable{s:Str}
def qv5{i:Nat}{x:O8}(h:s[i]? = some x):W4 s (i:Int)=some (x.toNat:Int):=by
 have:=(zG.1 h).1;have h2:0<=(i:Int)/\(i:Int)<(s.length:Int):=by omega
 simp[W4,h2,h]
variable{n:Nat}
def qu9(s:Str)(b:BQ)(hn:40<=n):∃r,Gd n s b=some r/\(r=true->0<s.length/\s.length<=32):=by
 unfold Gd;by_cases h1:(s.length:Int)<1;simp only[h1,yC,zC,aM];exact⟨false,rfl,fun h=>by cases h⟩;by_cases h2:(s.length:Int)>32;simp only[h1,h2,yC,yB,zC,zD,aM];exact⟨false,rfl,fun h=>by cases h⟩;obtain⟨x,hx,_⟩:=iL (show 0<s.length by omega);have h3:=qv5 hx;rw[zV]at h3;have hd:∃r,X6 n (x.toNat:Int)=some r:=by unfold X6;cases decide ((x.toNat:Int)>=48)<;>exact⟨_,rfl⟩
 obtain⟨c,hc⟩:=hd;have key:=i7 (l:=s) (by omega) (F:=fun m z (_:Unit)=>XL s b n m z) (fun _ _=>True) (Q:=fun r=>True)
  (fun m i x _ hx aH hd hw _ ih=>by obtain⟨r,hr⟩:=z81 n (x.toNat:Int) b;obtain⟨q,hq,_⟩:=ih () trivial;simp only[XL,hd,zC,qv5 hx,aM,hr,hw];rcases r with _|_;exact⟨_,rfl,trivial⟩;exact⟨q,hq,trivial⟩)
  (fun m _ hd _=>by simp only[XL,hd,zD,jg];exact⟨_,rfl,trivial⟩) n 0 () (by omega) (by omega) trivial
 obtain⟨q,hq,_⟩:=key;rw[zV]at hq;simp only[h1,h2,yB,zD,h3,aM,hc];cases c with
 |true=>simp only[zC,aM];exact⟨false,rfl,fun h=>by cases h⟩|false=>simp only[zD,aM];rcases((x.toNat:Int)==45)with _|_;exact⟨q,hq,fun _=>by omega⟩;exact⟨false,rfl,fun h=>by cases h⟩
def z56{d:Z bC}(hd:d.length<=1000000){s:Str}:∀(m i:Nat),d.length-i<m->i<=d.length->
  (∃j x,i<=j/\d[j]? = some x/\x.Name=s/\(∀k y,i<=k->k<j->d[k]? = some y->y.Name≠s)/\XA d s m i=some (j:Int))\/((∀x∈d.drop i,x.Name≠s)/\XA d s m i=some (-1))
 |0,i,hm,_=>by omega
 |m+1,i,hm,hi=>by unfold XA;by_cases aH:i<d.length;obtain⟨x,hx,_⟩:=iL aH;simp only[o0 aH,zC,dP,hx,aM,rF aH (show d.length<=9223372036854775807 by omega),IG];by_cases hb:x.Name=s;simp only[hb,yC,zC];exact .inl ⟨i,x,zF _,hx,hb,fun k y h1 h2=>by omega,rfl⟩;simp only[hb,yB,zD];rcases z56 hd (s:=s) m (i+1) (by omega) (by omega)with⟨j,y,h1,h2,h3,h4,h5⟩|⟨h1,h2⟩;refine .inl ⟨j,y,by omega,h2,h3,fun k z Ib nL hz=>?_,h5⟩;by_cases e:k=i;subst e;rw[hx]at hz;cases hz;exact hb;exact h4 k z (by omega) nL hz;refine .inr ⟨fun y hy=>?_,h2⟩;rw[aZ hx]at hy;rcases zI.1 hy with rfl |hy;exact hb;exact h1 y hy;simp only[oW aH,zD,wq,cD aH];exact .inr ⟨fun x hx=>(List.not_mem_nil hx).elim,by simp⟩
variable{d:Z bC}
def Zu(hd:d.length<=1000000)(s:Str)(hn:d.length<n):
  (∃(j:Nat)(x:bC),d[j]? = some x/\x.Name=s/\(∀k y,k<j->d[k]? = some y->y.Name≠s)/\G3 n d s=some (j:Int))\/((∀x∈d,x.Name≠s)/\G3 n d s=some (-1)):=by rcases z56 hd (s:=s) n 0 (by omega) (by omega)with⟨j,y,_,h2,h3,h4,h5⟩|⟨h1,h2⟩;exact .inl ⟨j,y,h2,h3,fun k z hk hz=>h4 k z (by omega) hk hz,h5⟩;exact .inr ⟨by rw[List.drop_zero]at h1;exact h1,h2⟩
def qww{l:Z Str}(hl:l.length<=1000000){s:Str}:∀(m i:Nat),l.length-i<m->i<=l.length->Gy l s m i=some (decide (s∈l.drop i))
 |0,i,hm,_=>by omega
 |m+1,i,hm,hi=>by unfold Gy;by_cases aH:i<l.length;obtain⟨x,hx,_⟩:=iL aH;simp only[o0 aH,zC,dP,hx,aM,aZ hx,zI,rF aH (show l.length<=9223372036854775807 by omega),IG];by_cases e:x=s;simp[e];have e':¬ s=x:=fun h=>e h.symm;simp only[e,e',yB,zD,false_or];exact qww hl m (i+1) (by omega) (by omega);simp only[oW aH,zD,jb,cD aH,List.not_mem_nil,yB]
variable{l:Z Str}
def MD(hl:l.length<=1000000)(s:Str)(hn:l.length<n):EB n l s=some (decide (s∈l)):=by have:=qww hl (s:=s) n 0 (by omega) (by omega);rw[zV,List.drop_zero]at this;exact this
def eJ(l:Z Str):Prop:=l.Pairwise fun a b=>jH a b=true
def eJ.nodup(h:eJ l):l.Nodup:=h.imp fun{a b} h e=>by subst e;rw[qez]at h;cases h
def z60(hl:l.length<=1000000)(ha:eJ l){j:Nat}(hj:j<=l.length)(hb:∀x∈l.take j,jH x s=true)(hx:∀x,l[j]? = some x->jH x s=false):∃out,Oz l s j=some out/\(∀x,x∈out↔x=s\/x∈l)/\out.length<=l.length+1/\eJ out:=by
 unfold Oz;have tl:(l.take j).length=j:=by simp;omega
 have dl:(l.drop j).length=l.length-j:=by simp
 have ins:(∀x∈l.drop j,jH s x=true)->∃out,(a8 (v8 l 0 (j:Int)) fun hJ=>
  aG (hJ.length*16<=140737488355328/\hJ.length<=140737488355328) (
  aG ((hJ.length+1)*16<=140737488355328/\hJ.length+1<=140737488355328) (
  a8 (v8 l (j:Int) (l.length:Int)) fun kW=>
  aG (((hJ++[s]).length+kW.length)*16<=140737488355328/\(hJ++[s]).length+kW.length<=140737488355328) (
  some ((hJ++[s])++kW)))))=some out/\(∀x,x∈out↔x=s\/x∈l)/\out.length<=l.length+1/\eJ out:=by
  intro hd;refine⟨(l.take j++[s])++l.drop j,?_,fun x=>?_,by simp;omega,?_⟩;rw[Xq hj,aM,kA (by rw[tl];omega),kA (by rw[tl];omega),Wg hj,aM,kA (by rw[zU,tl,dl];simp;omega)];have:=List.take_append_drop j l;constructor;intro h;simp only[yD,List.mem_singleton]at h;rcases h with(h |h)|h;exact .inr (List.mem_of_mem_take h);exact .inl h;exact .inr (List.mem_of_mem_drop h);rintro(h |h);simp[h];rw[<-this]at h;simp only[yD]at h ⊢;rcases h with h |h;exact .inl (.inl h);exact .inr h;unfold eJ at*;rw[<-List.take_append_drop j l,List.pairwise_append]at ha;rw[List.pairwise_append,List.pairwise_append];refine⟨⟨ha.1,by simp,fun a h1 b h2=>by simp at h2;subst h2;exact hb a h1⟩,ha.2.1,fun a h1 b h2=>?_⟩;rcases yD.1 h1 with h1 |h1;exact ha.2.2 a h1 b h2;simp at h1;subst h1;exact hd b h2
 by_cases aH:j<l.length;obtain⟨x,vz,gJ⟩:=iL aH;have h1:=hx x vz;simp only[o0 aH,zC,dP,vz,aM,IG];by_cases e:x=s;subst e;simp only[yC,zC];exact⟨l,rfl,fun y=>⟨fun h=>.inr h,fun h=>h.elim (fun h=>h ▸ gJ) id⟩,by omega,ha⟩;simp only[e,yB,zD];have h2:jH s x=true:=by rcases h3:jH s x with _|_;exact absurd (qft x s h1 h3) e;rfl
 refine ins fun y hy=>?_;rw[aZ vz]at hy;rcases zI.1 hy with rfl |hy
 exact h2;have:l=l.take (j+1)++l.drop (j+1):=(List.take_append_drop _ _).symm;unfold eJ at ha;rw[this,List.pairwise_append]at ha;exact qfu _ _ _ h2 (ha.2.2 x (by rw[kK vz];simp) y hy);simp only[oW aH,zD,aM];exact ins fun y hy=>by rw[cD aH]at hy;cases hy
def QZ{l:Z Str}(hl:l.length<=1000000)(ha:eJ l){s:Str}:∀(m i:Nat),l.length-i<m->i<=l.length->(∀x∈l.take i,jH x s=true)->∃out,Gl l s m i=some out/\(∀x,x∈out↔x=s\/x∈l)/\out.length<=l.length+1/\eJ out
 |0,i,hm,_,_=>by omega
 |m+1,i,hm,hi,hb=>by
  unfold Gl;by_cases aH:i<l.length;obtain⟨x,hx,_⟩:=iL aH;simp only[o0 aH,zC,dP,hx,aM,rF aH (show l.length<=9223372036854775807 by omega)];cases HK:jH x s with
  |true=>
   simp only[zC];refine QZ hl ha m (i+1) (by omega) (by omega) fun y hy=>?_;rw[kK hx]at hy;rcases yD.1 hy with hy |hy
   exact hb y hy;simp at hy;subst hy;exact HK
  |false=>simp only[zD];exact z60 hl ha hi hb fun y hy=>by rw[hx]at hy;cases hy;exact HK
  simp only[oW aH,zD,aM];exact z60 hl ha hi hb fun y hy=>by have:=(zG.1 hy).1;omega
def Eu(hl:l.length<=1000000)(ha:eJ l)(s:Str)(hn:l.length<n):∃out,MG n l s=some out/\(∀x,x∈out↔x=s\/x∈l)/\out.length<=l.length+1/\eJ out:=by have:=QZ hl ha (s:=s) n 0 (by omega) (by omega) (by simp);rw[zV]at this;exact this
structure vA(l0 l:Z Str)(out:Z Str):Prop where
 mem:∀x,x∈out↔x∈l0\/x∈l
 len:out.length<=l0.length+l.length
 asc:eJ out
def vA.next{l0 out N8:Z Str}(h:vA l0 l out)(h1:∀x,x∈N8↔x=s\/x∈out)(h2:N8.length<=out.length+1)(h3:eJ N8):vA l0 (l++[s]) N8:=by refine⟨fun x=>?_,by have:=h.len;simp;omega,h3⟩;rw[h1,h.mem];simp only[yD,List.mem_singleton];constructor;rintro(h |h |h);exact .inr (.inr h);exact .inl h;exact .inr (.inl h);rintro(h |h |h);exact .inr (.inl h);exact .inr (.inr h);exact .inl h
def vA.nil(h:eJ l):vA l [] l:=⟨fun x=>by simp,by simp,h⟩
def names_ok(hd:d.length<=1000)(hn:5000<=n):∃out,Ol n d=some out/\vA [] (d.map bC.Name) out:=by
 have:=i7 (l:=d) (by omega) (F:=fun m z s=>XK d n m s z) (fun i s=>vA [] ((d.take i).map bC.Name) s) (Q:=fun out=>vA [] (d.map bC.Name) out)
  (fun m i x s hx aH bB hw hI ih=>by have hl:=hI.len;simp at hl;obtain⟨o,h1,h2,h3,h4⟩:=Eu (l:=s) (by omega) hI.asc x.Name (show s.length<n by omega);simp only[XK,bB,zC,dP,hx,aM,h1,hw];exact ih o (by rw[kK hx,List.map_append];exact hI.next h2 h3 h4))
  (fun m s bB hI=>by simp only[XK,bB,zD,xw];rw[zW (zF _)]at hI;exact⟨s,rfl,hI⟩) n 0 [] (by omega) (by omega) (vA.nil List.Pairwise.nil)
 rw[zV]at this;exact this
def z48(hd:d.length<=12)(hn:5000<=n):∃e,Ok n d=some e/\(e=0->∀x∈d,x.Supers.length<=256/\x.Feats.length<=256):=by
 have:=i7 (l:=d) (by omega) (F:=fun m z (_:Unit)=>XH d m z) (fun i _=>∀x∈d.take i,x.Supers.length<=256/\x.Feats.length<=256) (Q:=fun e=>e=0->∀x∈d,x.Supers.length<=256/\x.Feats.length<=256)
  (fun m i x _ hx aH bB hw hI ih=>by
   simp only[XH,bB,zC,dP,hx,aM,hw];by_cases h1:(x.Supers.length:Int)>256;simp only[h1,yC,zC,aM];exact⟨7,rfl,fun h=>by cases h⟩;by_cases h2:(x.Feats.length:Int)>256;simp only[h1,h2,yC,yB,zC,zD,aM];exact⟨7,rfl,fun h=>by cases h⟩;simp only[h1,h2,yB,zD,aM];refine ih () fun y hy=>?_;rw[kK hx]at hy;rcases yD.1 hy with hy |hy
   exact hI y hy;simp at hy;subst hy;omega)
  (fun m _ bB hI=>by simp only[XH,bB,zD,xq];rw[zW (zF _)]at hI;exact⟨0,rfl,fun _=>hI⟩) n 0 () (by omega) (by omega) (by simp)
 rw[zV]at this;have h:¬ (d.length:Int)>256:=by omega
 simp only[Ok,h,yB,zD];exact this
def z7q(s:Str)(hn:40<=n):∃r,Od n s=some r/\(r=true->0<s.length/\s.length<=32):=by obtain⟨r,h1,h2⟩:=qu9 s false hn;exact⟨r,by simp[Od,h1,aM],h2⟩
structure Lw(d:Z bC):Prop where
 nod:(d.map bC.Name).Nodup
 len:∀x∈d,0<x.Name.length/\x.Name.length<=32
def qxm(hd:d.length<=12)(hn:5000<=n):∃e,zi n d=some e/\(e=0->Lw d):=by
 have:=i7 (l:=d) (by omega) (F:=fun m z (_:Unit)=>XJ d n m z) (fun i _=>Lw (d.take i)) (Q:=fun e=>e=0->Lw d)
  (fun m i x _ hx aH bB hw hI ih=>by obtain⟨r,h1,h2⟩:=z7q x.Name (show 40<=n by omega);simp only[XJ,bB,zC,dP,hx,aM,hw,h1];rcases r with _|_;exact⟨1,rfl,fun h=>by cases h⟩;simp only[Bool.not_true,zD];rcases Zu (d:=d) (by omega) x.Name (show d.length<n by omega)with⟨j,y,g1,g2,g3,g4⟩|⟨g1,g2⟩;simp only[g4,aM];by_cases hj:(j:Int)<(i:Int);simp only[hj,yC,zC];exact⟨4,rfl,fun h=>by cases h⟩;simp only[hj,yB,zD];refine ih () ?_;rw[kK hx];refine⟨?_,fun z hz=>?_⟩;rw[List.map_append,List.nodup_append];refine⟨hI.nod,by simp,fun a ha b hb e=>?_⟩;simp at hb;subst hb;obtain⟨z,hz,e2⟩:=List.mem_map.1 ha;obtain⟨k,hk,e3⟩:=List.mem_iff_getElem.1 hz;rw[List.length_take]at hk;rw[List.getElem_take]at e3;exact g3 k z (by omega) (by rw[List.getElem?_eq_getElem (by omega),e3]) (e2.trans e);rcases yD.1 hz with hz |hz;exact hI.len z hz;simp at hz;subst hz;exact h2 rfl;exact absurd rfl (g1 x (zX hx)))
  (fun m _ bB hI=>by simp only[XJ,bB,zD,xu];rw[zW (zF _)]at hI;exact⟨0,rfl,fun _=>hI⟩) n 0 () (by omega) (by omega) ⟨by simp,by simp⟩
 rw[zV]at this;exact this
def jW(d:Z bC)(s:Str):Prop:=∃x∈d,x.Name=s
def dj(hd:d.length<=1000000)(h:jW d s)(hn:d.length<n):∃(j:Nat)(x:bC),d[j]? = some x/\x.Name=s/\G3 n d s=some (j:Int):=by rcases Zu hd s hn with⟨j,x,h1,h2,_,h4⟩|⟨h1,_⟩;exact⟨j,x,h1,h2,h4⟩;obtain⟨x,hx,e⟩:=h;exact absurd e (h1 x hx)
def IJ(d:Z bC)(x:bC):Prop:=(∀s∈x.Supers,jW d s)/\x.Supers.Nodup
def z0j(hd:d.length<=12)(hs:∀x∈d,x.Supers.length<=256)(hn:5000<=n):∃e,zt n d=some e/\(e=0->∀x∈d,IJ d x):=by
 have:=i7 (l:=d) (by omega) (F:=fun m z (_:Unit)=>KE d n m z) (fun i _=>∀x∈d.take i,IJ d x) (Q:=fun e=>e=0->∀x∈d,IJ d x)
  (fun m i x _ hx aH bB hw hI ih=>by
   have gJ:=zX hx;have l_:=hs x gJ;simp only[KE,bB,zC,dP,hx,aM];have:=i7 (l:=x.Supers) (by omega) (F:=fun m' z (_:Unit)=>XO d n i (KE d n m) x m' z) (fun k _=>(∀s∈x.Supers.take k,jW d s)/\(x.Supers.take k).Nodup) (Q:=fun e=>e=0->∀x∈d,IJ d x)
    (fun m' k s _ hsx qD cX mO iG jR=>by
     simp only[XO,cX,zC,dP,hsx,aM,mO];rcases Zu (d:=d) (by omega) s (show d.length<n by omega)with⟨j,y,g1,g2,g3,g4⟩|⟨g1,g2⟩;have hj:¬ (j:Int)<0:=by omega
     have oF:=MD (l:=x.Supers.take k) (by simp;omega) s (n:=n) (by simp;omega);simp only[g4,aM,hj,yB,zD,Xq (show k<=x.Supers.length by omega),oF];by_cases hm:s∈x.Supers.take k;simp only[hm,yC,zC];exact⟨4,rfl,fun h=>by cases h⟩;simp only[hm,yB,zD];refine jR () ?_;rw[kK hsx];refine⟨fun t ht=>?_,?_⟩;rcases yD.1 ht with ht |ht;exact iG.1 t ht;simp at ht;subst ht;exact⟨y,zX g1,g2⟩;rw[List.nodup_append];exact⟨iG.2,by simp,fun a ha b hb e=>by simp at hb;subst hb;subst e;exact hm ha⟩;simp only[g2,aM];exact⟨5,rfl,fun h=>by cases h⟩)
    (fun m' _ cX iG=>by
     simp only[XO,cX,zD,jp,hw];rw[zW (zF _)]at iG;refine ih () fun y hy=>?_;rw[kK hx]at hy;rcases yD.1 hy with hy |hy
     exact hI y hy;simp at hy;subst hy;exact iG) n 0 () (by omega) (by omega) ⟨by simp,by simp⟩
   rw[zV]at this;exact this)
  (fun m _ bB hI=>by simp only[KE,bB,zD,jq];rw[zW (zF _)]at hI;exact⟨0,rfl,fun _=>hI⟩) n 0 () (by omega) (by omega) (by simp)
 rw[zV]at this;exact this
def z3y{x:bC}(hs:x.Supers.length<=256)(hl:l.length<=1000)(hn:5000<=n):zh n x l=some (decide (∀s∈x.Supers,s∈l)):=by
 have:=i7 (l:=x.Supers) (by omega) (F:=fun m z (_:Unit)=>XI x l n m z) (fun i _=>∀s∈x.Supers.take i,s∈l) (Q:=fun b=>b=decide (∀s∈x.Supers,s∈l))
  (fun m i s _ hx aH bB hw hI ih=>by
   simp only[XI,bB,zC,dP,hx,aM,hw,MD (l:=l) (by omega) s (n:=n) (by omega)];by_cases hm:s∈l;simp only[hm,yC,Bool.not_true,zD];refine ih () fun t ht=>?_;rw[kK hx]at ht;rcases yD.1 ht with ht |ht
   exact hI t ht;simp at ht;subst ht;exact hm;simp only[hm,yB,Bool.not_false,zC];exact⟨false,rfl,(decide_eq_false fun h=>hm (h s (zX hx))).symm⟩)
  (fun m _ bB hI=>by simp only[XI,bB,zD,xr];rw[zW (zF _)]at hI;exact⟨true,rfl,(decide_eq_true hI).symm⟩) n 0 () (by omega) (by omega) (by simp)
 rw[zV]at this;obtain⟨r,h1,h2⟩:=this;rw[<-h2];exact h1
inductive Ord(d:List bC):List Str->Prop
 |nil:Ord d []
 |snoc {l:List Str} {x:bC}:Ord d l->x∈d->x.Name ∉ l->(∀s∈x.Supers,s∈l)->Ord d (l++[x.Name])
def Ord.nodup(h:Ord d l):l.Nodup/\∀s∈l,jW d s:=by induction h with|nil=>simp| @snoc l x h1 h2 h3 h4 ih=>refine⟨?_,fun s hs=>?_⟩;rw[List.nodup_append];exact⟨ih.1,by simp,fun a ha b hb e=>by simp at hb;subst hb;subst e;exact h3 ha⟩;rcases yD.1 hs with hs |hs;exact ih.2 s hs;simp at hs;subst hs;exact⟨x,h2,rfl⟩
def No:∀{a b:Z Str},a.Nodup->(∀x∈a,x∈b)->a.length<=b.length
 |[],b,_,_=>by simp
 |x::a,b,hn,hs=>by
  obtain⟨h1,h2⟩:=List.nodup_cons.1 hn;have h3:=No (b:=b.erase x) h2 fun y hy=>by have:y≠x:=fun e=>h1 (e ▸ hy);exact(List.mem_erase_of_ne this).2 (hs y (List.mem_cons_of_mem x hy))
  have h4:=List.length_erase_of_mem (hs x (by simp));have h5:=List.length_pos_of_mem (hs x (by simp));simp only[zO];omega
def Ord.len(h:Ord d l):l.length<=d.length:=by
 have:=No (b:=d.map bC.Name) h.nodup.1 fun s hs=>by obtain⟨x,hx,rfl⟩:=h.nodup.2 s hs;exact List.mem_map_of_mem hx
 rwa [yA]at this
def qzh(hd:d.length<=12)(hs:∀x∈d,x.Supers.length<=256)(hn:5000<=n):∃l,zw n d=some l/\Ord d l:=by
 have key:∀(m:Nat)(b:BQ)(l:Z Str),d.length-l.length+2<=m+(cond b 0 1)->Ord d l->∃r,G6 d n m b l=some r/\Ord d r:=by
  intro m;induction m with
  |zero=>intro b l hm;cases b<;>simp at hm<;>omega|succ m ih=>
   intro b l hm hl;have qE:=hl.len;unfold G6;rcases b with _|_;simp only[zD,js];exact⟨l,rfl,hl⟩;simp only[zC]at hm ⊢;have:=i7 (l:=d) (by omega) (F:=fun m' z (s:BQ×Str)=>KF d n l (G6 d n m) m' s.1 s.2 z) (fun i s=>s.1=true->∃x∈d,x.Name=s.2/\x.Name ∉ l/\∀t∈x.Supers,t∈l) (Q:=fun r=>Ord d r)
    (fun m' i x s hx aH bB hw hI jR=>by
     have gJ:=zX hx;simp only[KF,bB,zC,dP,hx,aM,hw,MD (l:=l) (by omega) x.Name (n:=n) (by omega),z3y (hs x gJ) (show l.length<=1000 by omega) hn];by_cases h1:x.Name∈l;simp only[h1,yC,zC,aM];exact jR (s.1,s.2) hI;by_cases h2:∀t∈x.Supers,t∈l;have e1:decide (∀t∈x.Supers,t∈l)=true:=decide_eq_true h2;simp only[h1,e1,yB,zD,Bool.not_true,aM,Px,hw];have gP:∃y∈d,y.Name=x.Name/\y.Name ∉ l/\∀t∈y.Supers,t∈l:=⟨x,gJ,rfl,h1,h2⟩;cases hb:s.1 with
     |false=>simp only[Bool.not_false,zC,aM];exact jR (true,x.Name) fun _=>gP
     |true=>
      simp only[Bool.not_true,zD,aM];cases jH x.Name s.2 with
      |true=>simp only[zC];exact jR (true,x.Name) fun _=>gP
      |false=>simp only[zD];exact jR (true,s.2) fun _=>hI hb
     have e1:decide (∀t∈x.Supers,t∈l)=false:=decide_eq_false h2;simp only[h1,e1,yB,zD,Bool.not_false,aM,zC];exact jR (s.1,s.2) hI)
    (fun m' s bB hI=>by
     simp only[KF,bB,zD,jr,Py];rcases hb:s.1 with _|_;simp only[zD];exact ih false l (by simp;omega) hl;obtain⟨x,hx,e,h1,h2⟩:=hI hb;have AU:Ord d (l++[s.2]):=by rw[<-e];exact .snoc hl hx h1 h2
     have:=AU.len;simp only[zU,zO,zS]at this;simp only[zC];rw[kA (by omega)];exact ih true (l++[s.2]) (by simp;omega) AU) n 0 (false,[]) (by omega) (by omega) (fun h=>by cases h)
   rw[zV]at this;exact this
 exact key n true [] (by simp;omega) .nil
structure wN(d:Z bC):Prop where
 len:d.length<=12
 siz:∀x∈d,x.Supers.length<=256/\x.Feats.length<=256
 nam:Lw d
 sup:∀x∈d,IJ d x
 ord:∃l,Ord d l/\l.length=d.length
 one:(d.filter fun x=>decide (x.Supers=[])).length=1
def qxf(hd:d.length<=12)(hn:5000<=n):∃e,Om n d=some e/\(e=0->wN d):=by
 obtain⟨e1,a1,a2⟩:=z48 hd hn;simp only[Om,a1,aM];by_cases h1:e1=0;subst h1;have a3:=a2 rfl;obtain⟨e2,b1,b2⟩:=qxm hd hn;simp only[bne_self_eq_false,zD,b1,aM];by_cases h2:e2=0;subst h2;obtain⟨e3,c1,c2⟩:=z0j hd (fun x hx=>(a3 x hx).1) hn;simp only[bne_self_eq_false,zD,c1,aM];by_cases h3:e3=0;subst h3;simp only[bne_self_eq_false,zD];have:=i7 (l:=d) (by omega) (F:=fun m z (s:Int)=>MV d n m s z) (fun i s=>s=(((d.take i).filter fun x=>decide (x.Supers=[])).length:Int)) (Q:=fun e=>e=0->wN d)
  (fun m i x s hx aH bB hw hI ih=>by
   have B0:=List.length_filter_le (fun x:bC=>decide (x.Supers=[])) (d.take i);rw[List.length_take]at B0;simp only[MV,bB,zC,dP,hx,aM,Pn,hw];by_cases hz:x.Supers=[];have e0:((x.Supers.length:Int)==0)=true:=by simp[hz]
   have e1:IntKind.i64.wrap (s+1)=s+1:=wr (by omega) (by omega);simp only[e0,zC,e1];refine ih (s+1) ?_;rw[kK hx,List.filter_append,zU,hI];simp[hz];have e0:((x.Supers.length:Int)==0)=false:=by simp[List.length_eq_zero_iff,hz]
   simp only[e0,zD];refine ih s ?_;rw[kK hx,List.filter_append,zU,hI];simp[hz])
  (fun m s bB hI=>by
   rw[zW (zF _)]at hI;simp only[MV,bB,zD,xx];by_cases h4:s=1;obtain⟨l,g1,g2⟩:=qzh hd (fun x hx=>(a3 x hx).1) hn;have hl:=g2.len;simp only[h4,bne_self_eq_false,zD,g1,aM];by_cases h5:(l.length:Int)<(d.length:Int);simp only[h5,yC,zC];exact⟨6,rfl,fun h=>by cases h⟩;simp only[h5,yB,zD];exact⟨0,rfl,fun _=>⟨hd,a3,b2 rfl,c2 rfl,⟨l,g2,by omega⟩,by omega⟩⟩;have e4:(s != 1)=true:=by simpa using h4
   simp only[e4,zC];exact⟨1,rfl,fun h=>by cases h⟩) n 0 0 (by omega) (by omega) (by simp)
 rw[zV]at this;exact this;have e4:(e3 != 0)=true:=by simpa using h3
 simp only[e4,zC];exact⟨e3,rfl,fun h=>absurd h h3⟩;have e4:(e2 != 0)=true:=by simpa using h2
 simp only[e4,zC];exact⟨e2,rfl,fun h=>absurd h h2⟩;have e4:(e1 != 0)=true:=by simpa using h1
 simp only[e4,zC];exact⟨e1,rfl,fun h=>absurd h h1⟩
variable{a:Nat}
def wu(h:a<18446744073709551616):IntKind.u64.wrap (a:Int)=(a:Int):=by simp only[IntKind.wrap,IntKind.bits,IntKind.signed];simp;omega
variable{b:Nat}
def Ct(ha:a<18446744073709551616)(hb:b<18446744073709551616):FK .u64 (a:Int) (b:Int)=((a&&&b:Nat):Int):=by
 have h:(BitVec.ofInt 64 (a:Int)&&&BitVec.ofInt 64 (b:Int)).toNat=a&&&b:=by simp only[BitVec.ofInt_natCast,BitVec.toNat_and,BitVec.toNat_ofNat];rw[Nat.mod_eq_of_lt ha,Nat.mod_eq_of_lt hb]
 show IntKind.u64.wrap (((BitVec.ofInt 64 (a:Int)&&&BitVec.ofInt 64 (b:Int)).toNat:Nat):Int)=_;rw[h];exact wu (Nat.lt_of_le_of_lt Nat.and_le_left ha)
def orN(ha:a<18446744073709551616)(hb:b<18446744073709551616):Hl .u64 (a:Int) (b:Int)=((a|||b:Nat):Int):=by
 have h:(BitVec.ofInt 64 (a:Int)|||BitVec.ofInt 64 (b:Int)).toNat=a|||b:=by simp only[BitVec.ofInt_natCast,BitVec.toNat_or,BitVec.toNat_ofNat];rw[Nat.mod_eq_of_lt ha,Nat.mod_eq_of_lt hb]
 show IntKind.u64.wrap (((BitVec.ofInt 64 (a:Int)|||BitVec.ofInt 64 (b:Int)).toNat:Nat):Int)=_;rw[h];exact wu (Nat.or_lt_two_pow (n:=64) ha hb)
def Qx(ha:a<18446744073709551616)(hb:b<18446744073709551616):∃c:Nat,Q8 .u64 (a:Int) (b:Int)=(c:Int)/\(c=0↔a&&&b=a):=by
 refine⟨(BitVec.ofInt 64 (a:Int) &&& ~~~ BitVec.ofInt 64 (b:Int)).toNat,?_,?_⟩;exact wu (BitVec.isLt _);have h1:(BitVec.ofInt 64 (a:Int)&&&BitVec.ofInt 64 (b:Int)).toNat=a&&&b:=by simp only[BitVec.ofInt_natCast,BitVec.toNat_and,BitVec.toNat_ofNat];rw[Nat.mod_eq_of_lt ha,Nat.mod_eq_of_lt hb]
 have h2:(BitVec.ofInt 64 (a:Int)).toNat=a:=by simp only[BitVec.ofInt_natCast,BitVec.toNat_ofNat];exact Nat.mod_eq_of_lt ha
 generalize BitVec.ofInt 64 (a:Int)=x at*;generalize BitVec.ofInt 64 (b:Int)=y at*;rw[<-h1];constructor;intro h;have h3:x &&& ~~~ y=0#64:=BitVec.eq_of_toNat_eq (by simpa using h);have:x&&&y=x:=by ext i hi;have:=congrArg (fun z=>z.getLsbD i) h3;simp[hi]at this ⊢;intro hx;exact this hx
 rw[this,h2];intro h;have h3:x&&&y=x:=BitVec.eq_of_toNat_eq (by rw[h,h2]);have:x &&& ~~~ y=0#64:=by ext i hi;have:=congrArg (fun z=>z.getLsbD i) h3;simp[hi]at this ⊢;intro hx;exact this hx
 rw[this];rfl
def bt(w:Nat):Z Int:=if w=0 then[]else[(w:Int)]
def UB:bt 0=[]:=rfl
variable{w:Nat}
def qT(h:w≠0):bt w=[(w:Int)]:=if_neg h
def z6o:((bt w).length:Int)=0↔w=0:=by by_cases h:w=0;simp[h,bt];simp[h,bt]
def bf{w:Nat}{k:Nat}(hk:k<=1000):∀(j m:Nat),j<=k->j+2<=m->QW ((w:Int)::List.replicate k 0) m ((j+1:Nat):Int)=some (bt w)
 |0,0,_,h=>by omega
 |0,1,_,h=>by omega
 |0,m+2,_,_=>by
  have e0:IntKind.i64.wrap (((0+1:Nat):Int)-1)=0:=wr (z:=0) (by omega) (by omega);have e1:aC ((w:Int)::List.replicate k 0) 0=some (w:Int):=by simp[aC]
  have e2:decide (((0+1:Nat):Int)>0)=true:=by simp
  have c0:=Xq (l:=(w:Int)::List.replicate k 0) (b:=0) (by simp);have c1:=Xq (l:=(w:Int)::List.replicate k 0) (b:=1) (by simp);rw[zV,List.take_zero]at c0;rw[QW,e2,e0,zC,e1,aM,aM];by_cases hw:w=0;have:((w:Int)==0)=true:=by simp[hw]
  rw[this,zC,QW];simp only[Int.lt_irrefl,yB,zD,aM,Pz,c0,show((0:Int)>0)=False by simp];rw[kA (by simp),hw,UB];have:((w:Int)==0)=false:=by simp[hw]
  rw[this,zD,Pz,show((0+1:Nat):Int)=((1:Nat):Int) by simp,c1,aM,kA (by simp),qT hw];rfl
 |j+1,m,hj,hm=>by
  obtain⟨m,rfl⟩:∃q,m=q+1:=⟨m-1,by omega⟩;have e0:IntKind.i64.wrap (((j+1+1:Nat):Int)-1)=((j+1:Nat):Int):=UI (by omega) (by omega);have e1:aC ((w:Int)::List.replicate k 0) ((j+1:Nat):Int)=some 0:=by rw[dP,zH,List.getElem?_replicate,if_pos (by omega)]
  have e2:decide (((j+1+1:Nat):Int)>0)=true:=by simp;omega
  rw[QW,e2,e0,zC,e1,aM,aM];exact bf hk j m (by omega) (by omega)
variable{n:Nat}
def bc(hn:5<=n):K4 n [(w:Int)]=some (bt w):=bf (k:=0) (by omega) 0 n (by omega) (by omega)
def be(hn:5<=n):K4 n []=some []:=by obtain⟨k,rfl⟩:=Nat.exists_eq_add_of_le' hn;rfl
def z7s(hn:5<=n):K4 n (bt w)=some (bt w):=by by_cases h:w=0;subst h;exact be hn;rw[qT h,bc hn,qT h]
def z0r(b n:Nat):WZ n (bt b) 0=some (b:Int):=by by_cases h:b=0;subst h;rfl;rw[qT h];rfl
def z4o(ha:a<4096)(hb:b<4096)(hn:5<=n):WX n (bt a) (bt b)=some (bt (a&&&b)):=by obtain⟨k,rfl⟩:=Nat.exists_eq_add_of_le' hn;by_cases h:a=0;subst h;rw[Nat.zero_and];have:=be (n:=k+5) hn;simp only[WX,UB,Pa,zS,Gm,this,aM];rfl;have h1:=Ct (a:=a) (b:=b) (by omega) (by omega);have h2:=bc (w:=a&&&b) (n:=k+5) hn;have e:WX (k+5) [(a:Int)] (bt b)=a8 (WZ (k+5) (bt b) 0) fun jD=>aG ((0+1)*8<=140737488355328/\0+1<=140737488355328) (Gm (k+5) [FK .u64 (a:Int) jD]):=rfl;rw[qT h,e,z0r,aM,kA (by omega),Gm,h1,h2];rfl
def z38(ha:a<4096)(hb:b<4096)(hn:5<=n):∃c:Nat,Gb n (bt a) (bt b)=some (bt c)/\(c=0↔a&&&b=a):=by obtain⟨k,rfl⟩:=Nat.exists_eq_add_of_le' hn;by_cases h:a=0;subst h;have:=be (n:=k+5) hn;refine⟨0,?_,by simp⟩;simp only[Gb,UB,Pq,zS,Gz,this,aM];rfl;obtain⟨c,h1,h3⟩:=Qx (a:=a) (b:=b) (by omega) (by omega);have h2:=bc (w:=c) (n:=k+5) hn;have e:Gb (k+5) [(a:Int)] (bt b)=a8 (WZ (k+5) (bt b) 0) fun jD=>aG ((0+1)*8<=140737488355328/\0+1<=140737488355328) (Gz (k+5) [Q8 .u64 (a:Int) jD]):=rfl;refine⟨c,?_,h3⟩;rw[qT h,e,z0r,aM,kA (by omega),Gz,h1,h2];rfl
def ff(ha:a<4096)(hb:b<4096)(hn:5<=n):X7 n (bt a) (bt b)=some (decide (a&&&b=a)):=by obtain⟨c,h1,h2⟩:=z38 ha hb hn;rw[X7,h1,aM];congr 1;rw[Bool.eq_iff_iff,beq_iff_eq,z6o,h2,decide_eq_true_eq]
def Zz(ha:a<4096)(hb:b<4096)(hn:5<=n):Oq n (bt a) (bt b)=some (decide (a=b)):=by
 simp only[Oq,ff ha hb hn,ff hb ha hn,aM];by_cases h:a&&&b=a;by_cases h':b&&&a=b;have:a=b:=by rw[<-h,Nat.and_comm,h']
 simp[h,h',this,aM];have:a≠b:=fun e=>h' (by rw[<-e,Nat.and_self]);simp[h,h',this,aM];have:a≠b:=fun e=>h (by rw[<-e,Nat.and_self]);simp[h,this,aM]
def z5d{i:Nat}(hw:w<4096)(hi:i<64):Fu n (bt w) (i:Int)=some (w.testBit i):=by
 have e0:decide ((i:Int)<0)=false:=by simp
 have e1:(i:Int).tdiv 64=0:=by rw[Int.tdiv_eq_ediv_of_nonneg (by omega)];omega
 have e2:IntKind.i64.wrap 0=0:=wr (by omega) (by omega);simp only[Fu,e0,zD,aM,e1,e2];by_cases h:w=0;subst h;simp[UB];have e3:decide ((0:Int)>=((bt w).length:Int))=false:=by rw[qT h];simp
 have e4:aC (bt w) 0=some (w:Int):=by rw[qT h];rfl
 have e5:(i:Int).tmod 64=(i:Int):=by rw[Int.tmod_eq_emod_of_nonneg (by omega)];omega
 have e6:IntKind.u64.wrap (i:Int)=(i:Int):=wu (by omega);have e7:min ((i:Int).toNat) IntKind.u64.bits=i:=by rw[zZ];exact Nat.min_eq_left (by show i<=64;omega)
 have e8:(w:Int).fdiv (2^i)=((w/2^i:Nat):Int):=by rw[show(2:Int)^i=((2^i:Nat):Int) by simp,Int.fdiv_eq_ediv_of_nonneg _ (Int.natCast_nonneg _)];rfl
 have aH:w/2^i<18446744073709551616:=Nat.lt_of_le_of_lt (Nat.div_le_self _ _) (by omega);have e9:=Ct (a:=w/2^i) (b:=1) aH (by omega);rw[show((1:Nat):Int)=1 from rfl]at e9;simp only[e3,zD,e4,aM,e5,e6];rw[kA (by omega),e7,e8,e9];congr 1;rw[Bool.eq_iff_iff,beq_iff_eq,Nat.testBit_eq_decide_div_mod_eq,decide_eq_true_eq,Nat.and_one_is_mod];omega
def bl(w:Nat):Z Int:=((List.range 64).filter fun i=>w.testBit i).map fun(i:Nat)=>(i:Int)
def z7g(hw:w<4096)(hn:100<=n):qv n (bt w)=some (bl w):=by
 by_cases h:w=0;subst h;obtain⟨k,rfl⟩:=Nat.exists_eq_add_of_le' hn;have e:bl 0=[]:=by simp[bl]
 rw[e];rfl;have xR:IntKind.i64.wrap (64*((bt w).length:Int))=((List.range 64).length:Int):=by rw[qT h,List.length_range];exact wr (by simp) (by simp)
 have:=i7 (l:=List.range 64) (by simp) (F:=fun m z s=>MS (bt w) n m z s) (fun i s=>s=(((List.range 64).take i).filter fun i=>w.testBit i).map fun(i:Nat)=>(i:Int)) (Q:=fun r=>r=bl w)
  (fun m i x s hx aH bB mX hI ih=>by
   have n_:x=i:=by rw[List.getElem?_range (by simpa using aH)]at hx;exact(Option.some.inj hx).symm
   subst n_;have aN:s.length<=64:=by rw[hI,yA];refine Nat.le_trans (List.length_filter_le _ _) ?_;rw[List.length_take,List.length_range];omega
   rw[List.length_range]at aH;simp only[MS,xR,bB,zC,z5d hw aH,aM,Pj,mX];cases hb:w.testBit x with
   |true=>simp only[zC];rw[kA (by omega)];refine ih _ ?_;rw[kK hx,List.filter_append,List.map_append,hI];simp[hb]|false=>simp only[zD];refine ih _ ?_;rw[kK hx,List.filter_append,List.map_append,hI];simp[hb])
  (fun m s bB hI=>by simp only[MS,xR,bB,zD,wv];rw[zW (zF _)]at hI;exact⟨s,rfl,hI⟩) n 0 [] (by simp;omega) (by omega) (by simp)
 obtain⟨r,h1,h2⟩:=this;rw[<-h2];rw[zV]at h1;exact h1
def qte(hw:w<4096)(hn:100<=n):Gc n (bt w)=some ((bl w).length:Int):=by rw[Gc,z7g hw hn];rfl
def qv0(hn:5<=n):QL n (bt a) (bt b)=some (decide (a=b)):=by
 obtain⟨k,rfl⟩:=Nat.exists_eq_add_of_le' hn;by_cases ha:a=0;subst ha;by_cases hb:b=0;subst hb;rfl;rw[qT hb];simp[UB,QL,Ne.symm hb];by_cases hb:b=0;subst hb;rw[qT ha];simp[UB,QL,ha];have e:QL (k+5) [(a:Int)] [(b:Int)]=cond ((a:Int) != (b:Int)) (some false) (some true):=rfl;rw[qT ha,qT hb,e];by_cases h:a=b;subst h;simp;have:((a:Int) != (b:Int))=true:=by simp;omega
 simp[this,h]
def Rr{ws:Z Nat}(hl:ws.length<=1000)(hn:5000<=n):Zq n (ws.map bt) (bt b)=some (decide (b∈ws)):=by
 have:=i7 (l:=ws) (by omega) (F:=fun m z (_:Unit)=>X4 (ws.map bt) (bt b) n m z) (fun i _=>b ∉ ws.take i) (Q:=fun r=>r=decide (b∈ws))
  (fun m i x _ hx aH bB hw hI ih=>by
   have vM:(ws.map bt)[i]? = some (bt x):=by rw[List.getElem?_map,hx];rfl
   simp only[X4,yA,bB,zC,dP,vM,aM,qv0 (a:=x) (b:=b) (n:=n) (by omega),hw];by_cases e:x=b;simp only[e,yC,zC];exact⟨true,rfl,(decide_eq_true (e ▸ zX hx)).symm⟩;simp only[e,yB,zD];refine ih () ?_;rw[kK hx];simp[hI,Ne.symm e])
  (fun m _ bB hI=>by simp only[X4,yA,bB,zD,zg];rw[zW (zF _)]at hI;exact⟨false,rfl,(decide_eq_false hI).symm⟩) n 0 () (by omega) (by omega) (by simp)
 obtain⟨r,h1,h2⟩:=this;rw[<-h2];rw[zV]at h1;exact h1
def GC(l:Z Nat):Nat:=l.foldl (fun w i=>w|||2^i) 0
def ul:∀(l:Z Nat)(w:Nat),(∀i∈l,i<12)->w<4096->l.foldl (fun w i=>w|||2^i) w<4096
 |[],w,_,h=>h|i::l,w,hl,h=>ul l _ (fun j hj=>hl j (by simp[hj])) (Nat.or_lt_two_pow (n:=12) h (Nat.pow_lt_pow_right (by omega) (hl i (by simp))))
def z5l(j:Nat):∀(l:Z Nat)(w:Nat),(l.foldl (fun w i=>w|||2^i) w).testBit j=(w.testBit j||decide (j∈l))
 |[],w=>by simp
 |i::l,w=>by rw[List.foldl_cons,z5l j l,Nat.testBit_or,Nat.testBit_two_pow];by_cases e:i=j;subst e;simp;have:¬ j=i:=fun h=>e h.symm;simp[e,this,Bool.or_assoc]
def Qr{l:Z Nat}(hl:l.length<=12)(iH:∀i∈l,i<12)(hn:5000<=n):Ms n (l.map fun(i:Nat)=>(i:Int))=some (bt (GC l),0):=by
 have O_:List.replicate (64:Int).toNat (0:Int)=((0:Nat):Int)::List.replicate 63 0:=rfl;have:=i7 (l:=l) (by omega) (F:=fun m z s=>X5 (l.map fun(i:Nat)=>(i:Int)) n m z s) (fun i s=>s=(((l.take i).foldl (fun w i=>w|||2^i) 0:Nat):Int)::List.replicate 63 0) (Q:=fun r=>r=(bt (GC l),0))
  (fun m i x s hx aH bB hw hI ih=>by
   have o_:=iH x (zX hx);have vM:(l.map fun(i:Nat)=>(i:Int))[i]? = some (x:Int):=by rw[List.getElem?_map,hx];rfl
   have e1:decide ((x:Int)<0)=false:=by simp
   have e2:decide ((x:Int)>4095)=false:=by simp;omega
   have e3:IntKind.i64.wrap ((x:Int).tdiv 64)=0:=by rw[Int.tdiv_eq_ediv_of_nonneg (by omega),show(x:Int)/64=0 by omega];exact wr (by omega) (by omega)
   have e4:(x:Int).tmod 64=(x:Int):=by rw[Int.tmod_eq_emod_of_nonneg (by omega)];omega
   have e5:IntKind.u64.wrap (x:Int)=(x:Int):=wu (by omega);have e6:min ((x:Int).toNat) IntKind.u64.bits=x:=by rw[zZ];exact Nat.min_eq_left (by show x<=64;omega)
   have uP:(l.take i).foldl (fun w i=>w|||2^i) 0<4096:=ul _ 0 (fun j hj=>iH j (List.mem_of_mem_take hj)) (by omega);have hp:2^x<4096:=Nat.pow_lt_pow_right (n:=12) (by omega) o_;have e7:IntKind.u64.wrap (1*(2^x:Int))=((2^x:Nat):Int):=by rw[Int.one_mul,show(2:Int)^x=((2^x:Nat):Int) by simp];exact wu (by omega)
   have e8:nR s 0 ((64:Int).toNat) 0=some (((l.take i).foldl (fun w i=>w|||2^i) 0:Nat):Int):=by rw[hI];rfl
   have e9:=orN (a:=(l.take i).foldl (fun w i=>w|||2^i) 0) (b:=2^x) (by omega) (by omega);simp only[X5,yA,bB,zC,dP,vM,aM,e1,e2,zD,e3,e4,e5,e6,e7,e8,e9,hw];rw[kA (by omega)];refine ih _ ?_;rw[kK hx,List.foldl_append,hI];rfl)
  (fun m s bB hI=>by
   simp only[X5,yA,bB,zD,zj];rw[zW (zF _)]at hI;have h1:K4 n s=some (bt (GC l)):=by rw[hI];exact bf (k:=63) (by omega) 63 n (by omega) (by omega)
   rw[kA (by rw[hI];rfl),h1];exact⟨_,rfl,rfl⟩) n 0 _ (by omega) (by omega) rfl
 obtain⟨r,h1,h2⟩:=this;rw[zV]at h1;rw[Ms,kA (by decide),O_,<-h2];exact h1
inductive nD(d:List bC)(s:Str):Str->Prop
 |refl:nD d s s
 |step {t u:Str} {x:bC}:nD d s t->x∈d->x.Name=t->u∈x.Supers->nD d s u
variable{d:Z bC}
variable{s:Str}
def nD.trans{t u:Str}(h:nD d s t)(h':nD d t u):nD d s u:=by induction h' with|refl=>exact h|step _ h2 h3 h4 ih=>exact .step ih h2 h3 h4
structure WL(d:Z bC)(P:Str->Prop)(l:Z Str):Prop where
 nod:l.Nodup
 mem:∀s∈l,jW d s/\P s
variable{l:Z Str}
def WL.len{P:Str->Prop}(h:WL d P l):l.length<=d.length:=by
 have:=No (b:=d.map bC.Name) h.nod fun s hs=>by obtain⟨x,hx,rfl⟩:=(h.mem s hs).1;exact List.mem_map_of_mem hx
 rwa [yA]at this
def WL.snoc{d:Z bC}{P:Str->Prop}{l:Z Str}(h:WL d P l){s:Str}(hn:s ∉ l)(hs:jW d s/\P s):WL d P (l++[s]):=by refine⟨?_,fun t ht=>?_⟩;rw[List.nodup_append];exact⟨h.nod,by simp,fun a ha b hb e=>by simp at hb;subst hb;subst e;exact hn ha⟩;rcases yD.1 ht with ht |ht;exact h.mem t ht;simp at ht;subst ht;exact hs
variable{n:Nat}
def qzo(hl:l.length<=1000)(hn:5000<=n):(∃out,QS n l n [] 0=some out/\vA [] l out)/\∃out,QT n l n [] 0=some out/\vA [] l out:=by
 constructor;have:=i7 (l:=l) (by omega) (F:=fun m z s=>QS n l m s z) (fun i s=>vA [] (l.take i) s) (Q:=fun out=>vA [] l out)
  (fun m i x s hx aH bB hw hI ih=>by have hl:=hI.len;simp at hl;obtain⟨o,h1,h2,h3,h4⟩:=Eu (l:=s) (by omega) hI.asc x (show s.length<n by omega);simp only[QS,bB,zC,dP,hx,aM,h1,hw];exact ih o (by rw[kK hx];exact hI.next h2 h3 h4))
  (fun m s bB hI=>by simp only[QS,bB,zD,xz];rw[zW (zF _)]at hI;exact⟨s,rfl,hI⟩) n 0 [] (by omega) (by omega) (vA.nil List.Pairwise.nil)
 rw[zV]at this;exact this;have:=i7 (l:=l) (by omega) (F:=fun m z s=>QT n l m s z) (fun i s=>vA [] (l.take i) s) (Q:=fun out=>vA [] l out)
  (fun m i x s hx aH bB hw hI ih=>by have hl:=hI.len;simp at hl;obtain⟨o,h1,h2,h3,h4⟩:=Eu (l:=s) (by omega) hI.asc x (show s.length<n by omega);simp only[QT,bB,zC,dP,hx,aM,h1,hw];exact ih o (by rw[kK hx];exact hI.next h2 h3 h4))
  (fun m s bB hI=>by simp only[QT,bB,zD,jd];rw[zW (zF _)]at hI;exact⟨s,rfl,hI⟩) n 0 [] (by omega) (by omega) (vA.nil List.Pairwise.nil)
 rw[zV]at this;exact this
def z1p(h:wN d)(hs:jW d s)(hn:5000<=n):∃l,On n d s=some l/\eJ l/\l.length<=12/\∀x,x∈l↔jW d x/\nD d x s:=by
 have hd:=h.len;have key:∀(m i:Nat)(l:Z Str),d.length+1-i<=m->i<=l.length->WL d (fun x=>nD d x s) l->s∈l->(∀y∈l.take i,∀x∈d,y∈x.Supers->x.Name∈l)->
   ∃r,KB d n m i l=some r/\eJ r/\r.length<=12/\∀x,x∈r↔jW d x/\nD d x s:=by
  intro m;induction m with
  |zero=>intro i l hm hi hw;have:=hw.len;omega|succ m ih=>
   intro i l hm hi hw GZ iF;have qE:=hw.len;unfold KB;by_cases aH:i<l.length;obtain⟨y,hy,KO⟩:=iL aH;simp only[o0 aH,zC];have:=i7 (l:=d) (by omega) (F:=fun m' z (l':Z Str)=>MW d n i (KB d n m) m' z l') (fun k l'=>WL d (fun x=>nD d x s) l'/\(∃t,l'=l++t)/\∀x∈d.take k,y∈x.Supers->x.Name∈l') (Q:=fun r=>eJ r/\r.length<=12/\∀x,x∈r↔jW d x/\nD d x s)
    (fun m' k x l' hx qD bB mX hI jR=>by
     obtain⟨EJ,⟨t,iG⟩,EI⟩:=hI;have gJ:=zX hx;have l?:=EJ.len;have pB:l'[i]? = some y:=by rw[iG,List.getElem?_append_left aH];exact hy
     have Hy:=(h.siz x gJ).1;simp only[MW,bB,zC,dP,hx,aM,pB,MD (l:=x.Supers) (by omega) y (n:=n) (by omega),MD (l:=l') (by omega) x.Name (n:=n) (by omega),Po,mX];by_cases h1:y∈x.Supers;by_cases h2:x.Name∈l';simp only[h1,h2,yC,zC,aM,Bool.not_true,zD];refine jR l' ⟨EJ,⟨t,iG⟩,fun z hz Ht=>?_⟩;rw[kK hx]at hz;rcases yD.1 hz with hz |hz;exact EI z hz Ht;simp at hz;subst hz;exact h2;simp only[h1,h2,yC,yB,zC,aM,Bool.not_false];rw[kA (by omega)];have vr:=(hw.mem y KO).2;refine jR (l'++[x.Name]) ⟨EJ.snoc h2 ⟨⟨x,gJ,rfl⟩,(nD.step .refl gJ rfl h1).trans vr⟩,⟨t++[x.Name],by rw[iG,zT]⟩,fun z hz Ht=>?_⟩;rw[kK hx]at hz;rcases yD.1 hz with hz |hz;exact List.mem_append_left _ (EI z hz Ht);simp at hz;subst hz;simp;simp only[h1,yB,zD,aM];refine jR l' ⟨EJ,⟨t,iG⟩,fun z hz Ht=>?_⟩;rw[kK hx]at hz;rcases yD.1 hz with hz |hz;exact EI z hz Ht;simp at hz;subst hz;exact absurd Ht h1)
    (fun m' l' bB hI=>by
     obtain⟨EJ,⟨t,iG⟩,EI⟩:=hI;rw[zW (zF _)]at EI;simp only[MW,bB,zD,xy,rF aH (show l.length<=9223372036854775807 by omega)];refine ih (i+1) l' (by omega) (by rw[iG];simp;omega) EJ (by rw[iG];exact List.mem_append_left _ GZ) fun z hz x hx hzx=>?_;rw[iG,List.take_append_of_le_length (by omega),kK hy]at hz;rcases yD.1 hz with hz |hz
     rw[iG];exact List.mem_append_left _ (iF z hz x hx hzx);simp at hz;subst hz;exact EI x hx hzx) n 0 l (by omega) (by omega) ⟨hw,⟨[],by simp⟩,by simp⟩
   rw[zV]at this;exact this;have gU:i=l.length:=by omega
   subst gU;rw[zW (zF _)]at iF;simp only[oW aH,zD,ja];obtain⟨out,g1,g2⟩:=(qzo (l:=l) (by omega) hn).1;have aN:=g2.len;simp at aN;refine⟨out,g1,g2.asc,by omega,fun x=>?_⟩;rw[g2.mem];simp only[List.not_mem_nil,false_or];constructor;exact fun hx=>hw.mem x hx;rintro⟨_,hu⟩;have:∀{t:Str},nD d x t->t∈l->x∈l:=by
    intro t ht;induction ht with
    |refl=>exact id|step _ h2 h3 h4 ih=>exact fun hu=>ih (h3 ▸ iF _ hu _ h2 h4)
   exact this hu GZ
 obtain⟨j,x,g1,g2,g3⟩:=dj (d:=d) (by omega) hs (n:=n) (by omega);have hj:¬ (j:Int)<0:=by omega
 simp only[On,g3,aM,hj,yB,zD];have:=key n 0 [s] (by omega) (by omega) ⟨by simp,fun t ht=>by simp at ht;subst ht;exact⟨hs,.refl⟩⟩ (by simp) (by simp);rw[zV]at this;exact this
def qp5(h:Lw d){x y:bC}(hx:x∈d)(hy:y∈d)(e:x.Name=y.Name):x=y:=by
 have:=h.nod;clear h;induction d with
 |nil=>cases hx|cons z d ih=>rw[zQ,List.nodup_cons]at this;rcases zI.1 hx with h1 |h1;rcases zI.1 hy with h2 |h2;rw[h1,h2];exact absurd (List.mem_map.2 ⟨y,h2,by rw[<-e,h1]⟩) this.1;rcases zI.1 hy with h2 |h2;exact absurd (List.mem_map.2 ⟨x,h1,by rw[e,h2]⟩) this.1;exact ih h1 h2 this.2
def z1i(h:wN d)(hs:jW d s)(hn:5000<=n):∃l,Oo n d s=some l/\eJ l/\l.length<=12/\∀x,x∈l↔jW d x/\nD d s x:=by
 have hd:=h.len;have key:∀(m i:Nat)(l:Z Str),d.length+1-i<=m->i<=l.length->WL d (fun x=>nD d s x) l->s∈l->(∀y∈l.take i,∀x∈d,x.Name=y->∀u∈x.Supers,u∈l)->
   ∃r,KC d n m i l=some r/\eJ r/\r.length<=12/\∀x,x∈r↔jW d x/\nD d s x:=by
  intro m;induction m with
  |zero=>intro i l hm hi hw;have:=hw.len;omega|succ m ih=>
   intro i l hm hi hw GZ iF;have qE:=hw.len;unfold KC;by_cases aH:i<l.length;obtain⟨y,hy,KO⟩:=iL aH;obtain⟨j,x,g1,g2,g3⟩:=dj (d:=d) (by omega) (hw.mem y KO).1 (n:=n) (by omega);have gJ:=zX g1;have Hy:=(h.siz x gJ).1;simp only[o0 aH,zC,dP,hy,aM,g3,g1];have:=i7 (l:=x.Supers) (by omega) (F:=fun m' z (l':Z Str)=>MX n i (KC d n m) x m' z l') (fun k l'=>WL d (fun x=>nD d s x) l'/\(∃t,l'=l++t)/\∀u∈x.Supers.take k,u∈l') (Q:=fun r=>eJ r/\r.length<=12/\∀x,x∈r↔jW d x/\nD d s x)
    (fun m' k u l' hu qD bB mX hI jR=>by obtain⟨EJ,⟨t,iG⟩,EI⟩:=hI;have yg:=zX hu;have l?:=EJ.len;simp only[MX,bB,zC,dP,hu,aM,MD (l:=l') (by omega) u (n:=n) (by omega),Pp,mX];by_cases h2:u∈l';simp only[h2,yC,Bool.not_true,zD];refine jR l' ⟨EJ,⟨t,iG⟩,fun z hz=>?_⟩;rw[kK hu]at hz;rcases yD.1 hz with hz |hz;exact EI z hz;simp at hz;subst hz;exact h2;simp only[h2,yB,Bool.not_false,zC];rw[kA (by omega)];refine jR (l'++[u]) ⟨EJ.snoc h2 ⟨(h.sup x gJ).1 u yg,.step (hw.mem y KO).2 gJ g2 yg⟩,⟨t++[u],by rw[iG,zT]⟩,fun z hz=>?_⟩;rw[kK hu]at hz;rcases yD.1 hz with hz |hz;exact List.mem_append_left _ (EI z hz);simp at hz;subst hz;simp)
    (fun m' l' bB hI=>by
     obtain⟨EJ,⟨t,iG⟩,EI⟩:=hI;rw[zW (zF _)]at EI;simp only[MX,bB,zD,jc,rF aH (show l.length<=9223372036854775807 by omega)];refine ih (i+1) l' (by omega) (by rw[iG];simp;omega) EJ (by rw[iG];exact List.mem_append_left _ GZ) fun z hz w mX vp u hu=>?_;rw[iG,List.take_append_of_le_length (by omega),kK hy]at hz;rcases yD.1 hz with hz |hz
     rw[iG];exact List.mem_append_left _ (iF z hz w mX vp u hu);simp at hz;subst hz;have:=qp5 h.nam mX gJ (vp.trans g2.symm);subst this;exact EI u hu) n 0 l (by omega) (by omega) ⟨hw,⟨[],by simp⟩,by simp⟩
   rw[zV]at this;exact this;have gU:i=l.length:=by omega
   subst gU;rw[zW (zF _)]at iF;simp only[oW aH,zD,je];obtain⟨out,g1,g2⟩:=(qzo (l:=l) (by omega) hn).2;have aN:=g2.len;simp at aN;refine⟨out,g1,g2.asc,by omega,fun x=>?_⟩;rw[g2.mem];simp only[List.not_mem_nil,false_or];constructor;exact fun hx=>hw.mem x hx;rintro⟨_,hu⟩;clear g1 g2;induction hu with
   |refl=>exact GZ|step h1 h2 h3 h4 ih=>exact iF _ (ih ⟨_,h2,h3⟩) _ h2 h3 _ h4
 obtain⟨j,x,g1,g2,g3⟩:=dj (d:=d) (by omega) hs (n:=n) (by omega);have hj:¬ (j:Int)<0:=by omega
 simp only[Oo,g3,aM,hj,yB,zD];have:=key n 0 [s] (by omega) (by omega) ⟨by simp,fun t ht=>by simp at ht;subst ht;exact⟨hs,.refl⟩⟩ (by simp) (by simp);rw[zV]at this;exact this
def z8q(h:wN d){a b:Str}(ha:jW d a)(hb:jW d b)(h1:nD d a b)(h2:nD d b a):a=b:=by
 obtain⟨l,hl,aN⟩:=h.ord;have cC:∀s,jW d s->s∈l:=fun s ⟨x,hx,e⟩=>by
  apply Classical.byContradiction;intro hn;have h3:=No (a:=s::l) (b:=d.map bC.Name) (List.nodup_cons.2 ⟨hn,hl.nodup.1⟩) fun t ht=>by rcases zI.1 ht with rfl |ht;rw[<-e];exact List.mem_map_of_mem hx;obtain⟨y,hy,rfl⟩:=hl.nodup.2 t ht;exact List.mem_map_of_mem hy
  simp at h3;omega
 have mY:∀{l:Z Str},Ord d l->∀s∈l,∀t,nD d s t->∃l1 l2,l=l1++s::l2/\(t=s\/t∈l1):=by
  intro l hl;induction hl with
  |nil=>intro s hs;cases hs| @snoc l x g1 g2 g3 g4 ih=>
   have iF:∀s∈l,∀t,nD d s t->t∈l:=fun s hs t ht=>by obtain⟨l1,l2,e1,e2⟩:=ih s hs t ht;rcases e2 with rfl |e2;exact hs;rw[e1];exact List.mem_append_left _ e2
   intro s hs t ht;rcases yD.1 hs with hs |hs;obtain⟨l1,l2,e1,e2⟩:=ih s hs t ht;exact⟨l1,l2++[x.Name],by rw[e1];simp,e2⟩;simp at hs;subst hs;refine⟨l,[],rfl,?_⟩;induction ht with
   |refl=>exact .inl rfl|step _ h2 h3 h4 jR=>rcases jR with e |e;have:=qp5 h.nam h2 g2 (h3.trans e);subst this;exact .inr (g4 _ h4);exact .inr (iF _ e _ (.step .refl h2 h3 h4))
 obtain⟨l1,l2,e1,e2⟩:=mY hl a (cC a ha) b h1;obtain⟨l3,l4,e3,e4⟩:=mY hl b (cC b hb) a h2;rcases e2 with e2 |e2;exact e2.symm;rcases e4 with e4 |e4;exact e4
 ·-- b ahead of a,and a ahead of b
  have hn:=hl.nodup.1;obtain⟨p,q,e5⟩:=List.append_of_mem e2;rw[e5]at e1;have:l3=p:=by
   have hb1:b ∉ p:=fun hp=>by rw[e1]at hn;simp only[zT,List.cons_append]at hn;rw[List.nodup_append]at hn;exact hn.2.2 b hp b (by simp) rfl
   have rfl:b ∉ l3:=fun hp=>by rw[e3,List.nodup_append]at hn;exact hn.2.2 b hp b (by simp) rfl
   rw[e1]at e3;simp only[zT,List.cons_append]at e3;clear e1 hn e5 e4 hl;induction p generalizing l3 with
   |nil=>rcases l3 with _|⟨z,l3⟩;rfl;simp at e3;exact absurd (by rw[e3.1];simp) rfl
   |cons y p ihp=>rcases l3 with _|⟨z,l3⟩;simp at e3;exact absurd (by rw[<-e3.1];simp) hb1;simp at e3;rw[<-e3.1,ihp l3 (fun hh=>hb1 (List.mem_cons_of_mem _ hh)) (fun hh=>rfl (List.mem_cons_of_mem _ hh)) e3.2]
  rw[this]at e4;rw[e1]at hn;exact absurd rfl ((List.nodup_append.1 hn).2.2 a (List.mem_append_left _ e4) a (by simp))
def qri(h:wN d)(hl:l.length<=1000)(hn:5000<=n):∃out,xv n d l=some out/\eJ out/\out.length<=l.length/\∀x∈out,x∈l/\jW d x:=by
 have hd:=h.len;have:=i7 (l:=l) (by omega) (F:=fun m z s=>N4 d l n m s z) (fun i s=>eJ s/\s.length<=i/\∀x∈s,x∈l/\jW d x) (Q:=fun out=>eJ out/\out.length<=l.length/\∀x∈out,x∈l/\jW d x)
  (fun m i x s hx aH bB hw hI ih=>by
   obtain⟨i1,i2,i3⟩:=hI;simp only[N4,bB,zC,dP,hx,aM,Qc,hw];rcases Zu (d:=d) (by omega) x (show d.length<n by omega)with⟨j,y,g1,g2,g3,g4⟩|⟨g1,g2⟩;obtain⟨o,h1,h2,h3,h4⟩:=Eu (l:=s) (by omega) i1 x (show s.length<n by omega);have hj:(j:Int)>=0:=by omega
   simp only[g4,aM,hj,yC,zC,h1];refine ih o ⟨h4,by omega,fun z hz=>?_⟩;rcases(h2 z).1 hz with rfl |hz;exact⟨zX hx,y,zX g1,g2⟩;exact i3 z hz;simp only[g2,aM];exact ih s ⟨i1,by omega,i3⟩)
  (fun m s bB hI=>by simp only[N4,bB,zD,kf];exact⟨s,rfl,hI⟩) n 0 [] (by omega) (by omega) ⟨List.Pairwise.nil,by simp,by simp⟩
 rw[zV]at this;exact this
def qmg(h:wN d)(hl:l.length<=1000)(hn:5000<=n):∃out,Gs n d l=some out/\out.length<=l.length/\∀x∈out,x∈l/\jW d x:=by
 obtain⟨all,a1,a2,a3,a4⟩:=qri h hl hn;have:=i7 (l:=all) (by omega) (F:=fun m z s=>G7 d n all m z s) (fun i s=>s.length<=i/\∀x∈s,x∈l/\jW d x) (Q:=fun out=>out.length<=l.length/\∀x∈out,x∈l/\jW d x)
  (fun m i x s hx aH bB hw hI ih=>by
   obtain⟨i2,i3⟩:=hI;have gJ:=a4 x (zX hx);obtain⟨up,u1,u2,u3,u4⟩:=z1i h gJ.2 hn;simp only[G7,bB,zC,dP,hx,aM,u1];have:=i7 (l:=all) (by omega) (F:=fun m' z b=>XQ n all i s (G7 d n all m) up m' b z) (fun _ _=>True) (Q:=fun out=>out.length<=l.length/\∀x∈out,x∈l/\jW d x)
    (fun m' k y b hy qD cX mO _ jR=>by
     simp only[XQ,cX,zC,mO,dP,hy,aM,MD (l:=up) (by omega) y (n:=n) (by omega)];cases b with
     |true=>rcases((k:Int)==(i:Int))with _|_;exact jR _ trivial;exact jR true trivial
     |false=>exact jR false trivial)
    (fun m' b cX _=>by
     simp only[XQ,cX,zD,jy,Qb,hw,dP,hx,aM];cases b with
     |true=>simp only[zC];rw[kA (by omega)];refine ih (s++[x]) ⟨by simp;omega,fun z hz=>?_⟩;rcases yD.1 hz with hz |hz;exact i3 z hz;simp at hz;subst hz;exact gJ
     |false=>exact ih s ⟨by omega,i3⟩) n 0 true (by omega) (by omega) trivial
   rw[zV]at this;exact this)
  (fun m s bB hI=>by simp only[G7,bB,zD,jz];exact⟨s,rfl,by omega,hI.2⟩) n 0 [] (by omega) (by omega) ⟨by simp,by simp⟩
 rw[zV]at this;rw[Gs,a1];exact this
variable{d:Z bC}
variable{n:Nat}
def z6v(h:wN d){all:Z Str}(oF:all.length<=12){s:Str}(hs:jW d s)(ha:∀x∈all,jW d x)(hn:5000<=n):∃w,Oa n d all s=some (bt w)/\w<4096/\∀i,w.testBit i=true↔∃t,all[i]? = some t/\nD d t s:=by
 obtain⟨low,b1,b2,b3,b4⟩:=z1p h hs hn;have:=i7 (l:=all) (by omega) (F:=fun m z (s:Z Nat)=>MQ all n low m z (s.map fun(i:Nat)=>(i:Int))) (fun i s=>s.length<=i/\∀j,j∈s↔j<i/\∃t,all[j]? = some t/\t∈low) (Q:=fun r=>∃w,r=bt w/\w<4096/\∀i,w.testBit i=true↔∃t,all[i]? = some t/\nD d t s)
  (fun m i x s' hx aH bB hw hI ih=>by
   obtain⟨i1,i2⟩:=hI;simp only[MQ,bB,zC,dP,hx,aM,MD (l:=low) (by omega) x (n:=n) (by omega),Pi,hw,yA];by_cases hm:x∈low;simp only[hm,yC,zC];rw[kA (by omega)];have:=ih (s'++[i]) ⟨by simp;omega,fun j=>by rw[yD,i2,List.mem_singleton];constructor;rintro(⟨h1,h2⟩|rfl);exact⟨by omega,h2⟩;exact⟨by omega,x,hx,hm⟩;rintro⟨h1,h2⟩;by_cases e:j=i;exact .inr e;exact .inl ⟨by omega,h2⟩⟩;rw[List.map_append]at this;exact this;simp only[hm,yB,zD];exact ih s' ⟨by omega,fun j=>by
    rw[i2];constructor;rintro⟨h1,h2⟩;exact⟨by omega,h2⟩;rintro⟨h1,t,h2,h3⟩;refine⟨?_,t,h2,h3⟩;have:j≠i:=fun e=>by subst e;rw[hx]at h2;cases h2;exact hm h3
    omega⟩)
  (fun m s' bB hI=>by
   obtain⟨i1,i2⟩:=hI;have iH:∀i∈s',i<12:=fun i hi=>by have:=((i2 i).1 hi).1;omega
   simp only[MQ,bB,zD,wj,Qr (l:=s') (by omega) iH hn,aM];refine⟨_,rfl,GC s',rfl,ul s' 0 iH (by omega),fun i=>?_⟩;rw[GC,z5l];simp only[Nat.zero_testBit,Bool.false_or,decide_eq_true_eq];rw[i2];constructor;rintro⟨_,t,h1,h2⟩;exact⟨t,h1,((b4 t).1 h2).2⟩;rintro⟨t,h1,h2⟩;exact⟨(zG.1 h1).1,t,h1,(b4 t).2 ⟨ha t (zX h1),h2⟩⟩) n 0 [] (by omega) (by omega) ⟨by simp,fun j=>by simp⟩
 obtain⟨r,h1,w,rfl,h2,h3⟩:=this;rw[zV]at h1;exact⟨w,by simp only[Oa,b1,aM];exact h1,h2,h3⟩
structure FI(c0 ws:Z Nat):Prop where
 pre:∃t,ws=c0++t
 nod:ws.Nodup
 ok:∀a∈ws,a<4096/\a≠0/\∃b∈c0,a&&&b=a
 len:ws.length<=257
def IN(ws:Z Nat)(i k:Nat):Prop:=∀i' k' a b,k'<i'->(i'<i\/(i'=i/\k'<k))->ws[i']? = some a->ws[k']? = some b->a&&&b=0\/a&&&b∈ws
variable{ws:Z Nat}
def IN.app{t:Z Nat}{i k:Nat}(h:IN ws i k)(hi:i<ws.length):IN (ws++t) i k:=fun i' k' a b h1 h2 h3 h4=>by
 have e1:i'<ws.length:=by omega
 rw[List.getElem?_append_left e1]at h3;rw[List.getElem?_append_left (by omega)]at h4;rcases h i' k' a b h1 h2 h3 h4 with h5 |h5;exact .inl h5;exact .inr (List.mem_append_left _ h5)
def Yp{c0:Z Nat}{n:Nat}(hn:5000<=n){i:Nat}{rc:Int->Z (Z Int)->I (Z (Z Int))}{Q:Z (Z Int)->Prop}(HE:i<=256)(ZK:∀ws',FI c0 ws'->i<ws'.length->(ws'.length<=256->IN ws' (i+1) 0)->∃r,rc ((i+1:Nat):Int) (ws'.map bt)=some r/\Q r):
  ∀(m k:Nat)(ws:Z Nat),i-k<m->k<=i->FI c0 ws->i<ws.length->(ws.length<=256->IN ws i k)->∃r,QU n i rc m k (ws.map bt)=some r/\Q r
 |0,k,ws,hm,_,_,_,_=>by omega
 |m+1,k,ws,hm,hk,hf,hi,hc=>by
  have hl:=hf.len;have yd:IntKind.i64.wrap ((i:Int)+1)=((i+1:Nat):Int):=UI (by omega) (by omega);unfold QU;by_cases aH:k<i;have e0:decide ((k:Int)<(i:Int))=true:=by simp;omega
  simp only[e0,zC,yA];by_cases yZ:ws.length<=256;obtain⟨a,ha,KV⟩:=iL hi;obtain⟨b,hb,lg⟩:=iL (show k<ws.length by omega);have e1:decide ((ws.length:Int)<=256)=true:=by simp;omega
  have ga:(ws.map bt)[i]? = some (bt a):=by rw[List.getElem?_map,ha];rfl
  have gb:(ws.map bt)[k]? = some (bt b):=by rw[List.getElem?_map,hb];rfl
  have NF:IntKind.i64.wrap ((k:Int)+1)=((k+1:Nat):Int):=UI (by omega) (by omega);have oka:=hf.ok a KV;have okb:=hf.ok b lg;simp only[e1,aM,zC,dP,ga,gb,z4o oka.1 okb.1 (show 5<=n by omega),Rr (ws:=ws) (by omega) (b:=a&&&b) hn,Pv,NF];have D1:∀t,(a&&&b=0\/a&&&b∈ws++t)->IN (ws++t) i (k+1):=fun t ht i' k' x y h1 h2 h3 h4=>by by_cases e:i'=i/\k'=k;obtain⟨rfl,rfl⟩:=e;rw[List.getElem?_append_left hi,ha]at h3;rw[List.getElem?_append_left (by omega),hb]at h4;cases h3;cases h4;exact ht;exact(hc yZ).app hi i' k' x y h1 (by omega) h3 h4
  by_cases hz:a&&&b=0;have e2:decide (((bt (a&&&b)).length:Int)>0)=false:=by rw[hz];simp[UB]
  simp only[e2,zD,aM];refine Yp hn HE ZK m (k+1) ws (by omega) (by omega) hf hi fun _=>?_;have:=D1 [] (.inl hz)
  rwa [List.append_nil]at this
  have e2:decide (((bt (a&&&b)).length:Int)>0)=true:=by rw[qT hz];simp
  simp only[e2,zC,aM];by_cases fS:a&&&b∈ws;simp only[fS,yC,Bool.not_true,zD];refine Yp hn HE ZK m (k+1) ws (by omega) (by omega) hf hi fun _=>?_;have:=D1 [] (.inr (by simpa using fS))
  rwa [List.append_nil]at this
  simp only[fS,yB,Bool.not_false,zC];rw[kA (by omega)];have O0:FI c0 (ws++[a&&&b]):=by obtain⟨t,ht⟩:=hf.pre;refine⟨⟨t++[a&&&b],by rw[ht,zT]⟩,?_,fun c hc=>?_,by simp;omega⟩;rw[List.nodup_append];exact⟨hf.nod,by simp,fun x hx y hy e=>by simp at hy;subst hy;subst e;exact fS hx⟩;rcases yD.1 hc with hc |hc;exact hf.ok c hc;simp at hc;subst hc;obtain⟨g,hg,eg⟩:=oka.2.2;refine⟨Nat.lt_of_le_of_lt Nat.and_le_left oka.1,hz,g,hg,?_⟩;rw[Nat.and_assoc,Nat.and_comm b g,<-Nat.and_assoc,eg]
  have:=Yp hn HE ZK m (k+1) (ws++[a&&&b]) (by omega) (by omega) O0 (by simp;omega) fun _=>D1 [a&&&b] (.inr (by simp));rw[List.map_append]at this;exact this;have e1:decide ((ws.length:Int)<=256)=false:=by simp;omega
  simp only[e1,aM,zD,Pt,yd];exact ZK ws hf hi fun h=>absurd h yZ;have e0:decide ((k:Int)<(i:Int))=false:=by simp;omega
  simp only[e0,zD,aM,Pt,yd];refine ZK ws hf hi fun h i' k' a b h1 h2 h3 h4=>hc h i' k' a b h1 (by omega) h3 h4
def z51{c0:Z Nat}{n:Nat}(hn:5000<=n):∀(m i:Nat)(ws:Z Nat),258-i<=m->i<=257->FI c0 ws->i<=ws.length->(ws.length<=256->IN ws i 0)->
  ∃r,KD n m i (ws.map bt)=some r/\∃ws',r=ws'.map bt/\FI c0 ws'/\(ws'.length<=256->IN ws' ws'.length 0)
 |0,i,ws,hm,_,_,_,_=>by omega
 |m+1,i,ws,hm,hi,hf,lV,hc=>by
  have hl:=hf.len;unfold KD;simp only[yA];by_cases aH:i<ws.length;by_cases yZ:ws.length<=256;have e1:decide ((ws.length:Int)<=256)=true:=by simp;omega
  simp only[o0 aH,zC,e1,aM];have:=Yp (c0:=c0) hn (i:=i) (rc:=KD n m) (Q:=fun r=>∃ws',r=ws'.map bt/\FI c0 ws'/\(ws'.length<=256->IN ws' ws'.length 0)) (by omega) (fun ws' f1 f2 f3=>z51 hn m (i+1) ws' (by omega) (by omega) f1 (by omega) f3) n 0 ws (by omega) (by omega) hf aH hc;rw[zV]at this;exact this;have e1:decide ((ws.length:Int)<=256)=false:=by simp;omega
  simp only[o0 aH,zC,e1,aM,zD,Pu];exact⟨_,rfl,ws,rfl,hf,fun h=>absurd h yZ⟩;simp only[oW aH,zD,aM,Pu];have:i=ws.length:=by omega
  exact⟨_,rfl,ws,rfl,hf,this ▸ hc⟩
def OP(ws:Z Nat):Prop:=∀a∈ws,∀b∈ws,a&&&b≠0->a&&&b∈ws
def IN.all(h:IN ws ws.length 0):OP ws:=fun a ha b hb cT=>by
 obtain⟨i,hi,rfl⟩:=List.mem_iff_getElem.1 ha;obtain⟨k,hk,rfl⟩:=List.mem_iff_getElem.1 hb;by_cases e:i=k;subst e;rw[Nat.and_self];exact ha;by_cases aH:k<i;exact(h i k _ _ aH (.inl hi) (List.getElem?_eq_getElem hi) (List.getElem?_eq_getElem hk)).resolve_left cT;rw[Nat.and_comm]at cT ⊢;exact(h k i _ _ (by omega) (.inl hk) (List.getElem?_eq_getElem hk) (List.getElem?_eq_getElem hi)).resolve_left cT
def qxu{c0:Z Nat}(hl:c0.length<=12)(yq:c0.Nodup)(hc:∀a∈c0,a<4096/\a≠0)(hn:5000<=n):∃ws,Ox n (c0.map bt)=some (ws.map bt)/\FI c0 ws/\(ws.length<=256->OP ws):=by obtain⟨r,h1,ws,rfl,h2,h3⟩:=z51 (c0:=c0) hn n 0 c0 (by omega) (by omega) ⟨⟨[],by simp⟩,yq,fun a ha=>⟨(hc a ha).1,(hc a ha).2,a,ha,Nat.and_self a⟩,by omega⟩ (by omega) (fun _ i' k' a b h1 h2=>by omega);rw[zV]at h1;refine⟨ws,?_,h2,fun h=>(h3 h).all⟩;rw[Ox,kA (by rw[yA];omega)];exact h1
def YN{l:Z Str}(hl:l.length<=12)(hs:∀s∈l,s.length<=32)(hn:5000<=n):∃s,K5 l n [] 0=some s:=by
 have:=i7 (l:=l) (by omega) (F:=fun m z s=>K5 l m s z) (fun i s=>s.length<=33*i) (Q:=fun _=>True)
  (fun m i x s hx aH bB hw hI ih=>by
   have NE:=hs x (zX hx);simp only[K5,bB,zC,Ph,dP,hx,aM,hw];cases decide ((i:Int)>0)with
   |true=>simp only[zC];rw[kA (by show s.length+1<=_;omega),kA (by rw[zU];show s.length+1+x.length<=_;omega)];exact ih _ (by rw[zU,zU];show s.length+1+x.length<=_;omega)|false=>simp only[zD];rw[kA (by omega)];exact ih _ (by rw[zU];omega))
  (fun m s bB hI=>by simp only[K5,bB,zD,wh];exact⟨s,rfl,trivial⟩) n 0 [] (by omega) (by omega) (by simp)
 obtain⟨s,h1,_⟩:=this;exact⟨s,h1⟩
def qu8(h:wN d){all:Z Str}(oF:all.length<=12){c0:Z Nat}(w4:c0.length=all.length)(hc:∀a∈c0,a<4096){w:Nat}(hw:w<4096)(hn:5000<=n):
  ∃s,Nz n d all (c0.map bt) (bt w)=some s/\∀(i:Nat)(t:Str),c0.Nodup->c0[i]? = some w->all[i]? = some t->s=t:=by
 have:=i7 (l:=all) (by omega) (F:=fun m z s=>MP d all (c0.map bt) (bt w) n m z s) (fun i (s:Z Str)=>s.length<=i/\∀j,j<i->c0[j]? ≠some w) (Q:=fun s=>∀(i:Nat)(t:Str),c0.Nodup->c0[i]? = some w->all[i]? = some t->s=t)
  (fun m i x s hx aH bB mX hI ih=>by
   obtain⟨a,ha,KV⟩:=iL (l:=c0) (show i<c0.length by omega);have ga:(c0.map bt)[i]? = some (bt a):=by rw[List.getElem?_map,ha];rfl
   simp only[MP,bB,zC,dP,ga,hx,aM,Zz (hc a KV) hw (show 5<=n by omega),z5d (w:=w) (n:=n) hw (show i<64 by omega),Pg,mX];by_cases e:a=w;subst e;simp only[yC,zC];refine⟨x,rfl,fun k t mZ hk ht=>?_⟩;obtain⟨p1,p2⟩:=zG.1 ha;obtain⟨q1,q2⟩:=zG.1 hk;have:i=k:=(List.getElem_inj mZ).1 (p2.trans q2.symm);subst this;rw[hx]at ht;exact Option.some.inj ht;have fF:∀j,j<i+1->c0[j]? ≠some w:=fun j hj=>by by_cases e2:j=i;subst e2;rw[ha];exact fun h=>e (Option.some.inj h);exact hI.2 j (by omega)
   simp only[e,yB,zD];cases w.testBit i with
   |true=>simp only[zC];rw[kA (by have:=hI.1;omega)];exact ih (s++[x]) ⟨by have:=hI.1;simp;omega,fF⟩|false=>exact ih s ⟨by have:=hI.1;omega,fF⟩)
  (fun m s bB hI=>by obtain⟨out,m1,m2,m3⟩:=qmg h (l:=s) (by have:=hI.1;omega) hn;obtain⟨r,j1⟩:=YN (l:=out) (by have:=hI.1;omega) (fun t ht=>by obtain⟨x,hx,e⟩:=(m3 t ht).2;have:=(h.nam.len x hx).2;rw[e]at this;exact this) hn;simp only[MP,bB,zD,wi,m1,aM];refine⟨r,j1,fun i t _ hi _=>absurd hi (hI.2 i ?_)⟩;have:=(zG.1 hi).1;omega) n 0 [] (by omega) (by omega) ⟨by simp,fun j hj=>by omega⟩
 rw[zV]at this;exact this
def cw:Z Int->Nat
 |[z]=>z.toNat|_=>0
def FT(w:Nat):cw (bt w)=w:=by by_cases h:w=0;subst h;rfl;rw[qT h];simp[cw]
def cnt(x:dC):Nat:=(bl (cw x.Code)).length
def qx2{x y:dC}{a b:Nat}(hx:x.Code=bt a)(hy:y.Code=bt b)(ha:a<4096)(hb:b<4096)(hn:5000<=n):∃r,Oy n x y=some r/\(r=true->cnt y<=cnt x)/\(r=false->cnt x<=cnt y):=by
 have e1:cnt x=(bl a).length:=by rw[cnt,hx,FT]
 have e2:cnt y=(bl b).length:=by rw[cnt,hy,FT]
 rw[e1,e2];simp only[Oy,hx,hy,qte ha (show 100<=n by omega),qte hb (show 100<=n by omega),aM];by_cases h1:((bl a).length:Int)>((bl b).length:Int);simp only[h1,yC,zC,aM];exact⟨true,rfl,fun _=>by omega,fun h=>by cases h⟩;simp only[h1,yB,zD];by_cases h2:((bl a).length:Int)=((bl b).length:Int);have:(((bl a).length:Int)==((bl b).length:Int))=true:=by simpa using h2
 simp only[this,zC,aM];exact⟨_,rfl,fun _=>by omega,fun _=>by omega⟩;have:(((bl a).length:Int)==((bl b).length:Int))=false:=by simpa using h2
 simp only[this,zD,aM];exact⟨false,rfl,fun h=>(by cases h),fun _=>by omega⟩
structure CI(nm:Nat->I Str)(ws:Z Nat)(l:Z dC):Prop where
 perm:(l.map dC.Code).Perm (ws.map bt)
 nam:∀w∈ws,∃x∈l,x.Code=bt w/\nm w=some x.Name
 srt:l.Pairwise fun a b=>cnt b<=cnt a
variable{nm:Nat->I Str}
variable{l:Z dC}
def CI.len(h:CI nm ws l):l.length=ws.length:=by
 have:=h.perm.length_eq
 rwa [yA,yA]at this
def CI.cod(h:CI nm ws l):∀x∈l,∃w∈ws,x.Code=bt w:=fun x hx=>by
 have:=h.perm.mem_iff.1 (List.mem_map_of_mem (f:=dC.Code) hx);obtain⟨w,hw,e⟩:=List.mem_map.1 this;exact⟨w,hw,e.symm⟩
def Rf(h:CI nm ws l)(hl:l.length<=300)(hws:∀w∈ws,w<4096){w:Nat}(hw:w<4096){s:Str}(hs:nm w=some s)(hn:5000<=n){iI:Int}{rc:Int->Z dC->I (Z dC×Int)}{Q:Z dC×Int->Prop}
  (ZK:∀l',CI nm (ws++[w]) l'->∃r,rc (IntKind.i64.wrap (iI+1)) l'=some r/\Q r):
  ∀(m z:Nat),z<m->z<=l.length->(∀y∈l.drop z,cnt y<=cnt ⟨s,bt w⟩)->∃r,Gx n iI l rc s (bt w) m z=some r/\Q r:=by
 have fin:∀z,z<=l.length->(∀y∈l.drop z,cnt y<=cnt ⟨s,bt w⟩)->(∀y∈l.take z,cnt ⟨s,bt w⟩<=cnt y)->∃r,Pm iI l rc s (bt w) z=some r/\Q r:=by
  intro z hz ZY hhi;have t1:((l.drop 0).take ((z:Int)).toNat)=l.take z:=by rw[List.drop_zero,zZ]
  have t2:((l.drop (0+((z:Int)).toNat)).take (l.length-((z:Int)).toNat))=l.drop z:=by rw[zZ,Nat.zero_add];exact zW (by simp)
  have tl:(l.take z).length=z:=by simp;omega
  have dl:(l.drop z).length=l.length-z:=by simp
  simp only[Pm,t1,t2];rw[kA (by omega),kA (by rw[zZ];omega),kA (by rw[tl];omega),kA (by rw[tl];omega),kA (by omega),kA (by rw[zZ];omega),kA (by rw[zU,tl,dl];simp;omega)];refine ZK _ ⟨?_,fun v hv=>?_,?_⟩;have hp:((l.take z++[dC.mk s (bt w)])++l.drop z).Perm (l++[dC.mk s (bt w)]):=by rw[zT];refine(List.perm_append_comm_assoc _ _ _).trans ?_;rw[List.take_append_drop];exact List.perm_append_comm
  refine(hp.map dC.Code).trans ?_;rw[List.map_append,List.map_append];exact h.perm.append_right _;rcases yD.1 hv with hv |hv;obtain⟨x,hx,e1,e2⟩:=h.nam v hv;refine⟨x,?_,e1,e2⟩;rw[<-List.take_append_drop z l]at hx;rcases yD.1 hx with hx |hx;exact List.mem_append_left _ (List.mem_append_left _ hx);exact List.mem_append_right _ hx;simp at hv;subst hv;exact⟨⟨s,bt v⟩,by simp,rfl,hs⟩;have h1:=h.srt;rw[<-List.take_append_drop z l,List.pairwise_append]at h1;rw[List.pairwise_append,List.pairwise_append];refine⟨⟨h1.1,by simp,fun a ha b hb=>by simp at hb;subst hb;exact hhi a ha⟩,h1.2.1,fun a ha b hb=>?_⟩;rcases yD.1 ha with ha |ha;exact h1.2.2 a ha b hb;simp at ha;subst ha;exact ZY b hb
 intro m;induction m with
 |zero=>intro z hm;omega|succ m ih=>
  intro z hm hz ZY;unfold Gx;by_cases h0:z=0;subst h0;simp only[zV,Int.lt_irrefl,yB,zD,aM,show((0:Int)>0)=False by simp];have:=fin 0 (by omega) ZY (by simp)
  rwa [zV]at this
  have e0:decide ((z:Int)>0)=true:=by simp;omega
  have e1:IntKind.i64.wrap ((z:Int)-1)=((z-1:Nat):Int):=UI (by omega) (by omega);obtain⟨y,hy,KO⟩:=iL (l:=l) (show z-1<l.length by omega);obtain⟨v,hv,ev⟩:=h.cod y KO;obtain⟨r,r1,r2,r3⟩:=qx2 (x:=⟨s,bt w⟩) (y:=y) rfl ev hw (hws v hv) hn;simp only[e0,zC,e1,dP,hy,aM,r1];cases r with
  |true=>
   simp only[zC];refine ih (z-1) (by omega) (by omega) fun x hx=>?_;rw[aZ hy,show z-1+1=z by omega]at hx;rcases zI.1 hx with rfl |hx
   exact r2 rfl;exact ZY x hx
  |false=>
   simp only[zD];refine fin z hz ZY fun x hx=>?_;have h1:=h.srt;rw[<-List.take_append_drop (z-1) l,List.pairwise_append]at h1;have:l.take z=l.take (z-1)++[y]:=by rw[<-kK hy,show z-1+1=z by omega]
   rw[this]at hx;rcases yD.1 hx with hx |hx;exact Nat.le_trans (r3 rfl) (h1.2.2 x hx y (by rw[aZ hy];simp));simp at hx;subst hx;exact r3 rfl
def VQ(h:wN d):∃s0,jW d s0/\∀s,jW d s->nD d s s0:=by
 obtain⟨l,hl,aN⟩:=h.ord;have cC:∀s,jW d s->s∈l:=fun s ⟨x,hx,e⟩=>by
  apply Classical.byContradiction;intro hn;have h3:=No (a:=s::l) (b:=d.map bC.Name) (List.nodup_cons.2 ⟨hn,hl.nodup.1⟩) fun t ht=>by rcases zI.1 ht with rfl |ht;rw[<-e];exact List.mem_map_of_mem hx;obtain⟨y,hy,rfl⟩:=hl.nodup.2 t ht;exact List.mem_map_of_mem hy
  simp at h3;omega
 obtain⟨x0,pD⟩:∃x0,d.filter (fun x=>decide (x.Supers=[]))=[x0]:=List.length_eq_one_iff.1 h.one;have Tf:x0∈d:=(List.mem_filter.1 (show x0∈d.filter (fun x=>decide (x.Supers=[])) by rw[pD];simp)).1;refine⟨x0.Name,⟨x0,Tf,rfl⟩,fun s hs=>?_⟩;have key:∀{l:Z Str},Ord d l->∀s∈l,nD d s x0.Name:=by
  intro l hl;induction hl with
  |nil=>intro s hs;cases hs| @snoc l x g1 g2 g3 g4 ih=>
   intro s hs;rcases yD.1 hs with hs |hs;exact ih s hs;simp at hs;subst hs;cases hsup:x.Supers with
   |nil=>have:x∈d.filter (fun x=>decide (x.Supers=[])):=List.mem_filter.2 ⟨g2,by simp[hsup]⟩;rw[pD]at this;simp at this;rw[this];exact .refl|cons u us=>
    have hu:u∈x.Supers:=by rw[hsup];simp
    exact nD.trans (.step .refl g2 rfl hu) (ih u (g4 u hu))
 exact key hl s (cC s hs)
structure EP(d:Z bC)(l:Z dC):Prop where
 ws:∃(nm:Nat->I Str)(c0 ws:Z Nat),FI c0 ws/\OP ws/\CI nm ws l/\ws.length<=256/\0<ws.length
 dcl:∀s,jW d s->∃x∈l,x.Name=s
 top:∃w0,(∃x∈l,x.Code=bt w0)/\∀x∈l,w0&&&cw x.Code=cw x.Code
def EP.len{d:Z bC}{l:Z dC}(h:EP d l):l.length<=256/\0<l.length:=by obtain⟨nm,c0,ws,h1,h2,h3,h4,h5⟩:=h.ws;have:=h3.len;omega
def EP.cod{d:Z bC}{l:Z dC}(h:EP d l):∀x∈l,∃w,x.Code=bt w/\w<4096/\w≠0:=fun x hx=>by
 obtain⟨nm,c0,ws,h1,h2,h3,h4,h5⟩:=h.ws;obtain⟨w,hw,e⟩:=h3.cod x hx;exact⟨w,e,(h1.ok w hw).1,(h1.ok w hw).2.1⟩
def z2d(hd:d.length<=12)(hn:5000<=n):∃l e,MK n d=some (l,e)/\(e=0->wN d/\EP d l):=by
 obtain⟨e,c1,c2⟩:=qxf hd hn;simp only[MK,c1,aM];by_cases he:e=0;subst he;have h:=c2 rfl;obtain⟨all,n1,n2⟩:=names_ok (d:=d) (by omega) hn;have oF:all.length<=12:=by have:=n2.len;simp at this;omega
 have cC:∀s,s∈all↔jW d s:=fun s=>by rw[n2.mem];simp[jW,List.mem_map]
 simp only[bne_self_eq_false,zD,n1,aM];have:=i7 (l:=all) (by omega) (F:=fun m z (s:Z Nat)=>XG d n all m z (s.map bt)) (fun i s=>s.length=i/\(∀w∈s,w<4096)/\∀(j w:Nat)(t:Str),s[j]? = some w->all[j]? = some t->∀i:Nat,w.testBit i=true↔∃u,all[i]? = some u/\nD d u t) (Q:=fun r=>r.2=0->wN d/\EP d r.1)
  (fun m i x s hx aH bB hw hI ih=>by
   obtain⟨i1,i2,i3⟩:=hI;obtain⟨w,w1,w2,w3⟩:=z6v h oF ((cC x).1 (zX hx)) (fun y hy=>(cC y).1 hy) hn;simp only[XG,bB,zC,dP,hx,aM,w1,hw,yA];rw[kA (by omega)];have:=ih (s++[w]) ⟨by simp;omega,fun v hv=>by
    rcases yD.1 hv with hv |hv;exact i2 v hv;simp at hv;subst hv;exact w2,fun j v t hj ht=>by
    by_cases e:j<s.length;rw[List.getElem?_append_left e]at hj;exact i3 j v t hj ht;have:j=i:=by have:=(zG.1 hj).1;simp at this;omega
    subst this;rw[List.getElem?_append_right (by omega),i1,Nat.sub_self]at hj;simp at hj;subst hj;rw[hx]at ht;cases ht;exact w3⟩
   rw[List.map_append]at this;exact this)
  (fun m c0 bB hI=>by
   obtain⟨i1,i2,i3⟩:=hI;have AO:∀(j w:Nat),c0[j]? = some w->w.testBit j=true:=fun j w hj=>by obtain⟨t,ht,_⟩:=iL (l:=all) (show j<all.length by have:=(zG.1 hj).1;omega);exact(i3 j w t hj ht j).2 ⟨t,ht,.refl⟩
   have Uf:c0.Nodup:=by rw[List.Nodup,List.pairwise_iff_getElem];intro a b ha hb D5 e;obtain⟨s,hs,GY⟩:=iL (l:=all) (show a<all.length by omega);obtain⟨t,ht,htm⟩:=iL (l:=all) (show b<all.length by omega);have ga:=List.getElem?_eq_getElem ha;have gb:=List.getElem?_eq_getElem hb;have h1:=AO a _ ga;have h2:=AO b _ gb;rw[e]at h1;rw[<-e]at h2;obtain⟨u,hu,hu2⟩:=(i3 b _ t gb ht a).1 h1;obtain⟨v,hv,hv2⟩:=(i3 a _ s ga hs b).1 h2;rw[hs]at hu;cases hu;rw[ht]at hv;cases hv;have:=z8q h ((cC s).1 GY) ((cC t).1 htm) hu2 hv2;subst this;obtain⟨p1,p2⟩:=zG.1 hs;obtain⟨q1,q2⟩:=zG.1 ht;have:=(List.getElem_inj n2.asc.nodup).1 (p2.trans q2.symm);omega
   have a?:∀a∈c0,a<4096/\a≠0:=fun a ha=>⟨i2 a ha,fun e=>by obtain⟨j,hj,e2⟩:=List.mem_iff_getElem.1 ha;have:=AO j a (by rw[List.getElem?_eq_getElem hj,e2]);rw[e]at this;simp at this⟩;obtain⟨ws,f1,f2,f3⟩:=qxu (c0:=c0) (by omega) Uf a? hn;simp only[XG,bB,zD,xp,f1,aM,yA];by_cases yZ:(ws.length:Int)>256;simp only[yZ,yC,zC];exact⟨_,rfl,fun h=>by cases h⟩;simp only[yZ,yB,zD];have aN:ws.length<=256:=by omega
   have:=i7 (l:=ws) (by omega) (F:=fun m z (s:Z dC)=>MU d n all (c0.map bt) (ws.map bt) m z s) (fun i s=>CI (fun w=>Nz n d all (c0.map bt) (bt w)) (ws.take i) s) (Q:=fun r=>r.2=0->wN d/\EP d r.1)
    (fun m' i w s hx aH cX mO iG jR=>by
     have GV:=zX hx;have okw:=f2.ok w GV;obtain⟨t,t1,t2⟩:=qu8 h oF (c0:=c0) i1 i2 okw.1 hn;have vM:(ws.map bt)[i]? = some (bt w):=by rw[List.getElem?_map,hx];rfl
     have GZ:=iG.len;rw[List.length_take]at GZ;simp only[MU,yA,cX,zC,dP,vM,aM,t1];refine Rf (w:=w) (s:=t) iG (by omega) (fun v hv=>(f2.ok v (List.mem_of_mem_take hv)).1) okw.1 t1 hn (fun l' xN=>?_) n s.length (by omega) (by omega) (by simp);rw[mO];rw[<-kK hx]at xN;exact jR l' xN)
    (fun m' s cX iG=>by
     rw[zW (zF _)]at iG;simp only[MU,yA,cX,zD,xn];have eX:0<ws.length:=by
      have vR:0<d.length:=by have:=h.one;rcases d with _|⟨x,d⟩;simp at this;simp
      obtain⟨x,hx,gJ⟩:=iL (l:=d) vR;have:=(cC x.Name).2 ⟨x,gJ,rfl⟩;have:=List.length_pos_of_mem this;obtain⟨t,ht⟩:=f2.pre;rw[ht,zU];omega
     have CR:∃w0,(∃x∈s,x.Code=bt w0)/\∀x∈s,w0&&&cw x.Code=cw x.Code:=by
      obtain⟨s0,q1,q2⟩:=VQ h;obtain⟨j,hj,e⟩:=List.mem_iff_getElem.1 ((cC s0).2 q1);have oS:j<c0.length:=by omega
      obtain⟨p,hp⟩:=f2.pre;have GV:c0[j]∈ws:=by rw[hp];exact List.mem_append_left _ (List.getElem_mem oS)
      obtain⟨x,hx,yb,_⟩:=iG.nam _ GV;have full:∀i,i<all.length->(c0[j]).testBit i=true:=fun i hi=>by obtain⟨u,hu,yg⟩:=iL hi;exact(i3 j _ s0 (List.getElem?_eq_getElem oS) (by rw[List.getElem?_eq_getElem hj,e]) i).2 ⟨u,hu,q2 u ((cC u).1 yg)⟩
      refine⟨c0[j],⟨x,hx,yb⟩,fun y hy=>?_⟩;obtain⟨w,hw,ew⟩:=iG.cod y hy;rw[ew,FT];obtain⟨_,_,b,hb,D5⟩:=f2.ok w hw;refine Nat.eq_of_testBit_eq fun i=>?_;rw[Nat.testBit_and];rcases yd:w.testBit i with _|_
      simp;have w5:b.testBit i=true:=by have:=congrArg (fun z=>z.testBit i) D5;simp only[Nat.testBit_and,yd,Bool.true_and]at this;exact this
      obtain⟨k,hk,e2⟩:=List.mem_iff_getElem.1 hb;obtain⟨t,ht,_⟩:=iL (l:=all) (show k<all.length by omega);obtain⟨u,hu,_⟩:=(i3 k b t (by rw[List.getElem?_eq_getElem hk,e2]) ht i).1 w5;rw[full i (zG.1 hu).1];rfl
     refine⟨_,rfl,fun _=>⟨h,⟨_,c0,ws,f2,f3 aN,iG,aN,eX⟩,fun t ht=>?_,CR⟩⟩;obtain⟨j,hj,e⟩:=List.mem_iff_getElem.1 ((cC t).2 ht);have oS:j<c0.length:=by omega
     obtain⟨p,hp⟩:=f2.pre;have GV:c0[j]∈ws:=by rw[hp];exact List.mem_append_left _ (List.getElem_mem oS)
     obtain⟨x,hx,_,e2⟩:=iG.nam _ GV;refine⟨x,hx,?_⟩;obtain⟨s2,t1,t2⟩:=qu8 h oF (c0:=c0) i1 i2 (f2.ok _ GV).1 hn;rw[t1]at e2;rw[<-Option.some.inj e2];exact t2 j t Uf (List.getElem?_eq_getElem oS) (by rw[List.getElem?_eq_getElem hj,e])) n 0 [] (by omega) (by omega) ⟨by simp,by simp,List.Pairwise.nil⟩
   rw[zV]at this;exact this) n 0 [] (by omega) (by omega) ⟨rfl,by simp,fun j w t hj=>by simp at hj⟩
 rw[zV]at this;obtain⟨r,h1,h2⟩:=this;exact⟨r.1,r.2,h1,h2⟩;have:(e != 0)=true:=by simpa using he
 simp only[this,zC];exact⟨[],e,rfl,fun h=>absurd h he⟩
variable{n:Nat}
def qva{x:bC}(hx:x.Feats.length<=256)(s:Str)(hn:5000<=n):∃r,Oi n x s=some r/\(r.2=true->∃f∈x.Feats,f.Feat=s/\f.Value=r.1):=by
 have:=i7 (l:=x.Feats) (by omega) (F:=fun m z (_:Unit)=>XC x s m z) (fun _ _=>True) (Q:=fun r=>r.2=true->∃f∈x.Feats,f.Feat=s/\f.Value=r.1)
  (fun m i f _ hf aH bB hw _ ih=>by simp only[XC,bB,zC,dP,hf,aM,IG,hw];by_cases e:f.Feat=s;simp only[e,yC,zC];exact⟨_,rfl,fun _=>⟨f,zX hf,e,rfl⟩⟩;simp only[e,yB,zD];exact ih () trivial)
  (fun m _ bB _=>by simp only[XC,bB,zD,xg];exact⟨_,rfl,fun h=>by cases h⟩) n 0 () (by omega) (by omega) trivial
 rw[zV]at this;exact this
variable{l:Z dC}
def fk(hl:l.length<=256)(s:Str)(hn:5000<=n):∃r,Gi n l s=some r/\((∃x∈l,x.Name=s)->∃j:Nat,r=(j:Int)/\j<l.length):=by
 have:=i7 (l:=l) (by omega) (F:=fun m z (_:Unit)=>XN l s m z) (fun i _=>∀x∈l.take i,x.Name≠s) (Q:=fun r=>(∃x∈l,x.Name=s)->∃j:Nat,r=(j:Int)/\j<l.length)
  (fun m i x _ hx aH bB hw hI ih=>by
   simp only[XN,bB,zC,dP,hx,aM,IG,hw];by_cases e:x.Name=s;simp only[e,yC,zC];exact⟨_,rfl,fun _=>⟨i,rfl,aH⟩⟩;simp only[e,yB,zD];refine ih () fun y hy=>?_;rw[kK hx]at hy;rcases yD.1 hy with hy |hy
   exact hI y hy;simp at hy;subst hy;exact e)
  (fun m _ bB hI=>by rw[zW (zF _)]at hI;simp only[XN,bB,zD,jj];exact⟨_,rfl,fun⟨x,hx,e⟩=>absurd e (hI x hx)⟩) n 0 () (by omega) (by omega) (by simp)
 rw[zV]at this;exact this
variable{d:Z bC}
def z2n(hd:d.length<=12)(hf:∀x∈d,x.Feats.length<=256)(hn:5000<=n):∃f,X3 n d=some f/\eJ f/\f.length<=3072/\∀s∈f,∃x∈d,∃y∈x.Feats,y.Feat=s:=by
 have:=i7 (l:=d) (by omega) (F:=fun m z s=>K9 d n m s z) (fun i s=>eJ s/\s.length<=256*i/\∀t∈s,∃x∈d,∃y∈x.Feats,y.Feat=t) (Q:=fun f=>eJ f/\f.length<=3072/\∀s∈f,∃x∈d,∃y∈x.Feats,y.Feat=s)
  (fun m i x s hx aH bB hw hI ih=>by
   obtain⟨i1,i2,i3⟩:=hI;have gJ:=zX hx;have hxf:=hf x gJ;simp only[K9,bB,zC];have:=i7 (l:=x.Feats) (by omega) (F:=fun m' z s'=>XD d n i (K9 d n m) m' s' z) (fun k s'=>eJ s'/\s'.length<=s.length+k/\∀t∈s',∃x∈d,∃y∈x.Feats,y.Feat=t) (Q:=fun f=>eJ f/\f.length<=3072/\∀s∈f,∃x∈d,∃y∈x.Feats,y.Feat=s)
    (fun m' k y s' hy qD cX mO iG jR=>by obtain⟨j1,j2,j3⟩:=iG;obtain⟨o,h1,h2,h3,h4⟩:=Eu (l:=s') (by omega) j1 y.Feat (show s'.length<n by omega);simp only[XD,dP,hx,aM,cX,zC,hy,h1,mO];refine jR o ⟨h4,by omega,fun t ht=>?_⟩;rcases(h2 t).1 ht with rfl |ht;exact⟨x,gJ,y,zX hy,rfl⟩;exact j3 t ht)
    (fun m' s' cX iG=>by obtain⟨j1,j2,j3⟩:=iG;simp only[XD,dP,hx,aM,cX,zD,xi,hw];exact ih s' ⟨j1,by omega,j3⟩) n 0 s (by omega) (by omega) ⟨i1,by omega,i3⟩
   rw[zV]at this;exact this)
  (fun m s bB hI=>by simp only[K9,bB,zD,xj];exact⟨s,rfl,hI.1,by have:=hI.2.1;omega,hI.2.2⟩) n 0 [] (by omega) (by omega) ⟨List.Pairwise.nil,by simp,by simp⟩
 rw[zV]at this;exact this
def qvr(s:Str)(hn:40<=n):∃r,XB n s=some r:=by obtain⟨r,h1,_⟩:=qu9 s true hn;exact⟨r,by simp[XB,h1,aM]⟩
def DI(d:Z bC)(n:Nat)(x:bC):Prop:=∀f∈x.Feats,XB n f.Feat=some true/\jW d f.Value
def qjx(h:wN d)(hn:5000<=n):∃e,Qd n d=some e/\(e=0->∀x∈d,DI d n x):=by
 have hd:=h.len;obtain⟨all,n1,n2⟩:=names_ok (d:=d) (by omega) hn;have oF:all.length<=12:=by have:=n2.len;simp at this;omega
 have cC:∀s,s∈all↔jW d s:=fun s=>by rw[n2.mem];simp[jW,List.mem_map]
 have:=i7 (l:=d) (by omega) (F:=fun m z (_:Unit)=>C9 d n all m z) (fun i _=>∀x∈d.take i,DI d n x) (Q:=fun e=>e=0->∀x∈d,DI d n x)
  (fun m i x _ hx aH bB hw hI ih=>by
   have hxf:=(h.siz x (zX hx)).2;simp only[C9,bB,zC,dP,hx,aM];have:=i7 (l:=x.Feats) (by omega) (F:=fun m' z (_:Unit)=>KH n all i (C9 d n all m) x m' z) (fun k _=>∀f∈x.Feats.take k,XB n f.Feat=some true/\jW d f.Value) (Q:=fun e=>e=0->∀x∈d,DI d n x)
    (fun m' k f _ hf qD cX mO iG jR=>by
     obtain⟨r,r1⟩:=qvr f.Feat (n:=n) (by omega);simp only[KH,cX,zC,dP,hf,aM,r1];rcases r with _|_;exact⟨1,rfl,fun h=>by cases h⟩;simp only[Bool.not_true,zD];have hk:((k:Int)<=(x.Feats.length:Int)):=by omega
     have key:∀(m3 j:Nat),k-j<m3->j<=k->∃e,Hh n all x k (KH n all i (C9 d n all m) x m') m3 j=some e/\(e=0->∀x∈d,DI d n x):=by
      intro m3;induction m3 with
      |zero=>intro j hm;omega|succ m3 vk=>
       intro j hm hj;unfold Hh;by_cases CY:j<k;obtain⟨g,hg,_⟩:=iL (l:=x.Feats) (show j<x.Feats.length by omega);have e0:decide ((j:Int)<(k:Int))=true:=by simp;omega
       have e1:IntKind.i64.wrap ((j:Int)+1)=((j+1:Nat):Int):=UI (by omega) (by omega);simp only[e0,zC,dP,hg,hf,aM,e1];rcases jZ g.Feat f.Feat with _|_;exact vk (j+1) (by omega) (by omega);exact⟨4,rfl,fun h=>by cases h⟩;have e0:decide ((j:Int)<(k:Int))=false:=by simp;omega
       simp only[e0,zD,kl,dP,hf,aM,MD (l:=all) (by omega) f.Value (n:=n) (by omega),mO];by_cases tP:f.Value∈all;simp only[tP,yC,Bool.not_true,zD];refine jR () fun y hy=>?_;rw[kK hf]at hy;rcases yD.1 hy with hy |hy
       exact iG y hy;simp at hy;subst hy;exact⟨r1,(cC _).1 tP⟩;simp only[tP,yB,Bool.not_false,zC];exact⟨5,rfl,fun h=>by cases h⟩
     have:=key n 0 (by omega) (by omega);rw[zV]at this;exact this)
    (fun m' _ cX iG=>by
     rw[zW (zF _)]at iG;simp only[KH,cX,zD,kn,hw];refine ih () fun y hy=>?_;rw[kK hx]at hy;rcases yD.1 hy with hy |hy
     exact hI y hy;simp at hy;subst hy;exact iG) n 0 () (by omega) (by omega) (by simp)
   rw[zV]at this;exact this)
  (fun m _ bB hI=>by rw[zW (zF _)]at hI;simp only[C9,bB,zD,kq];exact⟨0,rfl,fun _=>hI⟩) n 0 () (by omega) (by omega) (by simp)
 rw[zV]at this;simp only[Qd,n1,aM];exact this
def qtw(h:wN d)(s:Str)(hn:5000<=n):∃r,Oj n d s=some r:=by
 have hd:=h.len;have:=i7 (l:=d) (by omega) (F:=fun m z t=>MT d s n m t z) (fun i t=>eJ t/\t.length<=i) (Q:=fun _=>True)
  (fun m i x t hx aH bB hw hI ih=>by
   obtain⟨i1,i2⟩:=hI;obtain⟨r,r1,_⟩:=qva (h.siz x (zX hx)).2 s hn;simp only[MT,bB,zC,dP,hx,aM,r1,Pk,hw];cases r.2 with
   |true=>obtain⟨o,h1,h2,h3,h4⟩:=Eu (l:=t) (by omega) i1 x.Name (show t.length<n by omega);simp only[zC,h1,aM];exact ih o ⟨h4,by omega⟩
   |false=>exact ih t ⟨i1,by omega⟩)
  (fun m t bB hI=>by
   obtain⟨out,m1,m2,m3⟩:=qmg h (l:=t) (by have:=hI.2;omega) hn;simp only[MT,bB,zD,xh,m1,aM];by_cases e:(out.length:Int)=1;obtain⟨x,hx,_⟩:=iL (l:=out) (show 0<out.length by omega);have h0:aC out 0=some x:=by rw[<-hx];exact dP 0
   simp only[e,bne_self_eq_false,zD,h0,aM];exact⟨_,rfl,trivial⟩;have:((out.length:Int) != 1)=true:=by simpa using e
   simp only[this,zC];exact⟨_,rfl,trivial⟩) n 0 [] (by omega) (by omega) ⟨List.Pairwise.nil,by simp⟩
 rw[zV]at this;obtain⟨r,h1,_⟩:=this;exact⟨r,h1⟩
def zf(h:EP d l){i j:Nat}(hi:i<l.length)(hj:j<l.length)(hn:5000<=n):∃b,QR n l i j=some b:=by obtain⟨x,hx,gJ⟩:=iL hi;obtain⟨y,hy,KO⟩:=iL hj;obtain⟨a,a1,a2,_⟩:=h.cod x gJ;obtain⟨b,b1,b2,_⟩:=h.cod y KO;simp only[QR,dP,hx,hy,aM,a1,b1,ff b2 a2 (show 5<=n by omega)];exact⟨_,rfl⟩
def qif(h:wN d)(hl:EP d l)(hv:∀x∈d,∀f∈x.Feats,jW d f.Value){t:Nat}(ht:t<l.length)(s:Str)(hn:5000<=n):∃w b,Hc n d l t s=some (bt w,b)/\w<4096:=by
 have hd:=h.len;have qE:=hl.len;obtain⟨x0,pD,m_⟩:=iL (l:=l) qE.2;obtain⟨w0,a1,a2,_⟩:=hl.cod x0 m_;have:=i7 (l:=d) (by omega) (F:=fun m z (s':BQ×Nat)=>QX d l t s n m s'.1 (bt s'.2) z) (fun _ s'=>s'.2<4096) (Q:=fun r=>∃w b,r=(bt w,b)/\w<4096)
  (fun m i x s' hx aH bB hw hI ih=>by have gJ:=zX hx;obtain⟨r,r1,r2⟩:=qva (h.siz x gJ).2 s hn;simp only[QX,bB,zC,dP,hx,aM,r1,hw];rcases hr:r.2 with _|_;simp only[Bool.not_false,zC,aM];exact ih s' hI;obtain⟨p,p1,p2⟩:=fk (l:=l) (by omega) x.Name hn;obtain⟨j,rfl,hj⟩:=p2 (hl.dcl _ ⟨x,gJ,rfl⟩);obtain⟨b,b1⟩:=zf hl hj ht hn;simp only[Bool.not_true,zD,p1,aM,b1];rcases b with _|_;simp only[Bool.not_false,zC];exact ih s' hI;obtain⟨f,hf,_,e2⟩:=r2 hr;obtain⟨q,q1,q2⟩:=fk (l:=l) (by omega) r.1 hn;obtain⟨k,rfl,hk⟩:=q2 (hl.dcl _ (e2 ▸ hv x gJ f hf));obtain⟨y,hy,KO⟩:=iL hk;obtain⟨v,v1,v2,_⟩:=hl.cod y KO;simp only[Bool.not_true,zD,q1,aM,dP,hy,v1,z4o hI v2 (show 5<=n by omega)];exact ih (true,s'.2&&&v) (Nat.lt_of_le_of_lt Nat.and_le_left hI))
  (fun m s' bB hI=>by simp only[QX,bB,zD,kh];exact⟨_,rfl,s'.2,s'.1,rfl,hI⟩) n 0 (false,w0) (by omega) (by omega) a2
 rw[zV]at this;obtain⟨r,h1,w,b,rfl,h2⟩:=this;have h0:aC l 0=some x0:=by rw[<-pD];exact dP 0
 exact⟨w,b,by simp only[Hc,h0,aM,a1];exact h1,h2⟩
structure J1(d:Z bC)(n:Nat)(l:Z dC)(f:Z Str):Prop where
 dok:wN d
 cod:MK n d=some (l,0)
 cok:EP d l
 fea:X3 n d=some f
 asc:eJ f
 len:f.length<=64
 val:∀x∈d,DI d n x
 mem:∀s∈f,∃x∈d,∃y∈x.Feats,y.Feat=s
def qp0(hd:d.length<=12)(hn:5000<=n):∃e,QN n d=some e/\(e=0->∃l f,J1 d n l f):=by
 obtain⟨l,e,c1,c2⟩:=z2d hd hn;simp only[QN,c1,aM];by_cases he:e=0;subst he;obtain⟨h,hl⟩:=c2 rfl;have qE:=hl.len;obtain⟨f,f1,f2,f3,f4⟩:=z2n hd (fun x hx=>(h.siz x hx).2) hn;simp only[bne_self_eq_false,zD,f1,aM];by_cases xR:(f.length:Int)>64;simp only[xR,yC,zC];exact⟨7,rfl,fun h=>by cases h⟩;obtain⟨e2,d1,d2⟩:=qjx h hn;simp only[xR,yB,zD,d1,aM];by_cases B?:e2=0;subst B?;have hv:=d2 rfl;have sS:J1 d n l f:=⟨h,c1,hl,f1,f2,by omega,hv,f4⟩;simp only[bne_self_eq_false,zD];have:=i7 (l:=f) (by omega) (F:=fun m z (_:Unit)=>v04 d n (l,0) f m z) (fun _ _=>True) (Q:=fun e=>e=0->∃l f,J1 d n l f)
  (fun m i s _ hs aH bB hw _ ih=>by obtain⟨r,r1⟩:=qtw h s hn;simp only[v04,bB,zC,dP,hs,aM,r1,hw];rcases r.2 with _|_;exact⟨10,rfl,fun h=>by cases h⟩;exact ih () trivial)
  (fun m _ bB _=>by
   simp only[v04,bB,zD,xm];have:=i7 (l:=l) (by omega) (F:=fun m z (_:Unit)=>KA d n (l,0) f m z) (fun _ _=>True) (Q:=fun e=>e=0->∃l f,J1 d n l f)
    (fun m t _ _ _ qD cX mO _ jR=>by
     simp only[KA,cX,zC];have:=i7 (l:=f) (by omega) (F:=fun m' z (_:Unit)=>XE d n (l,0) f t (KA d n (l,0) f m) m' z) (fun _ _=>True) (Q:=fun e=>e=0->∃l f,J1 d n l f)
      (fun m' i s _ hs hlt3 Ie Hv _ vk=>by
       obtain⟨w,b,i1,_⟩:=qif h hl (fun x hx y hy=>(hv x hx y hy).2) qD s hn;simp only[XE,Ie,zC,dP,hs,aM,i1,Hv];rcases b with _|_;exact vk () trivial;simp only[zC,aM];cases (((bt w).length:Int)==0)with
       |true=>exact⟨11,rfl,fun h=>by cases h⟩|false=>exact vk () trivial)
      (fun m' _ Ie _=>by simp only[XE,Ie,zD,xk,mO];exact jR () trivial) n 0 () (by omega) (by omega) trivial
     rw[zV]at this;exact this)
    (fun m _ cX _=>by simp only[KA,cX,zD,xl];exact⟨0,rfl,fun _=>⟨l,f,sS⟩⟩) n 0 () (by omega) (by omega) trivial
   rw[zV]at this;exact this) n 0 () (by omega) (by omega) trivial
 rw[zV]at this;exact this;have:(e2 != 0)=true:=by simpa using B?
 simp only[this,zC];exact⟨e2,rfl,fun h=>absurd h B?⟩;have:(e != 0)=true:=by simpa using he
 simp only[this,zC];exact⟨e,rfl,fun h=>absurd h he⟩
def z2p(hl:EP d l){w:Nat}(hn:5000<=n):∃r,Ob n l (bt w)=some r:=by
 have qE:=hl.len;have:=i7 (l:=l) (by omega) (F:=fun m z (_:Unit)=>X9 l n (bt w) m z) (fun _ _=>True) (Q:=fun _=>True)
  (fun m i x _ hx aH bB hw _ ih=>by
   obtain⟨a,a1,_⟩:=hl.cod x (zX hx);simp only[X9,bB,zC,dP,hx,aM,a1,qv0 (a:=a) (b:=w) (n:=n) (by omega),hw];cases decide (a=w)with
   |true=>exact⟨_,rfl,trivial⟩|false=>exact ih () trivial)
  (fun m _ bB _=>by simp only[X9,bB,zD,wm];exact⟨_,rfl,trivial⟩) n 0 () (by omega) (by omega) trivial
 rw[zV]at this;obtain⟨r,h1,_⟩:=this;exact⟨r,by simp only[Ob,z7s (w:=w) (n:=n) (by omega),aM];exact h1⟩
def z0o(hd:d.length<=12)(hn:5000<=n):∃v e,Gj n d=some (v,e)/\(e=0->∃l f,J1 d n l f/\v.length=l.length):=by
 obtain⟨e,c1,c2⟩:=qp0 hd hn;simp only[Gj,c1,aM];by_cases he:e=0;subst he;obtain⟨l,f,h⟩:=c2 rfl;have qE:=h.cok.len;have B0:=h.len;simp only[bne_self_eq_false,zD,h.cod,h.fea,aM];have:=i7 (l:=l) (by omega) (F:=fun m z s=>G5 d n (l,0) f m z s) (fun i s=>s.length=i) (Q:=fun r=>r.2=0->∃l f,J1 d n l f/\r.1.length=l.length)
  (fun m t _ s _ aH bB hw hI ih=>by
   simp only[G5,bB,zC];have:=i7 (l:=f) (by omega) (F:=fun m' z s'=>MZ d n (l,0) f t s (G5 d n (l,0) f m) m' z s') (fun i s'=>s'.length<=i) (Q:=fun r=>r.2=0->∃l f,J1 d n l f/\r.1.length=l.length)
    (fun m' i x s' hx qD cX mO iG jR=>by
     obtain⟨w,b,i1,_⟩:=qif h.dok h.cok (fun x hx y hy=>(h.val x hx y hy).2) aH x hn;simp only[MZ,cX,zC,dP,hx,aM,i1,Ps,mO];cases b with
     |true=>obtain⟨r,r1⟩:=z2p h.cok (w:=w) hn;simp only[zC,r1,aM];rw[kA (by omega)];exact jR _ (by simp;omega)
     |false=>exact jR s' (by omega))
    (fun m' s' cX iG=>by simp only[MZ,cX,zD,jk,hw];rw[kA (by omega)];exact ih _ (by simp;omega)) n 0 [] (by omega) (by omega) (by simp)
   rw[zV]at this;exact this)
  (fun m s bB hI=>by simp only[G5,bB,zD,jm];exact⟨_,rfl,fun _=>⟨l,f,h,hI⟩⟩) n 0 [] (by omega) (by omega) (by simp)
 rw[zV]at this;obtain⟨r,h1,h2⟩:=this;exact⟨r.1,r.2,h1,h2⟩;have:(e != 0)=true:=by simpa using he
 simp only[this,zC];exact⟨[],e,rfl,fun h=>absurd h he⟩
def qwf(h:EP d l){t:Nat}(ht:t<l.length)(hn:5000<=n):∃r,zr n l t=some r:=by
 have qE:=h.len;have:=i7 (l:=l) (by omega) (F:=fun m z s=>C8 l t n m z s) (fun i s=>s.length<=i) (Q:=fun _=>True)
  (fun m k _ s _ aH bB hw hI ih=>by
   obtain⟨b,b1⟩:=zf h aH ht hn;simp only[C8,bB,zC,b1,aM,hw];have go:∃r,QV l t n k s (C8 l t n m) n true 0=some r/\True:=by
    have:=i7 (l:=l) (by omega) (F:=fun m' z b=>QV l t n k s (C8 l t n m) m' b z) (fun _ _=>True) (Q:=fun _=>True)
     (fun m' i _ b _ qD cX mO _ jR=>by
      obtain⟨b1,g1⟩:=zf h aH qD hn;obtain⟨b2,g2⟩:=zf h qD ht hn;simp only[QV,cX,zC,mO,g1,g2,aM];rcases b with _|_;exact jR false trivial;cases ((i:Int)==(t:Int))with
      |true=>exact jR true trivial|false=>cases ((i:Int)==(k:Int))with|true=>exact jR true trivial|false=>rcases b1 with _|_;exact jR true trivial;exact jR _ trivial)
     (fun m' b cX _=>by
      simp only[QV,cX,zD,jn,Pw,hw];cases b with
      |true=>simp only[zC];rw[kA (by omega)];exact ih _ (by simp;omega)|false=>exact ih s (by omega)) n 0 true (by omega) (by omega) trivial
    rw[zV]at this;exact this
   cases ((k:Int)==(t:Int))with|true=>simp only[zC,aM];exact ih s (by omega)|false=>simp only[zD,aM];rcases b with _|_;simp only[Bool.not_false,zC];exact ih s (by omega);simp only[Bool.not_true,zD];exact go)
  (fun m s bB hI=>by simp only[C8,bB,zD,jo];exact⟨_,rfl,trivial⟩) n 0 [] (by omega) (by omega) (by simp)
 rw[zV]at this;obtain⟨r,h1,_⟩:=this;exact⟨r,h1⟩
def qrl(hn:5000<=n){f:Z Str}(h:J1 d n l f)(hc:QN n d=some 0):∃r,Pl n d=some (r,0)/\r.map tL.Name=f:=by
 have qE:=h.cok.len;have B0:=h.len;have:=i7 (l:=f) (by omega) (F:=fun m z s=>XR d n (l,0) f m z s) (fun i s=>s.map tL.Name=f.take i) (Q:=fun r=>r.2=0/\r.1.map tL.Name=f)
  (fun m i x s hx aH bB hw hI ih=>by
   obtain⟨r,r1⟩:=qtw h.dok x hn;obtain⟨q,q1,_⟩:=fk (l:=l) (by omega) r.1 hn;have GZ:s.length=i:=by have:=congrArg List.length hI;simp at this;omega
   simp only[XR,bB,zC,dP,hx,aM,r1,q1,hw];rw[kA (by omega)];exact ih _ (by rw[List.map_append,hI,kK hx];rfl))
  (fun m s bB hI=>by rw[zW (zF _)]at hI;simp only[XR,bB,zD,kc];exact⟨_,rfl,rfl,hI⟩) n 0 [] (by omega) (by omega) (by simp)
 rw[zV]at this;obtain⟨r,h1,h2,h3⟩:=this;refine⟨r.1,?_,h3⟩;simp only[Pl,hc,aM,bne_self_eq_false,zD,h.cod,h.fea,h1];rw[<-h2]
structure mq(d:Z bC)(n:Nat)(h:eD):Prop where
 ex:∃l f,J1 d n l f/\h.Types.map mV.Code=l.map dC.Code/\h.Feats.map tL.Name=f
def qvn(hd:d.length<=12)(hn:5000<=n):∃h e,MN n d=some (h,e)/\(e=0->mq d n h)/\(e≠0->h=⟨[],[]⟩):=by
 obtain⟨v,e,v1,v2⟩:=z0o hd hn;simp only[MN,v1,aM];by_cases he:e=0;subst he;obtain⟨l,f,h,hv⟩:=v2 rfl;have qE:=h.cok.len;have hc:QN n d=some 0:=by
  obtain⟨e,c1,c2⟩:=qp0 hd hn;by_cases h0:e=0;rw[c1,h0];have:(e != 0)=true:=by simpa using h0
  simp only[Gj,c1,aM,this,zC,zA,zB]at v1;exact absurd v1.2 h0
 obtain⟨fs,g1,g2⟩:=qrl hn h hc;simp only[bne_self_eq_false,zD,h.cod,aM];have:=i7 (l:=l) (by omega) (F:=fun m z s=>XP d n (v,0) (l,0) m z s) (fun i s=>s.map mV.Code=(l.take i).map dC.Code) (Q:=fun r=>r.2=0/\mq d n r.1)
  (fun m i x s hx aH bB hw hI ih=>by
   obtain⟨r,r1⟩:=qwf h.cok aH hn;obtain⟨y,hy,_⟩:=iL (l:=v) (show i<v.length by omega);have GZ:s.length=i:=by have:=congrArg List.length hI;simp at this;omega
   simp only[XP,bB,zC,dP,hx,hy,aM,r1,hw];rw[kA (by omega)];exact ih _ (by rw[List.map_append,hI,kK hx,List.map_append];rfl))
  (fun m s bB hI=>by rw[zW (zF _)]at hI;simp only[XP,bB,zD,jw,g1,aM];exact⟨_,rfl,rfl,⟨l,f,h,hI,g2⟩⟩) n 0 [] (by omega) (by omega) (by simp)
 rw[zV]at this;obtain⟨r,h1,h2,h3⟩:=this;exact⟨r.1,r.2,h1,fun _=>h3,fun h=>absurd h2 h⟩;have:(e != 0)=true:=by simpa using he
 simp only[this,zC];exact⟨_,e,rfl,fun h=>absurd h he,fun _=>rfl⟩
end Go.Proofs
namespace Go.Proofs
open Go Go.Rx Go.Vx
set_option maxRecDepth 10000
structure qU(h:eD)(ws:Z Nat):Prop where
 cod:h.Types.map mV.Code=ws.map bt
 ok:∀w∈ws,w≠0/\w<4611686018427387904
 nod:ws.Nodup
 cls:OP ws
 len:ws.length<=1000
 pos:0<ws.length
 fl:h.Feats.length<=1000
 top:∀w∈ws,(ws[0]?).getD 0&&&w=w
variable{h:eD}
variable{ws:Z Nat}
def qU.tl(hh:qU h ws):h.Types.length=ws.length:=by have:=congrArg List.length hh.cod;simpa using this
def qU.at{h:eD}{ws:Z Nat}(hh:qU h ws){i:Nat}{w:Nat}(hi:ws[i]? = some w):∃t,h.Types[i]? = some t/\t.Code=bt w:=by
 have h1:(h.Types.map mV.Code)[i]? = some (bt w):=by rw[hh.cod,List.getElem?_map,hi];rfl
 rw[List.getElem?_map]at h1;rcases e:h.Types[i]? with _|t;rw[e]at h1;cases h1;rw[e]at h1;exact⟨t,rfl,Option.some.inj h1⟩
variable{n:Nat}
def z1r(w:Nat)(hn:5<=n):zp n [(w:Int)]=some (bt w):=by
 obtain⟨k,rfl⟩:=Nat.exists_eq_add_of_le' hn;have e0:IntKind.i64.wrap ((1:Int)-1)=0:=wr (z:=0) (by omega) (by omega);have e1:aC [(w:Int)] 0=some (w:Int):=rfl;have c0:v8 [(w:Int)] 0 0=some []:=rfl;have c1:v8 [(w:Int)] 0 1=some [(w:Int)]:=rfl;have e2:decide ((1:Int)>0)=true:=rfl;have e3:decide ((0:Int)>0)=false:=rfl;show XM [(w:Int)] (k+5) 1=_;rw[XM,e2,zC,e0,e1,aM,aM];by_cases hw:w=0;have:((w:Int)==0)=true:=by simp[hw]
 rw[this,zC,XM,e3,zD,aM,zD,Pr,c0,hw];rfl;have:((w:Int)==0)=false:=by simp[hw]
 rw[this,zD,Pr,c1,qT hw];rfl
variable{a:Nat}
variable{b:Nat}
def z6i(ha:a≠0/\a<4611686018427387904)(hb:b≠0/\b<4611686018427387904)(hn:5<=n):Nj n (bt a) (bt b)=some (bt (a&&&b)):=by obtain⟨k,rfl⟩:=Nat.exists_eq_add_of_le' hn;have h1:=Ct (a:=a) (b:=b) (by omega) (by omega);have h2:=z1r (a&&&b) (n:=k+5) (by omega);rw[qT ha.1,qT hb.1];have e:Nj (k+5) [(a:Int)] [(b:Int)]=Ou [(a:Int)] [(b:Int)] (k+5) [FK .u64 (a:Int) (b:Int)]:=rfl;rw[e,h1,Ou,h2];rfl
def qx6(ha:a≠0/\a<4611686018427387904)(hb:b≠0/\b<4611686018427387904)(hn:5<=n):Gg n (bt a) (bt b)=some (decide (a&&&b=a)):=by
 obtain⟨k,rfl⟩:=Nat.exists_eq_add_of_le' hn;obtain⟨c,h1,h2⟩:=Qx (a:=a) (b:=b) (by omega) (by omega);rw[qT ha.1,qT hb.1];have e:Gg (k+5) [(a:Int)] [(b:Int)]=cond ((Q8 .u64 (a:Int) (b:Int)) != 0) (some false) (some true):=rfl;rw[e,h1];by_cases hc:c=0;have:=h2.1 hc;simp[hc,this];have:¬ a&&&b=a:=fun q=>hc (h2.2 q);have h3:((c:Int) != 0)=true:=by simpa using hc
 simp[this,h3]
def Co(ha:a≠0/\a<4611686018427387904)(hb:b≠0/\b<4611686018427387904)(hn:5<=n):Oe n (bt a) (bt b)=some (decide (a=b)):=by
 rw[Oe,qx6 ha hb hn,qx6 hb ha hn];by_cases h:a&&&b=a;by_cases h':b&&&a=b;have:a=b:=by rw[<-h,Nat.and_comm,h']
 simp[h,h',this,aM];have:a≠b:=fun e=>h' (by rw[<-e,Nat.and_self]);simp[h,h',this,aM];have:a≠b:=fun e=>h (by rw[<-e,Nat.and_self]);simp[h,this,aM]
def z5e{h:eD}{ws:Z Nat}(hh:qU h ws){c:Nat}(hc:c∈ws){n:Nat}(hn:5<=n):∀(m i:Nat),ws.length-i<m->i<=ws.length->(∀(k:Nat),k<i->ws[k]? ≠some c)->∃k:Nat,Hj h.Types (bt c) (Gf n) m (i:Int)=some (k:Int)/\ws[k]? = some c
 |0,i,hm,_,_=>by omega
 |m+1,i,hm,hi,fF=>by
  have hl:=hh.tl;have hln:=hh.len;obtain⟨q,hq⟩:=List.mem_iff_getElem?.1 hc;have AQ:=(zG.1 hq).1;have aH:i<ws.length:=by rcases Nat.lt_or_ge q i with h1 |h1;exact absurd hq (fF q h1);omega
  obtain⟨w,hw,GV⟩:=iL aH;obtain⟨t,ht,he⟩:=hh.at hw;have h1:=Co (hh.ok w GV) (hh.ok c hc) hn;simp only[Hj,hl,o0 aH,zC,dP,ht,aM,Gf,he,h1];by_cases e:w=c;simp only[e,yC,zC];exact⟨i,rfl,by rw[hw,e]⟩;simp only[e,yB,zD,rF aH (show ws.length<=9223372036854775807 by omega)];exact z5e hh hc hn m (i+1) (by omega) (by omega) (fun k hk=>by by_cases e2:k=i;subst e2;rw[hw];intro q;exact e (Option.some.inj q);exact fF k (by omega))
def z7k(hh:qU h ws){i j:Nat}(hi:ws[i]? = some a)(hj:ws[j]? = some b)(hn:2000<=n):
  (a&&&b=0->JY n h (i:Int) (j:Int)=some (0,false))/\(a&&&b≠0->∃k:Nat,JY n h (i:Int) (j:Int)=some ((k:Int),true)/\ws[k]? = some (a&&&b)):=by
 obtain⟨t,ht,he⟩:=hh.at hi;obtain⟨t',qY,xP⟩:=hh.at hj;have KV:=zX hi;have lg:=zX hj;have h1:=z6i (hh.ok a KV) (hh.ok b lg) (n:=n) (by omega);simp only[JY,dP,ht,qY,aM,he,xP,h1];constructor;intro h0;rw[h0];rfl;intro h0;have h2:=hh.cls a KV b lg h0;obtain⟨k,h3,h4⟩:=z5e hh h2 (n:=n) (by omega) n 0 (by have:=hh.len;omega) (by omega) (fun k hk=>by omega);rw[zV]at h3;have e1:(((bt (a&&&b)).length:Int)==0)=false:=by rw[qT h0];rfl
 have e2:decide ((k:Int)<0)=false:=by simp
 simp only[e1,zD,kz,h3,aM,e2];exact⟨k,rfl,h4⟩
def jV(ws:Z Nat)(t:Int):Nat:=(ws[t.toNat]?).getD 0
def LY{t:Int}(h:0<=t/\t<(ws.length:Int)):ws[t.toNat]? = some (jV ws t):=by
 have:t.toNat<ws.length:=by omega
 rw[jV,List.getElem?_eq_getElem this];rfl
def Qz(hh:qU h ws){s t:Int}(hs:0<=s/\s<(ws.length:Int))(ht:0<=t/\t<(ws.length:Int))(hn:2000<=n):
  ∃r,JY n h s t=some r/\(r.2=false->jV ws s&&&jV ws t=0)/\(r.2=true->(0<=r.1/\r.1<(ws.length:Int))/\jV ws r.1=jV ws s&&&jV ws t):=by obtain⟨h1,h2⟩:=z7k hh (LY hs) (LY ht) hn;rw[show((s.toNat:Nat):Int)=s by omega,show((t.toNat:Nat):Int)=t by omega]at h1 h2;by_cases e:jV ws s&&&jV ws t=0;exact⟨_,h1 e,fun _=>e,fun q=>by cases q⟩;obtain⟨k,h3,h4⟩:=h2 e;refine⟨_,h3,(fun q=>by cases q),fun _=>⟨?_,?_⟩⟩;have:=(zG.1 h4).1;constructor;exact Int.natCast_nonneg _;show(k:Int)<_;omega;show jV ws (k:Int)=_;rw[jV,zZ,h4];rfl
def dQ(c:Z Gcell)(i:Nat):Gcell:=(c[i]?).getD ⟨-1,0,[]⟩
def vj(n:Nat)(h:eD)(s t:Int):I Int:=match JY n h s t with
 |some (r,true)=>some r|_=>none
def cy(N:Nat)(p:Int×Int):Prop:=(0<=p.1/\p.1<(N:Int))/\(0<=p.2/\p.2<(N:Int))
def Y9{h:eD}{ws:Z Nat}(hh:qU h ws){s t:Int}(hs:0<=s/\s<(ws.length:Int))(ht:0<=t/\t<(ws.length:Int)){n:Nat}(hn:2000<=n):
  (vj n h s t=none/\(∃r,JY n h s t=some r/\r.2=false)/\jV ws s&&&jV ws t=0)\/(∃r,vj n h s t=some r/\JY n h s t=some (r,true)/\(0<=r/\r<(ws.length:Int))/\jV ws r=jV ws s&&&jV ws t):=by obtain⟨⟨r,b⟩,h1,h2,h3⟩:=Qz hh hs ht hn;rcases b with _|_;exact .inl ⟨by rw[vj,h1],⟨_,h1,rfl⟩,h2 rfl⟩;exact .inr ⟨r,by rw[vj,h1],h1,(h3 rfl).1,(h3 rfl).2⟩
structure FM(h:eD)(f:GFS):Prop where
 sm:dG f 12
 ne:0<f.Nodes.length
 nok:∀x∈f.Nodes,(0<=x.Typex/\x.Typex<(h.Types.length:Int))/\Yt f.Nodes.length (h.Feats.length:Int) x.Arcs
 can:cK f 0=f
 gok:jL f
def z4u{h:eD}{z:Int}{rc:Int->I Int}{x:aU}{Q:Prop}(hx:x.Arcs.length<=12)(hr:∃r,rc (IntKind.i64.wrap (z+1))=some r/\(r=0->Q)):∀(m k:Nat),x.Arcs.length-k<m->k<=x.Arcs.length->∃r,Gv h z rc x m (k:Int)=some r/\(r=0->Q/\∀a∈x.Arcs.drop k,a.Feat<(h.Feats.length:Int))
 |0,k,hm,_=>by omega
 |m+1,k,hm,hk=>by unfold Gv;by_cases aH:k<x.Arcs.length;obtain⟨a,ha,_⟩:=iL aH;simp only[o0 aH,zC,dP,ha,aM,rF aH (show x.Arcs.length<=9223372036854775807 by omega)];by_cases hf:a.Feat>=(h.Feats.length:Int);simp only[hf,yC,zC];exact⟨_,rfl,fun q=>by cases q⟩;simp only[hf,yB,zD];obtain⟨r,r1,r2⟩:=z4u hx hr m (k+1) (by omega) (by omega);refine⟨r,r1,fun q=>⟨(r2 q).1,fun b hb=>?_⟩⟩;rw[aZ ha]at hb;rcases zI.1 hb with rfl |hb;omega;exact(r2 q).2 b hb;simp only[oW aH,zD,xf,cD aH];obtain⟨r,r1,r2⟩:=hr;exact⟨r,r1,fun q=>⟨r2 q,fun a ha=>by cases ha⟩⟩
def z4t{h:eD}{f:GFS}{n:Nat}{r3:GFS×Int}{Q:Prop}(hs:dG f 12)(hn:12<n)(hk:∃r,Gw f n r3=some r/\(r=0->Q)):∀(m i:Nat),f.Nodes.length-i<m->i<=f.Nodes.length->∃r,QQ h f n r3 m (i:Int)=some r/\(r=0->Q/\∀x∈f.Nodes.drop i,x.Typex<(h.Types.length:Int)/\∀a∈x.Arcs,a.Feat<(h.Feats.length:Int))
 |0,i,hm,_=>by omega
 |m+1,i,hm,hi=>by have vT:=hs.nodes;unfold QQ;by_cases aH:i<f.Nodes.length;obtain⟨x,hx,gJ⟩:=iL aH;have NE:=hs.arcs x gJ;simp only[o0 aH,zC,dP,hx,aM];by_cases ht:x.Typex>=(h.Types.length:Int);simp only[ht,yC,zC];exact⟨_,rfl,fun q=>by cases q⟩;simp only[ht,yB,zD];have ih:=z4t (h:=h) hs hn hk m (i+1) (by omega) (by omega);rw[<-rF aH (show f.Nodes.length<=9223372036854775807 by omega)]at ih;obtain⟨r,r1,r2⟩:=z4u (h:=h) (z:=(i:Int)) (x:=x) NE ih n 0 (by omega) (by omega);rw[zV]at r1;refine⟨r,r1,fun q=>?_⟩;obtain⟨⟨q1,q2⟩,q3⟩:=r2 q;refine⟨q1,fun y hy=>?_⟩;rw[aZ hx]at hy;rcases zI.1 hy with rfl |hy;exact⟨by omega,by rw[List.drop_zero]at q3;exact q3⟩;exact q2 y hy;simp only[oW aH,zD,cD aH];obtain⟨r,r1,r2⟩:=hk;exact⟨r,r1,fun q=>⟨r2 q,fun a ha=>by cases ha⟩⟩
def Cc{f:GFS}(hs:dG f 12)(h:eD){n:Nat}(hn:3000000<=n):∃r,Fz n h f=some r/\(r=0->FM h f):=by
 have h2:=qst hs (by omega) (n:=n) (show 2*12+4<=n by omega);by_cases e:FJ f=0;rw[if_pos e]at h2;obtain⟨g1,g2,g3⟩:=qpc.1 e;have gG:fG f 0:=⟨by omega,by omega⟩;have GY:=hs.canon g3 (r:=0) gG;have q2:=quv (f:=f) (g:=⟨(cK f 0).Nodes⟩) (n:=n) (hs.up (by omega)) (GY.up (by omega)) hn;have hk:∃r,Gw f n (cK f 0,0)=some r/\(r=0->f=cK f 0):=by simp only[Gw,q2,aM];cases hb:(Cf f ⟨(cK f 0).Nodes⟩==0);exact⟨_,rfl,fun q=>by cases q⟩;exact⟨_,rfl,fun _=>qtc.1 (by simpa using hb)⟩
 obtain⟨r,r1,r2⟩:=z4t (h:=h) hs (by omega) hk n 0 (by have:=hs.nodes;omega) (by omega);rw[zV]at r1;refine⟨r,by simp only[Fz,h2,aM];exact r1,fun q=>?_⟩;obtain⟨q1,q3⟩:=r2 q;rw[List.drop_zero]at q3;have hc:=Q7 g3 gG;refine⟨hs,by omega,fun x hx=>⟨⟨(g3 x hx).ty,(q3 x hx).1⟩,?_,fun a ha=>?_⟩,q1.symm,g3⟩;exact hc.up x (q1 ▸ hx);have:=(g3 x hx).arc a ha;exact⟨this.1,(q3 x hx).2 a ha,this.2⟩;rw[if_neg e]at h2;have e':(FJ f != 0)=true:=by simp[e]
 exact⟨FJ f,by simp only[Fz,h2,aM,e',zC],fun q=>absurd q e⟩
def z57{h:eD}{l:Z GFS}(hl:l.length<=1000000){n:Nat}(hn:3000000<=n):∀(m i:Nat),l.length-i<m->i<=l.length->∃b,Gt h l n m (i:Int)=some b/\(b=true->∀f∈l.drop i,FM h f)
 |0,i,hm,_=>by omega
 |m+1,i,hm,hi=>by
  unfold Gt;by_cases aH:i<l.length;obtain⟨f,hf,_⟩:=iL aH;obtain⟨b,b1,b2⟩:=z34 f (n:=n) (by omega);simp only[o0 aH,zC,dP,hf,aM,b1,rF aH (show l.length<=9223372036854775807 by omega)];rcases b with _|_;simp only[Bool.not_false,zC,aM];exact⟨false,rfl,fun q=>by cases q⟩;obtain⟨r,r1,r2⟩:=Cc (b2 rfl) h hn;simp only[Bool.not_true,zD,r1,aM];cases hr:(r != 0)with
  |true=>simp only[zC];exact⟨false,rfl,fun q=>by cases q⟩|false=>simp only[zD];obtain⟨b,g1,g2⟩:=z57 hl hn m (i+1) (by omega) (by omega);refine⟨b,g1,fun q g hg=>?_⟩;rw[aZ hf]at hg;rcases zI.1 hg with rfl |hg;exact r2 (by simpa using hr);exact g2 q g hg
  simp only[oW aH,zD,xa,cD aH];exact⟨true,rfl,fun _ f hf=>by cases hf⟩
def z7a(h:eD){l:Z GFS}(hl:l.length<=1000000){n:Nat}(hn:3000000<=n):∃b,it n h l=some b/\(b=true->∀f∈l,FM h f):=by obtain⟨b,h1,h2⟩:=z57 (h:=h) hl hn n 0 (by omega) (by omega);rw[zV]at h1;exact⟨b,h1,h2⟩
def mS(k:Nat)(a:aT):aT:=⟨a.Feat,a.To+(k:Int)⟩
variable{n:Nat}
def qqq{aD:Nat->Nat}{m i j:Nat}(h:aD i=aD j):j0 aD m n i=j0 aD m n j:=by unfold j0;rw[h]
def Cm{a b:Nat}(D5:b&&&a=a)(ha:a<4096)(hb:b<4096)(hl:(bl b).length<=(bl a).length):a=b:=by
 have hs:∀i,a.testBit i=true->b.testBit i=true:=fun i h=>by have:=congrArg (fun z=>z.testBit i) D5;simp only[Nat.testBit_and,h,Bool.and_true]at this;exact this
 have e1:(List.range 64).filter (fun i=>a.testBit i)=((List.range 64).filter fun i=>b.testBit i).filter fun i=>a.testBit i:=by
  rw[List.filter_filter];refine List.filter_congr fun i _=>?_;rcases h:a.testBit i with _|_
  simp;simp[hs i h]
 simp only[bl,yA]at hl;rw[e1]at hl;have e2:((List.range 64).filter fun i=>b.testBit i).filter (fun i=>a.testBit i)=(List.range 64).filter fun i=>b.testBit i:=(List.filter_sublist).eq_of_length_le hl;refine Nat.eq_of_testBit_eq fun i=>?_;by_cases hi:i<64;cases w5:b.testBit i with
 |false=>rcases hai:a.testBit i with _|_;rfl;rw[hs i hai]at w5;cases w5
 |true=>have:i∈(List.range 64).filter fun i=>b.testBit i:=List.mem_filter.2 ⟨List.mem_range.2 hi,w5⟩;rw[<-e2]at this;exact(List.mem_filter.1 this).2
 rw[Nat.testBit_lt_two_pow (Nat.lt_of_lt_of_le ha (Nat.pow_le_pow_right (n:=2) (by omega) (show 12<=i by omega))),Nat.testBit_lt_two_pow (Nat.lt_of_lt_of_le hb (Nat.pow_le_pow_right (n:=2) (by omega) (show 12<=i by omega)))]
def mq.hr{d:Z bC}{h:eD}(hh:mq d n h):∃ws,qU h ws:=by
 obtain⟨l,f,h1,h2,h3⟩:=hh.ex;obtain⟨nm,c0,ws,g1,g2,g3,g4,g5⟩:=h1.cok.ws;have hc:=h1.cok.cod;have e1:(l.map fun x=>cw x.Code).map bt=l.map dC.Code:=by rw[List.map_map];apply List.map_congr_left;intro x hx;obtain⟨w,hw,_⟩:=hc x hx;simp[hw,FT]
 have e2:(l.map fun x=>cw x.Code).Perm ws:=by
  have:=g3.perm.map cw;rw[List.map_map,List.map_map]at this;have e3:ws.map (cw ∘ bt)=ws:=by have:(cw ∘ bt)=id:=funext fun w=>FT w;rw[this,List.map_id]
  rw[e3]at this;exact this
 refine⟨l.map fun x=>cw x.Code,⟨by rw[h2,e1],fun w hw=>?_,e2.nodup_iff.2 g1.nod,fun a ha b hb cT=>?_,?_,?_,?_,?_⟩⟩;have:=g1.ok w (e2.mem_iff.1 hw);exact⟨this.2.1,by omega⟩;exact e2.mem_iff.2 (g2 a (e2.mem_iff.1 ha) b (e2.mem_iff.1 hb) cT);rw[e2.length_eq];omega;rw[e2.length_eq];omega;have:=congrArg List.length h3;rw[yA]at this;have:=h1.len;omega;intro w hw;obtain⟨y,hy,rfl⟩:=List.mem_map.1 hw;obtain⟨w0,⟨x0,pD,e0⟩,CR⟩:=h1.cok.top;have NH:=g3.srt;rcases hl:l with _|⟨z,l'⟩;rw[hl]at pD;cases pD;simp only[zQ,List.getElem?_cons_zero,Option.getD_some];have hzm:z∈l:=by rw[hl];simp
 obtain⟨wz,ez,lz,_⟩:=hc z hzm;obtain⟨w0',Bs,l0,_⟩:=hc x0 pD;have e00:w0=w0':=by rw[<-FT w0,<-FT w0',<-e0,<-Bs]
 have pG:cnt x0<=cnt z:=by rw[hl]at pD NH;rcases zI.1 pD with rfl |h;exact zF _;exact(List.pairwise_cons.1 NH).1 x0 h
 have hz:=CR z hzm;rw[ez,FT]at hz;have:wz=w0:=Cm hz lz (by rw[e00];exact l0) (by
  have c1:cnt x0=(bl w0).length:=by rw[cnt,e0,FT]
  have c2:cnt z=(bl wz).length:=by rw[cnt,ez,FT]
  omega)
 rw[ez,FT,this];exact CR y (by rw[hl]at hy;rw[hl];exact hy)
def wd(t:mV):Nat:=cw t.Code
def vi:Z Nat->BQ
 |[]=>true|x::l=>!(l.any fun y=>Nat.beq x y)&&vi l
def okB(h:eD):BQ :=
 (h.Types.all fun t=>match t.Code with |[z]=>decide (0<z)&&decide (z<4611686018427387904)|_=>false) &&
 vi (h.Types.map wd)&&((h.Types.map wd).all fun a=>(h.Types.map wd).all fun b=>Nat.beq (a&&&b) 0||(h.Types.map wd).any fun c=>Nat.beq (a&&&b) c) &&
 Nat.ble h.Types.length 1000&&Nat.ble 1 h.Types.length&&Nat.ble h.Feats.length 1000&&((h.Types.map wd).all fun w=>Nat.beq ((((h.Types.map wd)[0]?).getD 0)&&&w) w)
def z5m:∀{l:Z Nat},vi l=true->l.Nodup
 |[],_=>List.nodup_nil|x::l,h=>by simp only[vi,Bool.and_eq_true,Bool.not_eq_true',List.any_eq_false]at h;refine List.nodup_cons.2 ⟨fun hx=>?_,z5m h.2⟩;have:=h.1 x hx;simp at this
def Y5{h:eD}(hb:okB h=true):∃ws,qU h ws:=by
 simp only[okB,Bool.and_eq_true,List.all_eq_true,Nat.ble_eq]at hb;obtain⟨⟨⟨⟨⟨⟨h1,h2⟩,h3⟩,h4⟩,h5⟩,h6⟩,h7⟩:=hb;have Uh:∀t∈h.Types,t.Code=bt (wd t)/\wd t≠0/\wd t<4611686018427387904:=fun t ht=>by
  have:=h1 t ht;unfold wd;rcases hc:t.Code with _|⟨z,l⟩;rw[hc]at this;simp at this;cases l with
  |cons y l=>rw[hc]at this;simp at this|nil=>rw[hc]at this;simp at this;have e:cw [z]=z.toNat:=rfl;rw[e];exact⟨by rw[qT (by omega)];congr 1;omega,by omega,by omega⟩
 refine⟨h.Types.map wd,⟨?_,fun w hw=>?_,z5m h2,fun a ha b hb cT=>?_,by rw[yA];exact h4,by rw[yA];exact h5,h6,fun w hw=>by have:=h7 w hw;rw[Nat.beq_eq]at this;exact this⟩⟩;rw[List.map_map];exact List.map_congr_left fun t ht=>(Uh t ht).1;obtain⟨t,ht,rfl⟩:=List.mem_map.1 hw;exact(Uh t ht).2;have:=h3 a ha b hb;rw[Bool.or_eq_true,Nat.beq_eq]at this;rcases this with h |h
 exact absurd h cT;obtain⟨c,hc,e⟩:=List.any_eq_true.1 h;rw[Nat.beq_eq]at e;rw[e];exact hc
def preB(m:Nat):a8 (Pf (m+200)) (fun d=>a8 (MN (m+200) d) fun r=>some (okB r.1))=some true:=by kernel_rfl
def XW(h:200<=n):∃g ws,Hg n=some g/\qU g ws:=by have:=preB (n-200);rw[show n-200+200=n by omega]at this;rcases e1:Pf n with _|d;rw[e1]at this;cases this;rw[e1,aM]at this;rcases e2:MN n d with _|r;rw[e2]at this;cases this;rw[e2,aM]at this;obtain⟨ws,hw⟩:=Y5 (Option.some.inj this);exact⟨⟨r.1.Types,r.1.Feats⟩,ws,by simp only[Hg,e1,e2,aM],hw⟩
def z7d(d:Z bC)(hn:5000<=n):∃g ws,jt n d=some g/\qU g ws:=by
 obtain⟨g,ws,p1,p2⟩:=XW (n:=n) (by omega);unfold jt;by_cases hd:(d.length:Int)<=12;obtain⟨h,e,c1,c2,c3⟩:=qvn (d:=d) (by omega) hn;simp only[hd,yC,zC,c1,aM];by_cases he:e=0;subst he;obtain⟨ws',hw⟩:=(c2 rfl).hr;exact⟨⟨h.Types,h.Feats⟩,ws',rfl,hw⟩;have:(e==0)=false:=by simpa using he
 simp only[this,zD];exact⟨g,ws,p1,p2⟩;simp only[hd,yB,zD];exact⟨g,ws,p1,p2⟩
end Go.Proofs
