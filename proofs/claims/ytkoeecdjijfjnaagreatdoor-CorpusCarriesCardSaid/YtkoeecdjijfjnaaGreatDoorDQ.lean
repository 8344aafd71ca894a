/- Contracts and laws. Conditions: none. -/
import Derived.Test.YtkoeecdjijfjnaaGreatDoorD4
set_option linter.all false
set_option maxRecDepth 100000
set_option maxHeartbeats 8000000
namespace Go.Proofs.YtkoeecdjijfjnaaGreatDoor
open Go.RowKit
theorem H9 {m k n N:Nat}(h1:m<=k*N)(h2:n+1<=N):m+1+n<=(k+1)*N:=by rw [Nat.add_mul];omega
theorem Ib {m k N:Nat}(h1:m<=k*N)(hk:k<=5)(hN:N<=30517578125):m<=152587890625:=by
 have h2:k*N<=5*30517578125:=Nat.mul_le_mul hk hN;omega
theorem BM {m k f:Nat}(h1:m<=k*6 ^ f)(hk:k<=5):m+1<=6 ^ (f+1):=by
 have h2:k*6 ^ f<=5*6 ^ f:=Nat.mul_le_mul_right _ hk;have h3:0<6 ^ f:=Nat.pos_of_ne_zero U;rw [Nat.pow_succ];omega
theorem nw (w:World)(ty:TypeId)(cs:Array Value):Blk (w.alloc (qk cs ty)) w ty cs∧Ext w (w.alloc (qk cs ty))∧w.heap.size<(w.alloc (qk cs ty)):=⟨aw w ty cs,(aq w).alloc' _,U⟩
noncomputable def oR:=RG Tryz.f130
noncomputable abbrev Ha:Code:=.seq (oR 0) (.seq (oR 1) (.seq (oR 2) (.seq (.seq (oR 3) (.block 0 (.loop (.seq (.seq (oR 4) (.cond (.tmp 18) .skip (.exit 0))) (.seq (.block 1 (.seq (oR 6) (.seq (oR 7) (.seq (oR 8) (.seq (oR 9) (.seq (oR 10) (.seq (oR 11) (.cond (.tmp 70) (.seq (oR 12) (.seq (oR 13) .ret)) .skip)))))))) (oR 5)))))) (.seq (oR 14) (.seq (oR 15) .ret)))))
theorem D6:Tryz.f130.body=some Ha:=av
def o9 (t:List GN)(path:List Int)(f:Nat)(x:GN)(at_:Int)(P:Nat->Prop)(W:World)(g:Nat)(a0:Act)(k:Nat)(a:Act)(w:World):Prop :=
 ∃ (used:Int) (acc:List GV) (sv vv:Value) (m:Nat) (xs ys:List Value),Ag [2,3,4,5,8,9] a0 a∧qq a 10 vv∧qq a 11 (k:Int)∧k<=x.kids∧PSt P W g used sv m xs vv acc ys w∧m<=k*6 ^ f∧acc=k∧0<=used∧at_+used<=path ∧
  bX (cA t path f) x.name at_ 0 [] x.kids=bX (cA t path f) x.name at_ used acc (x.kids.drop k)
section
variable {t:List GN}{path:List Int}{f i:Nat}{at_:Int}{P:Nat->Prop}{vn vp:Value}{w W:World}{x:GN}{na:NA}{a0:Act}{g4 g5 g8 g:Nat}{Q:Exit->Act->World->Prop}
structure pm (vn vp:Value)(x:GN)(na:NA)(at_:Int)(w W:World)(g4 g5 g8 g:Nat)(a0:Act):Prop where
 sz:a0.tmps.size=80
 df:a0.defers=[]
 e2:qq a0 2 vp
 e3:qq a0 3 at_
 e4:qq a0 4 (qp g4)
 e5:qq a0 5 (qp g5)
 e8:qq a0 8 (qp g8)
 e9:qq a0 9 (qp g)
 tree:Blk W g4 25 #[vn]
 box:Blk W g5 60 (aN x na).toArray
 res:Blk W g8 146 eU
 ext:Ext w W
 lo:w<=g4∧g4<g∧w<=g5∧g5<g∧w<=g8∧g8<g∧g<W
theorem yJ (hE:pm vn vp x na at_ w W g4 g5 g8 g a0){a:Act}{wr:World}{r:GR}{A:Option Addr}{c m N:Nat}{sv:Value}{xs:List Value}(hu:Ag [8] a0 a)(hF:Fr (fun b=>b=g) W wr)(hv:VAt wr (fun b=>(P b∨W<=b)∧b ≠ g8) r.val A c)(hrow:wr.ownsRow W 193 3 sv m xs)(hsp:tX m N xs)
  (hQ:∀ (a':Act)(w':World)(v:Value),a'.defers=[]->(results Tryz.f130 a'.tmps).run Tryz.prog w'=.ok v w'->kz P r N w (.returned v) w'->Q .ret a' w'):Q .ret a (wr.setCells g8 0 (fU r A c sv)):=by
 have hl:=hE.lo;have hf:Fr (fun k=>k=g8) wr (wr.setCells g8 0 (fU r A c sv)):=(au _ wr).setCells _ 0 (.inl rfl);have hb:=aF (fU r A c sv) (cs:=[qz,qz,qe,qn,qz,qz,qn]) 0 (hE.res.fr hF I) U;have hX:Ext w (wr.setCells g8 0 (fU r A c sv)):=(((ar hE.ext).trans (hF.mono (N:=fun k=>w.heap.size<=k) (fun k hk=>by omega))).trans (hf.mono (fun k hk=>by omega))).new_ext (fun _ h=>h);have e8:=hu.get 8 hE.e8;have q0:=hb.cell' (u:=↑r.val.kind) 0 rfl;have q1:=hb.cell' (u:=↑r.val.n) 1 rfl;have q2:=hb.cell' (u:=r.val.s) 2 rfl;have q3:=hb.cell' (u:=.slice A r.val.kids c) 3 rfl;have q4:=hb.cell' (u:=↑r.used) 4 rfl;have q5:=hb.cell' (u:=↑r.stop) 5 rfl;have q6:=hb.cell' (u:=sv) 6 rfl;have hs:=hE.ext.size;exact hQ a _ (.agg (cC r A c sv)) (hu.df.trans hE.df) (by simp [results,Tryz.results130,go_sem,evT e8,q0,q1,q2,q3,q4,q5,q6]) ⟨A,c,sv,m,xs,rfl,hv.carry (aB.of_fr hf (fun k hk h=>hk.2 h)) (fun k _ h=>h.1.imp id (fun h=>by omega)),(cP hrow hf (fun k hk h=>by have:=hrow.block_ge hk;omega)).base_le hs,hsp,hX⟩
theorem Jk {k:Nat}{a:Act}{wr:World}(hS:mY t path f)(hR:∀ (z:Nat)(k:Int),z<f->z<t->0<=k->k<=path->oF t path z k (cA t path f z k))(hkids:∀ z ∈ x.kids,0<=z∧z<(i:Int))(hif:i<f+1)(hi:i<t)(hfew:x.kids.length<=5)(hf14:f<14)(h0:0<=at_)(h1:at_<=path)(hpl:path.length<=1000000000)(hP:∀ b,P b->b<w)(ht:Nds w P vn t)(hx:NAt w P x na)(hvp:bL w P vp path)
  (hE:pm vn vp x na at_ w W g4 g5 g8 g a0)(hI:o9 t path f x at_ P W g a0 k a wr)(hk:k<x.kids)(hnext:∀ a' w',o9 t path f x at_ P W g a0 (k+1) a' w'->Q .normal a' w')
  (hQ:∀ (a':Act)(w':World)(v:Value),a'.defers=[]->(results Tryz.f130 a'.tmps).run Tryz.prog w'=.ok v w'->kz P (bX (cA t path f) x.name at_ 0 [] x.kids) (6 ^ (f+1)) w (.returned v) w'->Q .ret a' w') :
  qw (.seq (.block 1 (.seq (oR 6) (.seq (oR 7) (.seq (oR 8) (.seq (oR 9) (.seq (oR 10) (.seq (oR 11) (.cond (.tmp 70) (.seq (oR 12) (.seq (oR 13) .ret)) .skip)))))))) (oR 5)) Q a wr:=by
 obtain ⟨used,acc,sv,vv,m,xs,ys,u,e10,e11,hkl,hps,hm,hacc,hu0,hu1,hrp⟩:=hI;have sz:=u.sz.trans hE.sz;have e2:=u.get 2 hE.e2;have e3:=u.get 3 hE.e3;have e4:=u.get 4 hE.e4;have e5:=u.get 5 hE.e5;have e9:=u.get 9 hE.e9;have hl:=hE.lo;have hWr:=hps.size;have hws:=hE.ext.size;have hmb:=Ib hm I (CN hf14);obtain ⟨As,cs,rfl,-,-,-⟩:=Sl.of_own hps.sp;obtain ⟨Av,cv,rfl,-,-,-⟩:=Sl.of_own hps.vs;have hX:Ext w wr:=((ar hE.ext).trans (hps.fr.mono (N:=fun k=>w.heap.size<=k) (fun k hk=>by omega))).new_ext (fun _ h=>h);have hsX:=hX.size;obtain ⟨bk,ok,ek,-,-,gk⟩:=(hx.kids.ext hX).get hk;have hz:=hkids _ (aC (d:=0) hk);have hD:=hrp.trans (by rw [aJ 0 hk,bX]);obtain ⟨zn,hzn⟩:∃ zn:Nat,x.kids.getD k 0=(zn:Int):=⟨(x.kids.getD k 0).toNat,I⟩;rw [hzn] at gk hz hD;have r0:∀ V,Ext wr V->qc V g4 0 vn∧qc V g5 7 (.slice (qt bk ok) x.kids na.kc)∧qc V bk (ok+k) zn∧qc V g 4 used:=fun V h=>⟨aA h ((hE.tree.fr hps.fr I).cell' 0 rfl),aA h ((hE.box.fr hps.fr I).cell' 7 (by rw [<- ek];rfl)),aA h gk,aA h (hps.out.cell' 4 rfl)⟩
 have hro:=hR zn (at_+used) I I I I;have hcall:∀ V,Ext wr V->qg 109 #[.agg #[vn],↑zn,vp,.int .i64 (at_+used)] V (kz P (cA t path f zn (at_+used)) (6 ^ f) V):=fun V h=>hS zn (at_+used) P vn vp V I I I I (fun b hb=>by have:=hP b hb;have:=h.size;omega) (ht.ext (hX.trans' h)) (hvp.ext (hX.trans' h))
 have hwrp:-9223372036854775808<=at_+used∧at_+used<=9223372036854775807:=I;have hkn:(k:Int)<(x.kids:Int):=I;refine wp_seq (wp_block (wp_seq ?_));have hx0:Ext wr wr.drew:=(aq wr).drew';refine rD (fun V=>Ext wr V) (fun _=>true) 14 ?_;generalize wr.drew=V0 at *;refine dt 3 [0,1,2,3,4,5,6,7,8,9,10] (hS:=hx0) ?_;clear ek;iterate 4 refine tv ?_ (hy:=by (intro w hw;obtain ⟨q0,q1,q2,q3⟩:=r0 w hw;simp [execOp,go_sem, *];try rfl))
 refine tv ?_ (v:=qt bk (ok+k)) (hy:=by (intro w hw;simp [execOp,go_sem, *];try rfl));iterate 5 refine tv ?_ (hy:=by (intro w hw;obtain ⟨q0,q1,q2,q3⟩:=r0 w hw;simp [execOp,go_sem, *];try rfl))
 refine tv ?_ (v:=.int .i64 (at_+used)) (hy:=by (intro w hw;simp [execOp,go_sem, *];exact wrI hwrp.1 hwrp.2));refine t_e (vI (d:=12) (dc:=32) (xs:=#[.tmp 21,.tmp 26,.tmp 27,.tmp 31]) (L:=[2,3,4,5,8,9,10,11,21,26,27,31]) 11 12 13 hx0 ct ct (fun q hq=>by have:=hP q hq;omega) hcall (fun b h=>by simp [h.get 21 (v:=.agg #[vn]) ct,h.get 26 (v:=↑zn) ct,h.get 27 (v:=vp) (by simp [sz,e2]),h.get 31 (v:=.int .i64 (at_+used)) ct]) ?_);intro a6 w6 gb u6' e12 hRB hx6;have u6:Ag [2,3,4,5,8,9,10,11] a a6:=(by (repeat refine .put ?_ rfl);exact .rf:Ag [2,3,4,5,8,9,10,11] a _).trans (u6'.mono rfl);clear u6' hcall;refine u6.b4 sz e3 e9 e10 e11 fun sz e3 e9 e10 e11=>?_
 generalize cA t path f zn (at_+used)=rb at *;obtain ⟨A,c,Ab,mb,cb,xb,hB,hv,hrow,hsp,hng,hgb⟩:=hRB;have hb0:=hro.used0;have hbP:=hro.usedP;have hgl:=hB.lt;have hmr:=hsp.le hf14;have hso:∀ q,some q=(Value.slice As m cs).ownBlock->W<=q∧q<wr:=fun q h=>⟨hps.sp.block_ge h.symm,hps.sp.block_lt h.symm⟩
 have hvo:∀ q,some q=(Value.slice Av acc cv).ownBlock->W<=q∧q<wr:=fun q h=>⟨hps.vs.block_ge h.symm,hps.vs.block_lt h.symm⟩
 have hP6:=hps.ext hx6;have hvU:VAt w6 (fun b=>(P b∨wr<=b)∧b ≠ gb∧b<w6) rb.val A c:=hv.carry (fun _ _ _=>rfl) (fun b hb h=>⟨h.1,h.2,hb⟩);have hrl:∀ q,(Value.slice Ab mb cb).ownBlock=some q->wr<=q∧q<w6∧q ≠ gb:=fun q h=>⟨hrow.block_ge h,hrow.block_lt h,fun e=>hng (by rw [h,e])⟩
 have keepU:∀ {V V':World}{M:Nat->Prop},Fr M V V'->(∀ q,M q->q=g∨(W<=q∧q<wr)∨w6<=q)->w6.heap.size<=V->(VAt V (fun b=>(P b∨wr<=b)∧b ≠ gb∧b<w6) rb.val A c->VAt V' (fun b=>(P b∨wr<=b)∧b ≠ gb∧b<w6) rb.val A c)∧(Blk V gb 146 (cC rb A c (.slice Ab mb cb))->Blk V' gb 146 (cC rb A c (.slice Ab mb cb)))∧(V.ownsRow wr 193 3 (.slice Ab mb cb) mb xb->V'.ownsRow wr 193 3 (.slice Ab mb cb) mb xb):=fun hF hM hV=>⟨fun h=>h.carry (aB.of_fr hF (fun q hq hm=>by
   have:=hM q hm;rcases hq.1 with h | h
   ·have:=hP q h;omega
   ·omega)) (fun _ _ h=>h),fun h=>h.fr hF (fun hm=>by have:=hM _ hm;omega),fun h=>cP h hF (fun q hq hm=>by have:=hM q hm;have:=hrl q hq;omega)⟩
 refine rS ?_;have o4:=hP6.out.cell' (u:=↑used) 4 rfl;have o6:=hP6.out.cell' (u:=.slice As m cs) 6 rfl;have k4:=hB.cell' (u:=↑rb.used) 4 rfl;iterate 14 refine lv ?_
 refine lv (w1:=w6) (v:=.agg #[↑at_,.int .i64 (at_+used),.int .i64 (at_+used+rb.used)]) ?_ (hrun:=by simp [execOp,go_sem, *];try simp (disch:=omega) only [wrI]);have xA:Ext w6 (w6.alloc (qk #[↑at_,.int .i64 (at_+used),.int .i64 (at_+used+rb.used)] 193)):=(aq w6).alloc' _;refine lv (w1:=w6.alloc (qk #[↑at_,.int .i64 (at_+used),.int .i64 (at_+used+rb.used)] 193)) (v:=.slice (qp w6) 1 1) ?_ (hrun:=by simp [execOp,go_sem, *];try rfl);have hPA:=hP6.ext xA;have sA:=xA.size;refine la Tryz.underlying144 Tryz.info193 hPA.sp (T:=fun _=>True) (Sl.new w6 _ _ 1 3 rfl) I I I ci ?_;intro v7 w7 ho7 hf7 hb7;obtain ⟨A7,c7,rfl,-,-,-⟩:=Sl.of_own ho7;have hg7:=(hPA.out.fr hf7 (fun e=>by have:=hso _ e;omega));have p6:=hg7.cell' (u:=.slice As m cs) 6 rfl;have fp6:=hg7.frozen 6;have hP7:=hPA.spans ho7 ci hf7 hb7;have hF7:=((ar (M:=fun k=>some k=(Value.slice As m cs).ownBlock∨k=g) xA).trans (hf7.mono fun _ h=>.inl h)).setCell (p:=qt g 6) (.inl (.inr rfl)) (.slice A7 (m+1) c7);obtain ⟨y1,y2,y3⟩:=keepU hF7 (fun q h=>h.elim (fun h=>.inr (.inl (hso q h))) .inl) (ab _);have hv7:=y1 hvU;have hB7:=y2 hB;have hrow7:=y3 hrow;have hs7:=hF7.size
 have ho7':∀ q,some q=(Value.slice A7 (m+1) c7).ownBlock->(W<=q∧q<wr)∨w6<=q:=fun q h=>by
  rcases hb7 with e | e
  ·rw [e] at h;exact .inl (hso q h)
  ·rw [e] at h;injection h with h;omega
 refine lv ?_;refine ls (w1:=w7.setCell (qt g 6) (.slice A7 (m+1) c7)) ?_ (hrun:=by simp [execOp,go_sem, *];try rfl);clear y1 y2 y3 hF7 hf7 ho7 hb7 hg7 p6 fp6 o4 o6 k4 hPA hP6 hB hv hvU hrow;generalize w7.setCell (qt g 6) (.slice A7 (m+1) c7)=w8 at *;refine lN a6 [2,3,4,5,8,9,10,11,12] ?_;intro a8 u8;refine u8.b5 sz e3 e9 e10 e11 e12 fun sz e3 e9 e10 e11 e12=>?_
 refine rS ?_;have o6:=hP7.out.cell' (u:=.slice A7 (m+1) c7) 6 rfl;have k6:=hB7.cell' (u:=.slice Ab mb cb) 6 rfl;iterate 4 refine lv ?_
 refine la Tryz.underlying144 Tryz.info193 hP7.sp (T:=fun _=>True) (m9 hrow7) I I I hsp.2 ?_;intro v9 w9 ho9 hf9 hb9;obtain ⟨A9,c9,rfl,-,-,-⟩:=Sl.of_own ho9;have hg9:=(hP7.out.fr hf9 (fun e=>by have:=hP7.sp.block_ge e.symm;omega));have p6:=hg9.cell' (u:=.slice A7 (m+1) c7) 6 rfl;have fp6:=hg9.frozen 6;have hP9:=hP7.spans ho9 hsp.2 hf9 hb9;have hF9:=(hf9.mono (N:=fun k=>some k=(Value.slice A7 (m+1) c7).ownBlock∨k=g) fun _ h=>.inl h).setCell (p:=qt g 6) (.inl (.inr rfl)) (.slice A9 (m+1+mb) c9);obtain ⟨y1,y2,y3⟩:=keepU hF9 (fun q h=>h.elim (fun h=>.inr (ho7' q h)) .inl) hs7;have hv9:=y1 hv7;have hB9:=y2 hB7;have hs9:=hF9.size
 have ho9':∀ q,some q=(Value.slice A9 (m+1+mb) c9).ownBlock->(W<=q∧q<wr)∨w6<=q:=fun q h=>by
  rcases hb9 with e | e
  ·rw [e] at h;exact ho7' q h
  ·rw [e] at h;injection h with h;omega
 refine lv ?_;refine ls (w1:=w9.setCell (qt g 6) (.slice A9 (m+1+mb) c9)) ?_ (hrun:=by simp [execOp,go_sem, *];try rfl);clear y1 y2 y3 hF9 hf9 ho9 hb9 hg9 p6 fp6 o6 k6 hB7 hv7 hrow7;generalize w9.setCell (qt g 6) (.slice A9 (m+1+mb) c9)=w10 at *;refine lN a8 [2,3,4,5,8,9,10,11,12] ?_;intro a10 u10;refine u10.b5 sz e3 e9 e10 e11 e12 fun sz e3 e9 e10 e11 e12=>?_
 refine rS ?_;have o4:=hP9.out.cell' (u:=↑used) 4 rfl;have fo4:=hP9.out.frozen 4;have k4:=hB9.cell' (u:=↑rb.used) 4 rfl;iterate 4 refine lv ?_
 refine lv (w1:=w10) (v:=.int .i64 (used+rb.used)) ?_ (hrun:=by simp [execOp,go_sem, *];try simp (disch:=omega) only [wrI]);refine lv ?_;refine ls (w1:=w10.setCell (qt g 4) (.int .i64 (used+rb.used))) ?_ (hrun:=by simp [execOp,go_sem, *];try rfl);have hP11:=hP9.set_used (used+rb.used);have hF11:Fr (fun k=>k=g) w10 (w10.setCell (qt g 4) (.int .i64 (used+rb.used))):=(au (fun k=>k=g) w10).setCell (p:=qt g 4) (.inl rfl) _;obtain ⟨y1,y2,-⟩:=keepU hF11 (fun q h=>.inl h) (ae hs7 hs9);have hv11:=y1 hv9;have hB11:=y2 hB9;have hs11:=hF11.size;clear y1 y2 hF11 o4 fo4 k4 hP9 hB9 hv9;generalize w10.setCell (qt g 4) (.int .i64 (used+rb.used))=w11 at *;refine lN a10 [2,3,4,5,8,9,10,11,12] ?_;intro a11 u11;refine u11.b5 sz e3 e9 e10 e11 e12 fun sz e3 e9 e10 e11 e12=>?_
 refine rS ?_;have k0:=hB11.cell' (u:=↑rb.val.kind) 0 rfl;have k1:=hB11.cell' (u:=↑rb.val.n) 1 rfl;have k2:=hB11.cell' (u:=rb.val.s) 2 rfl;have k3:=hB11.cell' (u:=.slice A rb.val.kids c) 3 rfl;iterate 2 refine lv ?_
 refine lv (v:=cN rb.val A c) ?_ (hrun:=by simp [execOp,go_sem, *];try rfl);have xC:Ext w11 (w11.alloc (qk (cellsOf rb.val A c).toArray 58)):=(aq w11).alloc' _;have sC:=xC.size;refine lv (w1:=w11.alloc (qk (cellsOf rb.val A c).toArray 58)) (v:=.slice (qp w11) 1 1) ?_ (hrun:=by simp [execOp,go_sem,cellsOf, *];try rfl);have hPC:=hP11.ext xC;refine la Tryz.underlying56 Tryz.info58 hPC.vs (T:=fun _=>True) (Sl.new w11 _ _ 1 4 rfl) I I I (by simp [cellsOf,Value.oneCell']) ?_;intro v12 w12 ho12 hf12 hb12
 have hP12:=hPC.kid (y:=rb.val) (A:=A) (c:=c) ho12 ((hv11.carry (aB.of_ext xC) (fun _ _ h=>h)).carry (fun _ _ _=>rfl) (fun b hb h=>⟨h.1.imp id (fun h=>by omega),hb,fun e=>by
  have:=ho9' b e;rcases h.1 with h' | h'
  ·have:=hP b h';omega
  ·omega,fun e=>by
  have:=hvo b e;rcases h.1 with h' | h'
  ·have:=hP b h';omega
  ·omega⟩)) hf12 hb12
 have hB12:=(hB11.ext xC).fr hf12 (fun e=>by have:=hvo _ e;omega);obtain ⟨A12,c12,rfl,-,-,-⟩:=Sl.of_own ho12;refine lv ?_;refine lE a11 [2,3,4,5,8,9,11,12] 10 ?_;clear e10;intro a12 u12 e10;refine u12.b4 sz e3 e9 e11 e12 fun sz e3 e9 e11 e12=>?_
 have k5:=hB12.cell' (u:=↑rb.stop) 5 rfl;clear k0 k1 k2 k3;refine rS ?_;iterate 2 refine lv ?_
 refine lv ?_;refine lF a12 [2,3,4,5,8,9,10,11,12] 70 (v:=(decide (rb.stop ≠ -1))) ?_ (he:=by simp [*];try rfl);intro a13 u13 e70;refine u13.b5 sz e3 e9 e10 e11 e12 fun sz e3 e9 e10 e11 e12=>?_
 have uF:Ag [2,3,4,5,8,9] a0 a13:=(((u.trans (u6.mono rfl)).trans (u8.mono rfl)).trans (u10.mono rfl)).trans (((u11.mono rfl).trans (u12.mono rfl)).trans (u13.mono rfl));have hmN:m+1+mb<=(k+1)*6 ^ f:=H9 hm hsp.1;by_cases hst:rb.stop=-1
 ·refine wp_cond_false (e70.trans (by simp [hst])) (wp_skip (rW ?_))
  iterate 2 refine lv ?_
  refine lv (w1:=w12) (v:=.int .i64 ((k+1:Nat):Int)) ?_ (hrun:=by simp [execOp,go_sem, *];try simp (disch:=omega) only [wrI];try rfl);refine lF a13 [2,3,4,5,8,9,10] 11 (v:=.int .i64 ((k+1:Nat):Int)) ?_;intro a14 u14 e11';rw [if_pos hst] at hD;exact hnext a14 w12 ⟨used+rb.used,acc ++ [rb.val],_,_,_,_,_,uF.trans (u14.mono rfl),(u14.get 10 e10).trans (by rw [hacc]),e11',hk,hP12,hmN,by simp [hacc],I,I,hD⟩
 ·refine wp_cond_true (e70.trans (by simp [hst])) (rS ?_)
  rw [if_neg hst] at hD;have g5':=hP12.out.frozen 5;have c5:=hP12.out.cell' (u:=.int .i64 (-1)) 5 rfl;iterate 3 refine lv ?_
  refine ls (w1:=w12.setCell (qt g 5) (↑rb.stop)) ?_ (hrun:=by simp [execOp,go_sem, *];try rfl);have hO13:Blk (w12.setCell (qt g 5) (↑rb.stop)) g 146 (rn (used+rb.used) rb.stop (.slice A9 (m+1+mb) c9)):=by simpa using hP12.out.set_ 5 (↑rb.stop)
  have hF13:=hP12.fr.setCell (p:=qt g 5) (.inl rfl) (↑rb.stop);have hr13:=ownsRow_setCell_below hP12.sp (a:=qt g 5) hP12.gW (↑rb.stop);have hone:=hP12.one;generalize w12.setCell (qt g 5) (↑rb.stop)=w13 at *;refine lN a13 [8,9] ?_;intro a14 u14;refine u14.b1 sz e9 fun sz e9=>?_
  have uG:=uF.mono (l':=[8]) rfl |>.trans (u14.mono rfl);have e8:=uG.get 8 hE.e8;have q0:=hO13.cell' (u:=qz) 0 rfl;have q1:=hO13.cell' (u:=qz) 1 rfl;have q2:=hO13.cell' (u:=qe) 2 rfl;have q3:=hO13.cell' (u:=qn) 3 rfl;have q4:=hO13.cell' (u:=.int .i64 (used+rb.used)) 4 rfl;have q5:=hO13.cell' (u:=↑rb.stop) 5 rfl;have q6:=hO13.cell' (u:=.slice A9 (m+1+mb) c9) 6 rfl;have hres:=hE.res.fr hF13 I;refine rS ?_;refine lv (w1:=w13) (v:=.agg (cC ⟨cX,used+rb.used,rb.stop⟩ none 0 (.slice A9 (m+1+mb) c9))) ?_ (hrun:=by simp [execOp,go_sem,cX,GV.kind,GV.n,GV.s,GV.kids, *];try rfl);refine ls (w1:=w13.setCells g8 0 (fU ⟨cX,used+rb.used,rb.stop⟩ none 0 (.slice A9 (m+1+mb) c9))) ?_ (hrun:=by simp [execOp,go_sem,hres.cell,hres.frozen, *];try rfl);refine lN a14 [8] ?_;intro a15 u15;refine wp_ret (yJ hE (uG.trans u15) hF13 (VAt.zero _ _) hr13 ⟨?_,hone⟩ (fun a' w' v q1 q2 q3=>hQ a' w' v q1 q2 (by rw [hD];exact q3)));have hk5:k+1<=5:=by omega
  exact BM (k:=k+1) hmN hk5
theorem Ij (hS:mY t path f)(hR:∀ (z:Nat)(k:Int),z<f->z<t->0<=k->k<=path->oF t path z k (cA t path f z k))(hkids:∀ z ∈ x.kids,0<=z∧z<(i:Int))(hif:i<f+1)(hi:i<t)(hfew:x.kids.length<=5)(hf14:f<14)(h0:0<=at_)(h1:at_<=path)(hpl:path.length<=1000000000)(hP:∀ b,P b->b<w)(ht:Nds w P vn t)(hx:NAt w P x na)(hvp:bL w P vp path) :
  qg 130 #[.agg #[vn],fE x na,vp,↑at_] w (kz P (bX (cA t path f) x.name at_ 0 [] x.kids) (6 ^ (f+1)) w):=by
 refine gD Tryz.func130 D6 rfl U (fun a Q sz df ea hQ=>?_);have e2:=ea 2 vp rfl;have e3:=ea 3 (↑at_) rfl;refine rS ?_;refine lv (w1:=w.alloc (qk #[vn] 25)) (v:=qp w) ?_ (hrun:=by simp [execOp,go_sem, *];try rfl);obtain ⟨b1,x1,n1⟩:=nw w 25 #[vn];generalize w.alloc (qk #[vn] 25)=w1 at *;refine lv (w1:=w1.alloc (qk (aN x na).toArray 60)) (v:=qp w1) ?_ (hrun:=by simp [execOp,go_sem,fE,aN, *];try rfl);obtain ⟨b2,x2,n2⟩:=nw w1 60 (aN x na).toArray;generalize w1.alloc (qk (aN x na).toArray 60)=w2 at *;refine lv (w1:=w2.alloc (qk eU 146)) (v:=qp w2) ?_ (hrun:=by simp [execOp,go_sem, *];try rfl);obtain ⟨b3,x3,n3⟩:=nw w2 146 eU;generalize w2.alloc (qk eU 146)=w3 at *;refine lE3 a [2,3] 4 5 8 ?_;intro a1 u1 e4 e5 e8;refine u1.c2 sz df e2 e3 fun sz df e2 e3=>?_
 refine rS ?_;refine lv (w1:=w3) (v:=.agg (rn 0 (-1) qn)) ?_ (hrun:=by simp [execOp,go_sem, *];try rfl);refine lv (w1:=w3.alloc (qk eU 146)) (v:=qp w3) ?_ (hrun:=by simp [execOp,go_sem, *];try rfl);obtain ⟨b4,x4,n4⟩:=nw w3 146 eU;generalize w3.alloc (qk eU 146)=w4 at *;refine ls (w1:=w4.setCells w3 0 [qz,qz,qe,qn,qz,.int .i64 (-1),qn]) ?_ (hrun:=by simp [execOp,go_sem,b4.cell,b4.frozen, *];try rfl);have b5:=aF [qz,qz,qe,qn,qz,.int .i64 (-1),qn] (cs:=[qz,qz,qe,qn,qz,qz,qn]) 0 b4 U;have f5:Fr (fun k=>k=w3.heap.size) w4 (w4.setCells w3 0 [qz,qz,qe,qn,qz,.int .i64 (-1),qn]):=(au _ w4).setCells _ 0 (.inl rfl);generalize w4.setCells w3 0 [qz,qz,qe,qn,qz,.int .i64 (-1),qn]=W at *;refine lE a1 [2,3,4,5,8] 9 ?_;intro a0 u0 e9;refine u0.c5 sz df e2 e3 e4 e5 e8 fun sz df e2 e3 e4 e5 e8=>?_
 have hn5:=f5.size;have hE:pm vn vp x na at_ w W w w1 w2 w3 a0:=⟨sz,df,e2,e3,e4,e5,e8,e9,(((b1.ext x2).ext x3).ext x4).fr f5 I,((b2.ext x3).ext x4).fr f5 I,(b3.ext x4).fr f5 I,((ar ((x1.trans' x2).trans' (x3.trans' x4))).trans f5).new_ext (fun k hk=>by omega),I⟩;refine rS ?_;refine lv ?_;refine lE a0 [2,3,4,5,8,9] 10 ?_;intro a2 u2 e10;refine u2.c0 sz df fun sz df=>?_
 refine wp_seq (rS ?_);refine lv ?_;refine lE a2 [2,3,4,5,8,9,10] 11 ?_;intro a3 u3 e11;refine wp_block (wp_loop (fun a' V=>∃ k,o9 t path f x at_ P W w3 a0 k a' V) (fun a' _=>(x.kids.length - (intOf (Ev a' (.tmp 11))).toNat)) ⟨0,0,[],↑qn,↑qn,0,[],[],u2.trans (u3.mono rfl),u3.get 10 e10,e11,af _,⟨I,fun h=>by have:=hP _ h;omega,b5,aT _ _ _ _,U,aT _ _ _ _,rfl,fun b h=>by simp [Value.ownBlock] at h,au _ _⟩,U,rfl,Int.le_refl _,I,rfl⟩ ?_);clear u2 u3 e10 e11 b1 b2 b3 b4 b5 x1 x2 x3 x4 f5 u0 u1 ea sz df e2 e3 e4 e5 e8 e9;rintro a4 V ⟨k,hI⟩;obtain ⟨used,acc,sv,vv,m,xs,ys,u,e10,e11,hkl,hps,hm,hacc,hu0,hu1,hrp⟩:=hI;have sz:=u.sz.trans hE.sz;have e5:=u.get 5 hE.e5;have e9:=u.get 9 hE.e9;have m11:=e11;have c7:=(hE.box.fr hps.fr I).cell' (u:=.slice na.kA x.kids na.kc) 7 rfl;refine wp_seq (rS ?_);iterate 5 refine lv ?_
 refine lE a4 [2,3,4,5,8,9,10,11] 18 ?_;intro a6 u6 e18;have uu:=u.trans (u6.mono (l':=[2,3,4,5,8,9]) rfl);by_cases hlt:k<x.kids
 ·refine wp_cond_true (e18.trans ff) (wp_skip (Jk hS hR hkids hif hi hfew hf14 h0 h1 hpl hP ht hx hvp hE ⟨used,acc,sv,vv,m,xs,ys,uu,u6.get 10 e10,u6.get 11 e11,hkl,hps,hm,hacc,hu0,hu1,hrp⟩ hlt (fun a' w' h=>⟨⟨k+1,h⟩,?_⟩) hQ))
  obtain ⟨-,-,-,-,-,-,-,-,-,e,-⟩:=h;rw [e,m11];simp only [intOf];omega
 ·refine wp_cond_false (e18.trans ff) (wp_exit (rS ?_))
  have hend:bX (cA t path f) x.name at_ 0 [] x.kids=⟨cB x.name acc,used,-1⟩:=by rw [hrp,drop_nil I,bX]
  have uG:=uu.mono (l':=[8]) rfl;refine u6.b3 sz e5 e9 e10 fun sz e5 e9 e10=>?_
  obtain ⟨As,cs,rfl,-,-,-⟩:=Sl.of_own hps.sp;obtain ⟨Av,cv,rfl,-,-,-⟩:=Sl.of_own hps.vs;have hvl:bZ V (fun b=>P b∨W<=b) (.slice Av acc cv) acc:=bZ.of_own hps.vs (RVs.carry (fun _ _ _=>rfl) (fun b _ h=>h.1) hps.acc) I (fun b hb=>.inr (hps.vs.block_ge hb));have hva:=VAt.made hx.name hvl;have hbx:=hE.box.fr hps.fr I;refine lv (v:=fE x na) (w1:=V) ?_ (hrun:=by simp [execOp,go_sem,hbx.cell,aN,fE, *];try rfl);refine lv ?_;refine lc Tryz.func137 (pX x na acc Av cv V) ?_;rintro e w5 ⟨rfl,hx5⟩;refine ⟨_,rfl,?_⟩;have hP5:=hps.ext hx5;have hb5:=hP5.out;have hv5:=hva.carry (Q:=fun b=>P b∨W<=b) (aB.of_ext hx5) (fun _ _ h=>h);generalize cB x.name acc=mv at *;refine lv ?_;refine ls (w1:=w5.setCells w3 0 (cellsOf mv Av cv)) ?_ (hrun:=by simp [execOp,go_sem,hb5.cell,hb5.frozen,cellsOf, *];try rfl);have hf6:Fr (fun k=>k=w3.heap.size) w5 (w5.setCells w3 0 (cellsOf mv Av cv)):=(au _ w5).setCells _ 0 (.inl rfl);have hb6:=aF (cellsOf mv Av cv) (cs:=[qz,qz,qe,qn,.int .i64 used,.int .i64 (-1),.slice As m cs]) 0 hb5 fs;have hb6':Blk (w5.setCells w3 0 (cellsOf mv Av cv)) w3 146 (cC ⟨mv,used,-1⟩ Av cv (.slice As m cs)):=hb6;have hF6:=hP5.fr.trans hf6;have hr6:=cP hP5.sp hf6 (fun q hq e=>by have:=hP5.sp.block_ge hq;have:=hP5.gW;omega);have hv6:=hv5.carry (Q:=fun b=>(P b∨W<=b)∧b ≠ w2) (aB.of_fr hf6 (fun q hq e=>by subst e;rcases hq with h | h;exact hP5.notP h;(have:=hP5.gW;omega))) (fun b hb h=>⟨h,fun e=>by rcases h with h | h;(have:=hP b h;omega);(have:=hP5.gW;omega)⟩);clear hb6 hb5 hf6;generalize w5.setCells w3 0 (cellsOf mv Av cv)=w6 at *;refine lN a6 [8,9] ?_;intro a7 u7;refine u7.b1 sz e9 fun sz e9=>?_
  have e8:=(uG.trans (u7.mono rfl)).get 8 hE.e8;have hres:=hE.res.fr hF6 I;refine rS ?_;refine lv (w1:=w6) (v:=.agg (cC ⟨mv,used,-1⟩ Av cv (.slice As m cs))) ?_ (hrun:=by simp [execOp,go_sem,hb6'.cell, *];try rfl);refine ls (w1:=w6.setCells w2 0 (fU ⟨mv,used,-1⟩ Av cv (.slice As m cs))) ?_ (hrun:=by simp [execOp,go_sem,hres.cell,hres.frozen, *];try rfl);refine lN a7 [8] ?_;intro a8 u8;refine wp_ret (yJ hE ((uG.trans (u7.mono rfl)).trans u8) hF6 hv6 hr6 ⟨?_,hP5.one⟩ (fun a' w' v q1 q2 q3=>hQ a' w' v q1 q2 (by rw [hend];exact q3)));exact BM hm I
end
noncomputable def oS:=RG Tryz.f109
noncomputable abbrev ug:Code:=.seq (oS 8) (.seq (.seq (oS 9) (.cond (.tmp 47) (.seq (oS 10) .ret) .skip)) (.seq (oS 11) (.seq (oS 12) (.seq (oS 13) .ret))))
noncomputable abbrev zb:Code:=.seq (oS 21) (.seq (oS 22) (.seq (oS 23) .ret))
noncomputable abbrev Am:Code:=.seq (.seq (oS 14) (.cond (.tmp 88) (.seq (oS 15) .ret) .skip)) (.seq (oS 16) (.seq (.seq (oS 17) (.cond (.tmp 102) (.seq (oS 18) .ret) .skip)) (.seq (.seq (oS 19) (.cond (.tmp 106) (.seq (oS 20) .ret) .skip)) zb)))
noncomputable abbrev Eu:Code:=.seq (oS 0) (.seq (oS 1) (.seq (.seq (oS 2) (.block 0 (.seq (oS 3) (.cond (.tmp 23) (.seq (oS 4) .ret) (.seq (oS 5) (.cond (.tmp 28) (.seq (oS 6) .ret) (.seq (oS 7) (.cond (.tmp 35) ug .skip)))))))) Am))
theorem Lk:Tryz.f109.body=some Eu:=av
section
variable {t:List GN}{path:List Int}{f i n:Nat}{P:Nat->Prop}{vn vp:Value}{w W:World}{x:GN}{na:NA}{a0 a:Act}{g4 g8 g:Nat}{Q:Exit->Act->World->Prop}{R:GR}
structure lq (t:List GN)(path:List Int)(f i n:Nat)(P:Nat->Prop)(vn vp:Value)(w W:World)(x:GN)(na:NA)(a0:Act)(g4 g8 g:Nat)(Q:Exit->Act->World->Prop)(R:GR):Prop where
 sz:a0.tmps.size=128
 df:a0.defers=[]
 e1:qq a0 1 (i:Int)
 e2:qq a0 2 vp
 e3:qq a0 3 (n:Int)
 e4:qq a0 4 (qp g4)
 e8:qq a0 8 (qp g8)
 e9:qq a0 9 (qp g)
 tree:Blk W g4 25 #[vn]
 res:Blk W g8 146 eU
 box:Blk W g 60 (aN x na).toArray
 ext:Ext w W
 lo:w<=g8
 hP:∀ b,P b->b<w
 nd:Nds W P vn t
 pth:bL W P vp path
 at_:NAt W P x na
 hS:mY t path f
 hf:f<14
 hif:i<f+1
 hi:i<t
 hn:n<=path
 pl:path.length<=1000000000
 ok:∀ (z:Nat) (k:Int),z<f->z<t->0<=k->k<=path->oF t path z k (cA t path f z k)
 node:cR i x
 few:x.kind=3->x.kids.length<=5
 many:x.kind=4->((aE t).getD (x.kids.getD 0 0).toNat default).many=false
 vals:x.kind=4->((aE t).getD (x.kids.getD 0 0).toNat default).vals=x.values
 step:R=dZ (cA t path f) path i x n
 hQ:∀ (a':Act) (w':World) (v:Value),a'.defers=[]->(results Tryz.f109 a'.tmps).run Tryz.prog w'=.ok v w'->kz P R (6 ^ (f+1)) w (.returned v) w'->Q .ret a' w'
theorem Cm (hE:lq t path f i n P vn vp w W x na a0 g4 g8 g Q R){r:GR}(hr:R=r){wr:World}{A:Option Addr}{c m:Nat}{sv:Value}{xs:List Value}(hx:Ext W wr)(hu:Ag [8] a0 a)(hv:VAt wr (fun b=>P b∨W<=b) r.val A c)(hrow:wr.ownsRow W 193 3 sv m xs)(hsp:tX m (6 ^ (f+1)) xs):Q .ret a (wr.setCells g8 0 (fU r A c sv)):=by
 subst hr;have hl:=hE.lo;have hg:=hE.res.lt;have hs:=hE.ext.size;have hf:Fr (fun k=>k=g8) wr (wr.setCells g8 0 (fU R A c sv)):=(au _ wr).setCells _ 0 (.inl rfl);have hb:=aF (fU R A c sv) (cs:=[qz,qz,qe,qn,qz,qz,qn]) 0 (hE.res.ext hx) U;have hX:Ext w (wr.setCells g8 0 (fU R A c sv)):=((ar (hE.ext.trans' hx)).trans hf).new_ext (fun k hk=>by omega);have e8:=hu.get 8 hE.e8;have q0:=hb.cell' (u:=↑R.val.kind) 0 rfl;have q1:=hb.cell' (u:=↑R.val.n) 1 rfl;have q2:=hb.cell' (u:=R.val.s) 2 rfl;have q3:=hb.cell' (u:=.slice A R.val.kids c) 3 rfl;have q4:=hb.cell' (u:=↑R.used) 4 rfl;have q5:=hb.cell' (u:=↑R.stop) 5 rfl;have q6:=hb.cell' (u:=sv) 6 rfl;exact hE.hQ a _ (.agg (cC R A c sv)) (hu.df.trans hE.df) (by simp [results,Tryz.results109,go_sem,evT e8,q0,q1,q2,q3,q4,q5,q6]) ⟨A,c,sv,m,xs,rfl,hv.carry (aB.of_fr hf (fun k hk h=>by rcases hk with hk | hk;(have:=hE.hP k hk;omega);omega)) (fun k _ h=>h.imp id (fun h=>by omega)),(cP hrow hf (fun k hk h=>by have:=hrow.block_ge hk;omega)).base_le hs,hsp,hX⟩
theorem lI (hE:lq t path f i n P vn vp w W x na a0 g4 g8 g Q R){r:GR}(hr:R=r){ops:Array Oper}{o:Oper}{Q':Exit->Act->World->Prop}{wr:World}{A:Option Addr}{c m d:Nat}{sv:Value}{xs:List Value}(hx:Ext W wr)(hu:Ag [8] a0 a)(hv:VAt wr (fun b=>P b∨W<=b) r.val A c)(hrow:wr.ownsRow W 193 3 sv m xs)(hsp:tX m (6 ^ (f+1)) xs)
  (hQ':∀ a' w',Q .ret a' w'->Q' .normal a' w')(he:qq a d (.agg (cC r A c sv)))(hop:o.op=.store 146 (.tmp 8) (.tmp d):=by exact rfl)(h1:o.guard=none:=by exact rfl)(h2:o.dst=none:=by exact rfl):WL ops Q' [o] a wr:=by
 have e8:=hu.get 8 hE.e8;have hres:=hE.res.ext hx;obtain ⟨As,cs,rfl,-,-,-⟩:=Sl.of_own hrow;refine ls (w1:=wr.setCells g8 0 (fU r A c (.slice As m cs))) ?_ h1 h2 (by simp [execOp,go_sem,hop,he,e8,hres.cell,hres.frozen];try rfl);exact aV (hQ' _ _ (Cm hE hr hx hu hv hrow hsp))
theorem vH (hE:lq t path f i n P vn vp w W x na a0 g4 g8 g Q R){wr:World}(hx:Ext W wr){z:Nat}(hz:z<x.kids):∃ (bk ok zn:Nat),x.kids.getD z 0=(zn:Int)∧zn<f∧zn<t∧(∀ V,Ext wr V->qc V g4 0 vn∧qc V g 7 (.slice (qt bk ok) x.kids na.kc)∧qc V bk (ok+z) zn) ∧
  (∀ k:Int,0<=k->k<=path.length->oF t path zn k (cA t path f zn k))∧∀ k:Int,0<=k->k<=path.length->∀ V,Ext wr V->qg 109 #[.agg #[vn],↑zn,vp,↑k] V (kz P (cA t path f zn k) (6 ^ f) V):=by
 obtain ⟨bk,ok,ek,-,-,gk⟩:=(hE.at_.kids.ext hx).get hz;have h1:=hE.node.kids _ (aC (d:=0) hz);have hif:=hE.hif;have hi:=hE.hi;obtain ⟨zn,e⟩:∃ zn:Nat,x.kids.getD z 0=(zn:Int):=⟨(x.kids.getD z 0).toNat,I⟩;rw [e] at gk h1;refine ⟨bk,ok,zn,e,I,I,fun V h=>⟨(hE.tree.ext (hx.trans' h)).cell' 0 rfl,(hE.box.ext (hx.trans' h)).cell' 7 (by rw [<- ek];rfl),aA h gk⟩,fun k h0 h1=>hE.ok zn k I I h0 h1,fun k h0 h1 V h=>hE.hS zn k P vn vp V I I h0 h1 (fun b hb=>?_) (hE.nd.ext (hx.trans' h)) (hE.pth.ext (hx.trans' h))⟩;have:=hE.hP b hb;have:=(hE.ext.trans' (hx.trans' h)).size;omega
theorem Gk (hE:lq t path f i n P vn vp w W x na a0 g4 g8 g Q R){wr:World}(hx:Ext W wr)(hu:Ag [2,3,4,8,9] a0 a){c:Nat}(e14:qq a 14 (c:Int))(hc:c<x.kids)(hn:n<path)(hR:R=⟨(cA t path f (x.kids.getD c 0) (n+1)).val,(cA t path f (x.kids.getD c 0) (n+1)).used+1,(cA t path f (x.kids.getD c 0) (n+1)).stop⟩):qw zb Q a wr:=by
 obtain ⟨bk,ok,zn,ez,-,-,r0,hok,hcall⟩:=vH hE hx hc;have sz:=hu.sz.trans hE.sz;have e2:=hu.get 2 hE.e2;have e3:=hu.get 3 hE.e3;have e4:=hu.get 4 hE.e4;have e9:=hu.get 9 hE.e9;have hpl:=hE.pl;have hro:=hok (n+1) I I;have hcl:=hcall (n+1) I I;rw [ez] at hR;have hs:=hx.size;have hkn:(c:Int)<(x.kids:Int):=by omega
 have hx0:Ext wr wr.drew:=(aq wr).drew';refine wp_seq (rD (fun V=>Ext wr V) (fun _=>true) 12 ?_);generalize wr.drew=V0 at *;refine dt 3 [0,1,2,3,4,5,6,7,8] (hS:=hx0) ?_;iterate 4 refine tv ?_ (hy:=by (intro w hw;obtain ⟨q0,q1,q2⟩:=r0 w hw;simp [execOp,go_sem, *];try rfl))
 refine tv ?_ (v:=qt bk (ok+c)) (hy:=by (intro w hw;simp [execOp,go_sem, *];try rfl));iterate 3 refine tv ?_ (hy:=by (intro w hw;obtain ⟨q0,q1,q2⟩:=r0 w hw;simp [execOp,go_sem, *];try rfl))
 refine tv ?_ (v:=.int .i64 ((n:Int)+1)) (hy:=by (intro w hw;simp [execOp,go_sem, *];exact wrI I I));refine t_e (vI (d:=15) (dc:=122) (xs:=#[.tmp 113,.tmp 118,.tmp 119,.tmp 121]) (L:=[2,3,4,8,9,113,118,119,121]) 9 10 11 hx0 ct ct (fun q hq=>by have:=hE.hP q hq;have:=hE.ext.size;omega) hcl (fun b h=>by simp [h.get 113 (v:=.agg #[vn]) ct,h.get 118 (v:=↑zn) ct,h.get 119 (v:=vp) (by simp [sz,e2]),h.get 121 (v:=.int .i64 ((n:Int)+1)) ct]) ?_);intro a6 w6 gb u6' e15 hRB hx6;have u6:Ag [8] a a6:=(by (repeat refine .put ?_ rfl);exact .rf:Ag [8] a _).trans (u6'.mono rfl);have sz6:=u6.sz.trans sz;clear u6' hcall hcl;obtain ⟨A,cc,Ab,mb,cb,xb,hB,hv,hrow,hsp,hng,hgb⟩:=hRB;generalize cA t path f zn (n+1)=rb at *;have hb0:=hro.used0;have hbP:=hro.usedP;refine rS ?_;have k4:=hB.cell' (u:=↑rb.used) 4 rfl;have f4:=hB.frozen 4;iterate 2 refine lv ?_
 refine lv (w1:=w6) (v:=.int .i64 (rb.used+1)) ?_ (hrun:=by simp [execOp,go_sem, *];try simp (disch:=omega) only [wrI]);refine lv ?_;refine ls (w1:=w6.setCell (qt gb 4) (.int .i64 (rb.used+1))) ?_ (hrun:=by simp [execOp,go_sem, *];try rfl);have hf:Fr (fun k=>k=gb) w6 (w6.setCell (qt gb 4) (.int .i64 (rb.used+1))):=(au (fun k=>k=gb) w6).setCell (p:=qt gb 4) (.inl rfl) _;have hB7:Blk (w6.setCell (qt gb 4) (.int .i64 (rb.used+1))) gb 146 (cC ⟨rb.val,rb.used+1,rb.stop⟩ A cc (.slice Ab mb cb)):=by simpa using hB.set_ 4 (.int .i64 (rb.used+1))
 have hv7:=hv.carry (Q:=fun b=>P b∨W<=b) (aB.of_fr hf (fun q hq e=>hq.2 e)) (fun b _ h=>h.1.imp id (fun h=>by omega));have hr7:=(cP hrow hf (fun q hq e=>hng (by rw [hq,e]))).base_le hs;have hx7:Ext W (w6.setCell (qt gb 4) (.int .i64 (rb.used+1))):=((ar (hx.trans' hx6)).trans hf).new_ext (fun k hk=>by omega);clear hf hB hv hrow k4 f4;generalize w6.setCell (qt gb 4) (.int .i64 (rb.used+1))=w7 at *;refine lE a6 [8] 15 ?_;intro a7 u7 e15;refine rS ?_;have sz7:=u7.sz.trans sz6;refine lv (w1:=w7) (v:=.agg (cC ⟨rb.val,rb.used+1,rb.stop⟩ A cc (.slice Ab mb cb))) ?_ (hrun:=by simp [execOp,go_sem,hB7.cell,e15];try rfl);exact lI hE hR (d:=127) hx7 (.put (((hu.mono rfl).trans u6).trans u7) rfl) hv7 hr7 hsp.succ (fun _ _ h=>wp_ret h) (by simp [sz7])
theorem Ix (hE:lq t path f i n P vn vp w W x na a0 g4 g8 g Q R)(hu:Ag [1,2,3,4,8,9] a0 a)(k0:¬ x.kind=0)(k3:¬ x.kind=3)(k4:¬ x.kind=4):qw Am Q a W:=by
 have sz:=hu.sz.trans hE.sz;have e1:=hu.get 1 hE.e1;have e2:=hu.get 2 hE.e2;have e3:=hu.get 3 hE.e3;have e9:=hu.get 9 hE.e9;have hst:=hE.step;unfold dZ at hst;rw [if_neg k0,if_neg k3,if_neg k4] at hst;obtain ⟨Ap,cp,rfl,-,-⟩:=hE.pth.form;refine wp_seq (rS ?_);iterate 4 refine lv ?_
 refine lE a [1,2,3,4,8,9] 88 ?_;intro a1 u1 e88;refine u1.b4 sz e1 e2 e3 e9 fun sz e1 e2 e3 e9=>?_
 by_cases hat:path<=n
 ·refine wp_cond_true (e88.trans (by simp [hat])) (rS ?_)
  rw [if_pos I] at hst;refine lv ?_;refine lv (w1:=W) (v:=.agg (cC ⟨cX,0,i⟩ none 0 qn)) ?_ (hrun:=by simp [execOp,go_sem,cX,GV.kind,GV.n,GV.s,GV.kids, *];try rfl);exact lI hE hst (d:=90) (.refl _) (.put (.put ((hu.mono rfl).trans (u1.mono rfl)) rfl) rfl) (VAt.zero _ _) (aT _ _ _ _) (tX.nil f) (fun _ _ h=>wp_ret h) ct
 refine wp_cond_false (e88.trans (by simp [hat])) (wp_skip (rS ?_));rw [if_neg I] at hst;have hatn:n<path:=by omega
 have hni:(n:Int)<(path:Int):=I;obtain ⟨bp,op,rfl,-,-,gp⟩:=hE.pth.get hatn;simp only [Int.toNat_natCast] at hst;generalize path.getD n 0=c at *;iterate 2 refine lv ?_
 refine lv (v:=qt bp (op+n)) ?_ (hrun:=by simp [execOp,go_sem, *];try rfl);iterate 2 refine lv ?_
 refine lE a1 [2,3,4,8,9] 14 ?_;intro a2 u2 e14;refine u2.b3 sz e2 e3 e9 fun sz e2 e3 e9=>?_
 have hbx:=hE.box
 have key:∀ (K:Exit->Act->World->Prop),(∀ b V,Ag [2,3,4,8,9,14] a2 b->Ext W V->qq b 102 (.bool (decide (c<0∨aP x<=c)))->K .normal b V)->qw (oS 17) K a2 W:=by
  intro K hK;by_cases hc0:c<0
  ·refine rW ?_
   iterate 3 refine lv ?_
   iterate 4 refine ln ?_
   refine lv ?_;refine lE a2 [2,3,4,8,9,14] 102 ?_;intro b u e;exact hK b _ u (.refl _) (e.trans (by simp [hc0]))
  ·refine rW ?_
   iterate 3 refine lv ?_
   refine ly ?_;refine ly (v:=fE x na) (w1:=W) ?_ (hrun:=by simp [execOp,go_sem,hbx.cell,aN,fE, *];try rfl);refine lcg Tryz.func78 (lB x na W) ?_;rintro e V ⟨rfl,hxV⟩;refine ⟨_,rfl,?_⟩;refine ly ?_;refine lv ?_;refine lE a2 [2,3,4,8,9,14] 102 ?_;intro b u e;exact hK b _ u hxV (e.trans (by simp [hc0]))
 refine wp_seq (wp_seq (key _ (fun a3 V u3 hxV e102=>?_)));clear key;refine u3.b2 sz e9 e14 fun sz e9 e14=>?_
 have uu:=((hu.mono (l':=[2,3,4,8,9]) rfl).trans (u1.mono rfl)).trans (u2.trans (u3.mono rfl));by_cases hb:c<0∨aP x<=c
 ·refine wp_cond_true (e102.trans (by simp [hb])) (rS ?_)
  rw [if_pos hb] at hst;refine lv (w1:=V) (v:=.agg (cC ⟨cX,0,-2⟩ none 0 qn)) ?_ (hrun:=by simp [execOp,go_sem,cX,GV.kind,GV.n,GV.s,GV.kids, *];try rfl);exact lI hE hst (d:=103) hxV (.put (uu.mono rfl) rfl) (VAt.zero _ _) (aT _ _ _ _) (tX.nil f) (fun _ _ h=>wp_ret h) ct
 refine wp_cond_false (e102.trans (by simp [hb])) (wp_skip (wp_seq (rS ?_)));rw [if_neg hb] at hst;have q0:=(hbx.ext hxV).cell' (u:=↑x.kind) 0 rfl;have q2:=(hbx.ext hxV).cell' (u:=↑x.lo) 2 rfl;iterate 3 refine lv ?_
 refine lE a3 [2,3,4,8,9,14] 106 ?_;intro a4 u4 e106;refine u4.b2 sz e9 e14 fun sz e9 e14=>?_
 replace uu:=uu.trans (u4.mono rfl);have hop:=dA hE.node;obtain ⟨cn,rfl⟩:∃ cn:Nat,c=(cn:Int):=⟨c.toNat,I⟩;by_cases k1:x.kind=1
 ·refine wp_cond_true (e106.trans ir) (rS ?_)
  rw [if_pos k1] at hst hop;have hnum:=aZ hE.node.numbers;have hI:I64 (x.lo+cn):=by unfold I64;omega
  iterate 3 refine lv ?_
  refine lv (w1:=V) (v:=.int .i64 (x.lo+cn)) ?_ (hrun:=by simp [execOp,go_sem, *];exact wrI hI.1 hI.2);refine lv (w1:=V) (v:=.agg #[qz,.int .i64 (x.lo+cn),qe,qn]) ?_ (hrun:=by simp [execOp,go_sem, *];try rfl);refine lv (w1:=V) (v:=.agg (cC ⟨.mk 0 (x.lo+cn) ByteArray.empty [],1,-1⟩ none 0 qn)) ?_ (hrun:=by simp [execOp,go_sem,GV.kind,GV.n,GV.s,GV.kids, *];try rfl);refine lI hE hst (d:=112) hxV ?_ (ye hI _ _) (aT _ _ _ _) (tX.nil f) (fun _ _ h=>wp_ret h) ct;iterate 6 refine .put ?_ rfl
  exact uu.mono rfl
 ·rw [if_neg k1] at hst hop
  exact wp_cond_false (e106.trans ir) (wp_skip (Gk hE hxV uu e14 I hatn hst))
theorem DS {Q2:Exit->Act->World->Prop}(hQ2:∀ a w,Q .ret a w->Q2 .ret a w)(hE:lq t path f i n P vn vp w W x na a0 g4 g8 g Q R)(hu:Ag [2,3,4,8,9] a0 a)(k4:x.kind=4):qw ug Q2 a W:=by
 have sz:=hu.sz.trans hE.sz;have e2:=hu.get 2 hE.e2;have e3:=hu.get 3 hE.e3;have e4:=hu.get 4 hE.e4;have e9:=hu.get 9 hE.e9;have hst:=hE.step;unfold dZ at hst;rw [if_neg I,if_neg I,if_pos k4] at hst;have hb:=hE.node.bind k4;have hmn:=hE.many k4;have hvl:=hE.vals k4;have hpl:=hE.pl;have hnp:=hE.hn;have hwW:=hE.ext.size;have hP:=hE.hP;have hk0:0<x.kids.length:=by omega
 obtain ⟨bk,ok,zn,ez,-,-,r0,hok,hcall⟩:=vH hE (aq W) hk0;simp only [Nat.add_zero] at r0;rw [ez] at hst hmn hvl;rw [Int.toNat_natCast] at hmn hvl;have hro:=hok n I I;have hcl:=hcall n I I;clear hok hcall;have hx0:Ext W W.drew:=(aq W).drew';refine wp_seq (rD (fun V=>Ext W V) (fun _=>true) 10 ?_);generalize W.drew=V0 at *;refine dt 3 [0,1,2,3,4,5,6] (hS:=hx0) ?_;iterate 3 refine tv ?_ (hy:=by (intro w hw;obtain ⟨q0,q1,q2⟩:=r0 w hw;simp [execOp,go_sem, *];try rfl))
 refine tv ?_ (v:=qt bk ok) (hy:=by (intro w hw;simp [execOp,go_sem, *];try rfl));iterate 3 refine tv ?_ (hy:=by (intro w hw;obtain ⟨q0,q1,q2⟩:=r0 w hw;simp [execOp,go_sem, *];try rfl))
 refine t_e (vI (d:=10) (dc:=44) (xs:=#[.tmp 37,.tmp 41,.tmp 42,.tmp 43]) (L:=[2,3,4,8,9,37,41,42,43]) 7 8 9 hx0 ct ct (fun q hq=>by have:=hP q hq;omega) hcl (fun b h=>by simp [h.get 37 (v:=.agg #[vn]) ct,h.get 41 (v:=↑zn) ct,h.get 42 (v:=vp) (by simp [sz,e2]),h.get 43 (v:=↑(n:Int)) (by simp [sz,e3])]) ?_);intro a6 w6 ga u6' e10 hRB hx6;have u6:Ag [2,3,4,8,9] a a6:=(by (repeat refine .put ?_ rfl);exact .rf:Ag [2,3,4,8,9] a _).trans (u6'.mono rfl);clear u6' hcl hx0;refine u6.b4 sz e2 e3 e4 e9 fun sz e2 e3 e4 e9=>?_
 obtain ⟨A,c,Aa,ma,ca,xa,hB,hv,hrow,hsp,hng,hga⟩:=hRB;generalize cA t path f zn n=ra at *;have ha0:=hro.used0;have haP:=hro.usedP;have lga:=hB.lt;have k5:=hB.cell' (u:=↑ra.stop) 5 rfl;refine wp_seq (rS ?_);iterate 3 refine lv ?_
 refine lE a6 [2,3,4,8,9,10] 47 ?_;intro a7 u7 e47;refine u7.b5 sz e2 e3 e4 e9 e10 fun sz e2 e3 e4 e9 e10=>?_
 have uu:=(hu.trans u6).trans (u7.mono rfl);by_cases hstp:ra.stop=-1
 case neg =>
  refine wp_cond_true (e47.trans (by simp [hstp])) (rS ?_);rw [if_neg hstp] at hst;refine lv (w1:=w6) (v:=.agg (cC ra A c (.slice Aa ma ca))) ?_ (hrun:=by simp [execOp,go_sem,hB.cell, *];try rfl);exact lI hE hst (d:=48) hx6 (.put (uu.mono rfl) rfl) (hv.carry (fun _ _ _=>rfl) (fun _ _ h=>h.1)) hrow hsp.succ (fun _ _ h=>wp_ret (hQ2 _ _ h)) ct
 refine wp_cond_false (e47.trans (by simp [hstp])) (wp_skip (rS ?_));rw [if_pos hstp] at hst;have hmem:=hro.mem hstp hmn;rw [hvl] at hmem;have hfm:=eN hE.node.inc hmem;have q6:=(hE.box.ext hx6).cell' (u:=.slice na.vA x.values na.vc) 6 rfl;have k0:=hB.cell' (u:=↑ra.val.kind) 0 rfl;have k1:=hB.cell' (u:=↑ra.val.n) 1 rfl;have k2:=hB.cell' (u:=ra.val.s) 2 rfl;have k3:=hB.cell' (u:=.slice A ra.val.kids c) 3 rfl;iterate 3 refine lv ?_
 refine lv (v:=cN ra.val A c) (w1:=w6) ?_ (hrun:=by simp [execOp,go_sem, *];try rfl);refine lc Tryz.func131 (pY x.values ra.val A c P _ _ w6 (hE.at_.values.ext hx6) hv) ?_;rintro e w8 ⟨rfl,hx8⟩;refine ⟨_,rfl,?_⟩;obtain ⟨q,bq⟩:∃ q,(bK x.values ra.val).1=q:=⟨_,rfl⟩;rw [bq] at hst hfm;iterate 5 refine lv ?_
 refine lE a7 [2,3,4,8,9,10] 11 (v:=↑(q:Int)) ?_ (he:=by simp [*];try rfl);intro a8 u8 e11;refine u8.b5 sz e2 e3 e4 e9 e10 fun sz e2 e3 e4 e9 e10=>?_
 replace uu:=uu.trans (u8.mono rfl);have hx68:=hx6.trans' hx8;have hs8:=hx8.size;have hvl2:=hE.at_.values.le;have hqk:q+1<x.kids.length:=by omega
 obtain ⟨bj,oj,zq,ez2,-,-,r2,hok2,hcall2⟩:=vH hE hx68 hqk;rw [ez2] at hst;have hB8:=hB.ext hx8;have hrow8:=hrow.ext_ hx8;have hao:∀ b,(Value.slice Aa ma ca).ownBlock=some b->W<=b∧b<w6:=fun b h=>⟨hrow.block_ge h,hrow.block_lt h⟩
 have r3:∀ V,Ext w8 V->qc V ga 4 ra.used:=fun V h=>(hB8.ext h).cell' 4 rfl
 have hcl:=hcall2 (n+ra.used) I I;have hro2:=hok2 (n+ra.used) I I;clear k0 k1 k2 k3 k5 q6 hok2 hcall2 r0 hrow hB hv e47 hro hmem;have hqn:((q:Int)+1).toNat=q+1:=by omega
 have hq0:(0:Int)<=(q:Int)+1:=I;have hx0:Ext w8 w8.drew:=(aq w8).drew';refine wp_seq (rD (fun V=>Ext w8 V) (fun _=>true) 15 ?_);generalize w8.drew=V1 at *;refine dt 3 [0,1,2,3,4,5,6,7,8,9,10,11] (hS:=hx0) ?_;iterate 4 refine tv ?_ (hy:=by (intro w hw;obtain ⟨q0,q1,q2⟩:=r2 w hw;simp [execOp,go_sem, *];try rfl))
 refine tv ?_ (v:=.int .i64 ((q:Int)+1)) (hy:=by (intro w hw;simp [execOp,go_sem, *];exact wrI I I));refine tv ?_ (v:=qt bj (oj+(q+1))) (hy:=by (intro w hw;simp [execOp,go_sem, *];try rfl));iterate 5 refine tv ?_ (hy:=by (intro w hw;obtain ⟨q0,q1,q2⟩:=r2 w hw;simp [execOp,go_sem, *];try rfl))
 refine tv ?_ (v:=.int .i64 ((n:Int)+ra.used)) (hy:=by (intro w hw;simp [execOp,go_sem, *];exact wrI I I));refine t_e (vI (d:=13) (dc:=69) (xs:=#[.tmp 57,.tmp 63,.tmp 64,.tmp 68]) (L:=[2,3,4,8,9,10,57,63,64,68]) 12 13 14 hx0 ct ct (fun q hq=>by have:=hP q hq;omega) hcl (fun b h=>by simp [h.get 57 (v:=.agg #[vn]) ct,h.get 63 (v:=↑zq) ct,h.get 64 (v:=vp) (by simp [sz,e2]),h.get 68 (v:=.int .i64 ((n:Int)+ra.used)) ct]) ?_);intro a9 w9 gb u9' e13 hRB hx9;have u9:Ag [2,3,4,8,9,10] a8 a9:=(by (repeat refine .put ?_ rfl);exact .rf:Ag [2,3,4,8,9,10] a8 _).trans (u9'.mono rfl);clear u9' hcl hx0;refine u9.b1 sz e10 fun sz e10=>?_
 replace uu:=uu.trans (u9.mono rfl);obtain ⟨A2,c2,Ab,mb,cb,xb,hB2,hv2,hrow2,hsp2,hng2,hgb⟩:=hRB;generalize cA t path f zq (n+ra.used)=rb at *;have hb0:=hro2.used0;have hbP:=hro2.usedP;have lgb:=hB2.lt;have hma:=hsp.le hE.hf;have hmb:=hsp2.le hE.hf;have hx69:=hx68.trans' hx9;have hS0:Blk w9.drew ga 146 (cC ra A c (.slice Aa ma ca))∧Blk w9.drew gb 146 (cC rb A2 c2 (.slice Ab mb cb)):=⟨(hB8.ext hx9).drew,hB2.drew⟩;have hd9:Ext w9 w9.drew:=(aq w9).drew';refine wp_seq (rD (fun V=>Blk V ga 146 (cC ra A c (.slice Aa ma ca))∧Blk V gb 146 (cC rb A2 c2 (.slice Ab mb cb))) (fun q=>q != 15) 16 ?_);have hrow9:=(hrow8.ext_ hx9).ext_ hd9;have hrow29:=hrow2.ext_ hd9;have hx9d:=hx69.trans' hd9;have hv9:=hv2.carry (aB.of_ext hd9) (fun _ _ h=>h);have hs9d:=hd9.size;generalize w9.drew=V2 at *;have r4:∀ V,Blk V ga 146 (cC ra A c (.slice Aa ma ca))∧Blk V gb 146 (cC rb A2 c2 (.slice Ab mb cb))->qc V ga 4 ra.used∧qc V ga 6 (.slice Aa ma ca)∧qc V gb 0 rb.val.kind∧qc V gb 1 rb.val.n∧qc V gb 2 rb.val.s∧qc V gb 3 (.slice A2 rb.val.kids c2)∧qc V gb 4 rb.used∧qc V gb 5 rb.stop∧qc V gb 6 (.slice Ab mb cb):=fun V h=>⟨h.1.cell' 4 rfl,h.1.cell' 6 rfl,h.2.cell' 0 rfl,h.2.cell' 1 rfl,h.2.cell' 2 rfl,h.2.cell' 3 rfl,h.2.cell' 4 rfl,h.2.cell' 5 rfl,h.2.cell' 6 rfl⟩
 refine dt 3 [0,1,2,3,4,5,6,7,8,9,10,11,12] (hS:=hS0) ?_;iterate 6 refine tv ?_ (hy:=by (intro w hw;obtain ⟨p0,p1,p2,p3,p4,p5,p6,p7,p8⟩:=r4 w hw;simp [execOp,go_sem, *];try rfl))
 refine tv ?_ (v:=.int .i64 (ra.used+rb.used)) (hy:=by (intro w hw;simp [execOp,go_sem, *];exact wrI I I));iterate 6 refine tv ?_ (hy:=by (intro w hw;obtain ⟨p0,p1,p2,p3,p4,p5,p6,p7,p8⟩:=r4 w hw;simp [execOp,go_sem, *];try rfl))
 refine t_e (da 13 Tryz.underlying144 Tryz.info193 hrow9 (T:=fun _=>True) (m9 hrow29) I I I hsp2.2 ?_);intro v7 w7 ho7 hf7 hb7;have hBa:=hS0.1.fr hf7 (fun e=>hng e);have hBb:=hS0.2.fr hf7 (fun e=>by have:=hao _ e.symm;omega);refine ⟨fun _=>⟨hBa,hBb⟩,?_⟩;obtain ⟨A7,c7,rfl,-,-,-⟩:=Sl.of_own ho7;have hx7:Ext W w7:=((ar hx9d).trans hf7).new_ext (fun b hb=>by have:=hao b hb.symm;omega)
 have hv7:=hv9.carry (Q:=fun b=>P b∨W<=b) (aB.of_fr hf7 (fun b hq hm=>by
  have:=hao b hm.symm;rcases hq.1 with h | h
  ·have:=hP b h;omega
  ·omega)) (fun b _ h=>h.1.imp id (fun h=>by omega))
 have hres7:=hE.res.ext hx7;refine dv 14 (w1:=w7) (v:=.agg (cC ⟨rb.val,ra.used+rb.used,rb.stop⟩ A2 c2 (.slice A7 (ma+mb) c7))) ?_ (hS:=fun _=>⟨hBa,hBb⟩) (hrun:=by simp [execOp,go_sem, *];try rfl);have e8:=uu.get 8 hE.e8;refine dq 15 (w1:=w7.setCells g8 0 (fU ⟨rb.val,ra.used+rb.used,rb.stop⟩ A2 c2 (.slice A7 (ma+mb) c7))) ?_ (hrun:=by simp [execOp,go_sem,hres7.cell,hres7.frozen, *];try rfl);refine d_E a9 [8] ?_;intro b u;exact wp_ret (hQ2 _ _ (Cm hE hst hx7 ((uu.mono rfl).trans u) hv7 ho7 (hsp.add hsp2)))
theorem EX {at_:Int}(hd:RdT t path)(hS:mY t path f)(hf:f<14)(hif:i<f+1)(hi:i<t)(h0:0<=at_)(h1:at_<=path)(hP:∀ b,P b->b<w)(ht:Nds w P vn t)(hvp:bL w P vp path):qg 109 #[.agg #[vn],↑i,vp,↑at_] w (kz P (cA t path (f+1) i at_) (6 ^ (f+1)) w):=by
 obtain ⟨n,rfl⟩:∃ n:Nat,at_=(n:Int):=⟨at_.toNat,I⟩;refine gD Tryz.func109 Lk rfl U (fun a Q sz df ea hQ=>?_);have e0:=ea 0 (.agg #[vn]) rfl;have e1:=ea 1 (↑(i:Int)) rfl;have e2:=ea 2 vp rfl;have e3:=ea 3 (↑(n:Int)) rfl;obtain ⟨An,cn,rfl,-⟩:=ht.form;obtain ⟨b1,o1,na,rfl,-,hna,hc1⟩:=ht.get hi;refine rS ?_;refine lv (w1:=w.alloc (qk #[.slice (qt b1 o1) t cn] 25)) (v:=qp w) ?_ (hrun:=by simp [execOp,go_sem, *];try rfl);obtain ⟨B1,x1,n1⟩:=nw w 25 #[.slice (qt b1 o1) t cn];generalize w.alloc (qk #[.slice (qt b1 o1) t cn] 25)=w1 at *;refine lv (w1:=w1.alloc (qk eU 146)) (v:=qp w1) ?_ (hrun:=by simp [execOp,go_sem, *];try rfl);obtain ⟨B2,x2,n2⟩:=nw w1 146 eU;generalize w1.alloc (qk eU 146)=w2 at *;refine lE2 a [1,2,3] 4 8 ?_;intro a1 u1 e4 e8;refine u1.c3 sz df e1 e2 e3 fun sz df e1 e2 e3=>?_
 have hc2:=hc1.ext (x1.trans' x2);have y0:=(B1.ext x2).cell' (u:=.slice (qt b1 o1) t cn) 0 rfl;have hii:(i:Int)<(t:Int):=by omega
 refine rS ?_;iterate 3 refine lv ?_
 refine lv (v:=qt b1 (o1+i*12)) ?_ (hrun:=by simp [execOp,go_sem, *];try rfl);refine lv (v:=fE (t.getD i default) na) (w1:=w2) ?_ (hrun:=by simp [execOp,go_sem,fE,hc2.c0,hc2.c1,hc2.c2,hc2.c3,hc2.c4,hc2.c5,hc2.c6,hc2.c7,hc2.c8,hc2.c9,hc2.c10,hc2.c11, *];try rfl);clear hc1 hc2;have hchk:=hd.good.at_ hi;have hfew:=hd.few _ (aC (d:=default) hi);have hst:cA t path (f+1) i n=dZ (cA t path f) path i (t.getD i default) n:=by simp only [cA,Int.toNat_natCast]
 have hnode:=hchk.node;have hmn:=hchk.many;have hvl:=hchk.vals;clear hchk;generalize t.getD i default=x at *;refine lv (w1:=w2.alloc (qk #[qz,qe,qz,qz,qn,qn,qn,qn,qz,qz,qe,qn] 60)) (v:=qp w2) ?_ (hrun:=by simp [execOp,go_sem, *];try rfl);obtain ⟨B3,x3,n3⟩:=nw w2 60 #[qz,qe,qz,qz,qn,qn,qn,qn,qz,qz,qe,qn];generalize w2.alloc (qk #[qz,qe,qz,qz,qn,qn,qn,qn,qz,qz,qe,qn] 60)=w3 at *;refine ls (w1:=w3.setCells w2 0 (aN x na)) ?_ (hrun:=by simp [execOp,go_sem,fE,aN,B3.cell,B3.frozen, *];try rfl);have B4:Blk (w3.setCells w2 0 (aN x na)) w2 60 (aN x na).toArray:=aF (aN x na) (cs:=[qz,qe,qz,qz,qn,qn,qn,qn,qz,qz,qe,qn]) 0 B3 (by simp [aN]);have hf4:Fr (fun k=>k=w2.heap.size) w3 (w3.setCells w2 0 (aN x na)):=(au _ w3).setCells _ 0 (.inl rfl);have x4:Ext w2 (w3.setCells w2 0 (aN x na)):=((ar x3).trans hf4).new_ext (fun k hk=>by omega);clear B3 hf4 x3;generalize w3.setCells w2 0 (aN x na)=W at *;refine lE a1 [1,2,3,4,8] 9 ?_;intro a0 u0 e9;refine u0.c5 sz df e1 e2 e3 e4 e8 fun sz df e1 e2 e3 e4 e8=>?_
 have hX:=(x1.trans' x2).trans' x4;have hE:lq t path f i n P (.slice (qt b1 o1) t cn) vp w W x na a0 w w1 w2 Q (cA t path (f+1) i n):=⟨sz,df,e1,e2,e3,e4,e8,e9,(B1.ext x2).ext x4,B2.ext x4,B4,hX,I,hP,ht.ext hX,hvp.ext hX,hna.ext hX,hS,hf,hif,hi,I,hd.path,fun z k h1 h2 h3 h4=>vG hd.good path hd.path f z k h1 h2 h3 h4,hnode,hfew,hmn,hvl,hst,hQ⟩;clear B1 B2 B4 x1 x2 x4 n1 n2 n3 y0 hna hmn hvl hd ea e0 u0 u1 hS hQ;generalize hr:cA t path (f+1) i n=R at *;clear hr;have hbx:=hE.box;have htr:=hE.tree.cell' (u:=.slice (qt b1 o1) t cn) 0 rfl;have q0:=hbx.cell' (u:=↑x.kind) 0 rfl;refine wp_seq (rS ?_);iterate 2 refine lv ?_
 refine lE a0 [1,2,3,4,8,9] 22 ?_;intro a1 u1 e22;refine u1.b4 sz e2 e3 e4 e9 fun sz e2 e3 e4 e9=>?_
 refine wp_block (rS ?_);iterate 2 refine lv ?_
 refine lE a1 [1,2,3,4,8,9,22] 23 ?_;intro a2 u2 e23;refine u2.b5 sz e2 e3 e4 e9 e22 fun sz e2 e3 e4 e9 e22=>?_
 have uu:=u1.trans (u2.mono rfl);by_cases k0:x.kind=0
 ·refine wp_cond_true (e23.trans jx) (rS ?_)
  unfold dZ at hst;rw [if_pos k0] at hst;refine lv ?_;refine lv (v:=cN x.value na.xA na.xc) (w1:=W) ?_ (hrun:=by simp [execOp,go_sem,hbx.cell,aN,cN, *];try rfl);refine lv (v:=.agg (cC ⟨x.value,0,-1⟩ na.xA na.xc qn)) (w1:=W) ?_ (hrun:=by simp [execOp,go_sem, *];try rfl);refine lI hE hst (d:=27) (.refl _) ?_ (hE.at_.value.keep (fun _ _ _=>rfl) (fun _ h=>.inl h)) (aT _ _ _ _) (tX.nil f) (fun _ _ h=>wp_ret h) ct;iterate 3 refine .put ?_ rfl
  exact uu.mono rfl
 refine wp_cond_false (e23.trans jx) (rS ?_);iterate 2 refine lv ?_
 refine lE a2 [1,2,3,4,8,9,22] 28 ?_;intro a3 u3 e28;refine u3.b5 sz e2 e3 e4 e9 e22 fun sz e2 e3 e4 e9 e22=>?_
 replace uu:=uu.trans (u3.mono rfl);by_cases k3:x.kind=3
 ·refine wp_cond_true (e28.trans jy) (rS ?_)
  unfold dZ at hst;rw [if_neg k0,if_pos k3] at hst;refine lv ?_;refine lv (v:=fE x na) (w1:=W) ?_ (hrun:=by simp [execOp,go_sem,hbx.cell,aN,fE, *];try rfl);iterate 2 refine lv ?_
  refine lc Tryz.func130 (Ij hE.hS hE.ok hE.node.kids hif hi (hE.few k3) hf (at_:=n) I h1 hE.pl (fun b hb=>by have:=hP b hb;have:=hX.size;omega) hE.nd hE.at_ hE.pth) ?_;rintro e V ⟨A,c,sv,m,xs,rfl,hv,hrow,hsp,hxV⟩;refine ⟨_,rfl,?_⟩;refine lI hE hst (d:=34) hxV ?_ hv hrow hsp (fun _ _ h=>wp_ret h) ct;iterate 5 refine .put ?_ rfl
  exact uu.mono rfl
 refine wp_cond_false (e28.trans jy) (rS ?_);iterate 2 refine lv ?_
 refine lE a3 [1,2,3,4,8,9] 35 ?_;intro a4 u4 e35;replace uu:=uu.trans (u4.mono rfl);by_cases k4:x.kind=4
 ·exact wp_cond_true (e35.trans jf) (DS (Q:=Q) (fun _ _ h=>h) hE (uu.mono rfl) k4)
 ·exact wp_cond_false (e35.trans jf) (wp_skip (Ix hE uu k0 k3 k4))
end
theorem Cy {t:List GN}{path:List Int}(hd:RdT t path):∀ f,f<=14->mY t path f
 | 0,_=>by intro i at_ P vn vp w hf;omega
 | f+1,hf14=>fun _ _ _ _ _ _ h1 h2 h3 h4 h5 h6 h7=>EX hd (Cy hd f I) I h1 h2 h3 h4 h5 h6 h7
