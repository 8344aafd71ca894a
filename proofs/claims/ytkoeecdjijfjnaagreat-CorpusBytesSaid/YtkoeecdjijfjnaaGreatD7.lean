/- Contracts and laws. Conditions: none. -/
import Derived.Test.YtkoeecdjijfjnaaGreatDP
set_option linter.all false
set_option maxRecDepth 100000
set_option maxHeartbeats 8000000
namespace Go.Proofs.YtkoeecdjijfjnaaGreat
open Go.RowKit
noncomputable def qB:=RG Tryz.f144
noncomputable abbrev aVh:Code:=.seq (qB 8) (.seq (.seq (qB 9) (.cond (.tmp 47) (.seq (qB 10) .ret) .skip)) (.seq (qB 11) (.seq (qB 12) (.seq (qB 13) .ret))))
noncomputable abbrev aVf:Code:=.seq (qB 21) (.seq (qB 22) (.seq (qB 23) .ret))
noncomputable abbrev aVg:Code:=.seq (.seq (qB 14) (.cond (.tmp 88) (.seq (qB 15) .ret) .skip)) (.seq (qB 16) (.seq (.seq (qB 17) (.cond (.tmp 102) (.seq (qB 18) .ret) .skip)) (.seq (.seq (qB 19) (.cond (.tmp 106) (.seq (qB 20) .ret) .skip)) aVf)))
noncomputable abbrev a2q:Code:=.seq (qB 0) (.seq (qB 1) (.seq (.seq (qB 2) (.block 0 (.seq (qB 3) (.cond (.tmp 23) (.seq (qB 4) .ret) (.seq (qB 5) (.cond (.tmp 28) (.seq (qB 6) .ret) (.seq (qB 7) (.cond (.tmp 35) aVh .skip)))))))) aVg))
theorem a3f:Tryz.f144.body=some a2q:=U
section
variable {t:List GN}{path:List Int}{f i n:Nat}{P:Nat->Prop}{vn vp:Value}{w W:World}{x:GN}{na:NA}{a0 a:Act}{g4 g8 g:Nat}{Q:Exit->Act->World->Prop}{R:GR}
structure aRb (t:List GN)(path:List Int)(f i n:Nat)(P:Nat->Prop)(vn vp:Value)(w W:World)(x:GN)(na:NA)(a0:Act)(g4 g8 g:Nat)(Q:Exit->Act->World->Prop)(R:GR):Prop where
 sz:a0.tmps.size=128
 df:a0.defers=[]
 e1:qq a0 1 (i:Int)
 e2:qq a0 2 vp
 e3:qq a0 3 (n:Int)
 e4:qq a0 4 (qp g4)
 e8:qq a0 8 (qp g8)
 e9:qq a0 9 (qp g)
 tree:Blk W g4 25 #[vn]
 res:Blk W g8 154 eO
 box:Blk W g 87 (aK x na).toArray
 ext:Ext w W
 lo:w<=g8
 hP:∀ b,P b->b<w
 nd:Nds W P vn t
 pth:Ints W P vp path
 at_:NAt W P x na
 hS:nX t path f
 hf:f<14
 hif:i<f+1
 hi:i<t
 hn:n<=path
 pl:path.length<=1000000000
 ok:∀ (z:Nat) (k:Int),z<f->z<t->0<=k->k<=path->pQ t path z k (bR t path f z k)
 node:dV i x
 few:x.kind=3->x.kids.length<=5
 many:x.kind=4->((aF t).getD (x.kids.getD 0 0).toNat default).many=false
 vals:x.kind=4->((aF t).getD (x.kids.getD 0 0).toNat default).vals=x.values
 step:R=dW (bR t path f) path i x n
 hQ:∀ (a':Act) (w':World) (v:Value),a'.defers=[]->(results Tryz.f144 a'.tmps).run Tryz.prog w'=.ok v w'->aMp P R (6 ^ (f+1)) w (.returned v) w'->Q .ret a' w'
theorem aDe (hE:aRb t path f i n P vn vp w W x na a0 g4 g8 g Q R){r}(hr:R=r){wr A c m sv xs}(hx:Ext W wr)(hu:Ag [8] a0 a)(hv:VAt wr (fun b=>P b∨W<=b) r.val A c)(hrow:wr.ownsRow W 254 3 sv m xs)(hsp:vQ m (6 ^ (f+1)) xs):Q .ret a (wr.setCells g8 0 (fN r A c sv)):=by
 subst hr;have hl:=hE.lo;have hg:=hE.res.lt;have hs:=hE.ext.size;have hf:Fr (fun k=>k=g8) wr (wr.setCells g8 0 (fN R A c sv)):=(au _ wr).setCells _ 0 (.inl rfl);have hb:=aG (fN R A c sv) (cs:=[qz,qz,qe,qn,qz,qz,qn]) 0 (hE.res.ext hx) O;have hX:Ext w (wr.setCells g8 0 (fN R A c sv)):=((ar (hE.ext.trans' hx)).trans hf).new_ext (fun k hk=>by omega);have e8:=hu.get 8 hE.e8;have q0:=hb.cell' (u:=↑R.val.kind) 0 rfl;have q1:=hb.cell' (u:=↑R.val.n) 1 rfl;have q2:=hb.cell' (u:=R.val.s) 2 rfl;have q3:=hb.cell' (u:=.slice A R.val.kids c) 3 rfl;have q4:=hb.cell' (u:=↑R.used) 4 rfl;have q5:=hb.cell' (u:=↑R.stop) 5 rfl;have q6:=hb.cell' (u:=sv) 6 rfl;exact hE.hQ a _ (.agg (bP R A c sv)) (hu.df.trans hE.df) (by simp [results,Tryz.results144,go_sem,evT e8,q0,q1,q2,q3,q4,q5,q6]) ⟨A,c,sv,m,xs,rfl,hv.carry (aB.of_fr hf (fun k hk h=>by rcases hk with hk | hk;(have:=hE.hP k hk;omega);omega)) (fun k _ h=>h.imp id (fun h=>by omega)),(gS hrow hf (fun k hk h=>by have:=hrow.block_ge hk;omega)).base_le hs,hsp,hX⟩
theorem lO (hE:aRb t path f i n P vn vp w W x na a0 g4 g8 g Q R){r:GR}(hr:R=r){ops:Array Oper}{o:Oper}{Q':Exit->Act->World->Prop}{wr:World}{A:Option Addr}{c m d:Nat}{sv:Value}{xs:List Value}(hx:Ext W wr)(hu:Ag [8] a0 a)(hv:VAt wr (fun b=>P b∨W<=b) r.val A c)(hrow:wr.ownsRow W 254 3 sv m xs)(hsp:vQ m (6 ^ (f+1)) xs)
  (hQ':∀ a' w',Q .ret a' w'->Q' .normal a' w')(he:qq a d (.agg (bP r A c sv)))(hop:o.op=.store 154 (.tmp 8) (.tmp d):=by exact rfl)(h1:o.guard=none:=by exact rfl)(h2:o.dst=none:=by exact rfl):WL ops Q' [o] a wr:=by
 have e8:=hu.get 8 hE.e8;have hres:=hE.res.ext hx;obtain ⟨As,cs,rfl,-,-,-⟩:=Sl.of_own hrow;refine ls (w1:=wr.setCells g8 0 (fN r A c (.slice As m cs))) ?_ h1 h2 (by simp [execOp,go_sem,hop,he,e8,hres.cell,hres.frozen];try rfl);exact bS (hQ' _ _ (aDe hE hr hx hu hv hrow hsp))
theorem wX (hE:aRb t path f i n P vn vp w W x na a0 g4 g8 g Q R){wr}(hx:Ext W wr){z:Nat}(hz:z<x.kids):∃ (bk ok zn:Nat),x.kids.getD z 0=(zn:Int)∧zn<f∧zn<t∧(∀ V,Ext wr V->qc V g4 0 vn∧qc V g 7 (.slice (qt bk ok) x.kids na.kc)∧qc V bk (ok+z) zn) ∧
  (∀ k:Int,0<=k->k<=path.length->pQ t path zn k (bR t path f zn k))∧∀ k:Int,0<=k->k<=path.length->∀ V,Ext wr V->qg 144 #[.agg #[vn],↑zn,vp,↑k] V (aMp P (bR t path f zn k) (6 ^ f) V):=by
 obtain ⟨bk,ok,ek,-,-,gk⟩:=(hE.at_.kids.ext hx).get hz;have h1:=hE.node.kids _ (aD (d:=0) hz);have hif:=hE.hif;have hi:=hE.hi;obtain ⟨zn,e⟩:∃ zn:Nat,x.kids.getD z 0=(zn:Int):=⟨(x.kids.getD z 0).toNat,I⟩;rw [e] at gk h1;refine ⟨bk,ok,zn,e,I,I,fun V h=>⟨(hE.tree.ext (hx.trans' h)).cell' 0 rfl,(hE.box.ext (hx.trans' h)).cell' 7 (by rw [<- ek];rfl),aA h gk⟩,fun k h0 h1=>hE.ok zn k I I h0 h1,fun k h0 h1 V h=>hE.hS zn k P vn vp V I I h0 h1 (fun b hb=>?_) (hE.nd.ext (hx.trans' h)) (hE.pth.ext (hx.trans' h))⟩;have:=hE.hP b hb;have:=(hE.ext.trans' (hx.trans' h)).size;omega
theorem aRy (hE:aRb t path f i n P vn vp w W x na a0 g4 g8 g Q R){wr}(hx:Ext W wr)(hu:Ag [2,3,4,8,9] a0 a){c:Nat}(e14:qq a 14 (c:Int))(hc:c<x.kids)(hn:n<path)(hR:R=⟨(bR t path f (x.kids.getD c 0) (n+1)).val,(bR t path f (x.kids.getD c 0) (n+1)).used+1,(bR t path f (x.kids.getD c 0) (n+1)).stop⟩):qw aVf Q a wr:=by
 obtain ⟨bk,ok,zn,ez,-,-,r0,hok,hcall⟩:=wX hE hx hc;have sz:=hu.sz.trans hE.sz;have e2:=hu.get 2 hE.e2;have e3:=hu.get 3 hE.e3;have e4:=hu.get 4 hE.e4;have e9:=hu.get 9 hE.e9;have hpl:=hE.pl;have hro:=hok (n+1) I I;have hcl:=hcall (n+1) I I;rw [ez] at hR;have hs:=hx.size;have hkn:(c:Int)<(x.kids:Int):=by omega
 have hx0:Ext wr wr.drew:=(aq wr).drew';refine wp_seq (rD (fun V=>Ext wr V) (fun _=>true) 12 ?_);generalize wr.drew=V0 at *;refine dt 3 [0,1,2,3,4,5,6,7,8] (hS:=hx0) ?_;iterate 4 refine tv ?_ (hy:=by (intro w hw;obtain ⟨q0,q1,q2⟩:=r0 w hw;simp [execOp,go_sem, *];try rfl))
 refine tv ?_ (v:=qt bk (ok+c)) (hy:=by (intro w hw;simp [execOp,go_sem, *];try rfl));iterate 3 refine tv ?_ (hy:=by (intro w hw;obtain ⟨q0,q1,q2⟩:=r0 w hw;simp [execOp,go_sem, *];try rfl))
 refine tv ?_ (v:=.int .i64 ((n:Int)+1)) (hy:=by (intro w hw;simp [execOp,go_sem, *];exact wrI I I));refine t_e (wY (d:=15) (dc:=122) (xs:=#[.tmp 113,.tmp 118,.tmp 119,.tmp 121]) (L:=[2,3,4,8,9,113,118,119,121]) 9 10 11 hx0 ci ci (fun q hq=>by have:=hE.hP q hq;have:=hE.ext.size;omega) hcl (fun b h=>by simp [h.get 113 (v:=.agg #[vn]) ci,h.get 118 (v:=↑zn) ci,h.get 119 (v:=vp) (by simp [sz,e2]),h.get 121 (v:=.int .i64 ((n:Int)+1)) ci]) ?_);intro a6 w6 gb u6' e15 hRB hx6;have u6:Ag [8] a a6:=(by (repeat refine .put ?_ rfl);exact .rf:Ag [8] a _).trans (u6'.mono rfl);have sz6:=u6.sz.trans sz;clear u6' hcall hcl;obtain ⟨A,cc,Ab,mb,cb,xb,hB,hv,hrow,hsp,hng,hgb⟩:=hRB;generalize bR t path f zn (n+1)=rb at *;have hb0:=hro.used0;have hbP:=hro.usedP;refine rS ?_;have k4:=hB.cell' (u:=↑rb.used) 4 rfl;have f4:=hB.frozen 4;iterate 2 refine lv ?_
 refine lv (w1:=w6) (v:=.int .i64 (rb.used+1)) ?_ (hrun:=by simp [execOp,go_sem, *];try simp (disch:=omega) only [wrI]);refine lv ?_;refine ls (w1:=w6.setCell (qt gb 4) (.int .i64 (rb.used+1))) ?_ (hrun:=by simp [execOp,go_sem, *];try rfl);have hf:Fr (fun k=>k=gb) w6 (w6.setCell (qt gb 4) (.int .i64 (rb.used+1))):=(au (fun k=>k=gb) w6).setCell (p:=qt gb 4) (.inl rfl) _;have hB7:Blk (w6.setCell (qt gb 4) (.int .i64 (rb.used+1))) gb 154 (bP ⟨rb.val,rb.used+1,rb.stop⟩ A cc (.slice Ab mb cb)):=by simpa using hB.set_ 4 (.int .i64 (rb.used+1))
 have hv7:=hv.carry (Q:=fun b=>P b∨W<=b) (aB.of_fr hf (fun q hq e=>hq.2 e)) (fun b _ h=>h.1.imp id (fun h=>by omega));have hr7:=(gS hrow hf (fun q hq e=>hng (by rw [hq,e]))).base_le hs;have hx7:Ext W (w6.setCell (qt gb 4) (.int .i64 (rb.used+1))):=((ar (hx.trans' hx6)).trans hf).new_ext (fun k hk=>by omega);clear hf hB hv hrow k4 f4;generalize w6.setCell (qt gb 4) (.int .i64 (rb.used+1))=w7 at *;refine lE a6 [8] 15 ?_;intro a7 u7 e15;refine rS ?_;have sz7:=u7.sz.trans sz6;refine lv (w1:=w7) (v:=.agg (bP ⟨rb.val,rb.used+1,rb.stop⟩ A cc (.slice Ab mb cb))) ?_ (hrun:=by simp [execOp,go_sem,hB7.cell,e15];try rfl);exact lO hE hR (d:=127) hx7 (.put (((hu.mono rfl).trans u6).trans u7) rfl) hv7 hr7 hsp.succ (fun _ _ h=>wp_ret h) (by simp [sz7])
theorem aRz (hE:aRb t path f i n P vn vp w W x na a0 g4 g8 g Q R)(hu:Ag [1,2,3,4,8,9] a0 a)(k0:¬ x.kind=0)(k3:¬ x.kind=3)(k4:¬ x.kind=4):qw aVg Q a W:=by
 have sz:=hu.sz.trans hE.sz;have e1:=hu.get 1 hE.e1;have e2:=hu.get 2 hE.e2;have e3:=hu.get 3 hE.e3;have e9:=hu.get 9 hE.e9;have hst:=hE.step;unfold dW at hst;rw [if_neg k0,if_neg k3,if_neg k4] at hst;obtain ⟨Ap,cp,rfl,-,-⟩:=hE.pth.form;refine wp_seq (rS ?_);iterate 4 refine lv ?_
 refine lE a [1,2,3,4,8,9] 88 ?_;intro a1 u1 e88;refine u1.b4 sz e1 e2 e3 e9 fun sz e1 e2 e3 e9=>?_
 by_cases hat:path<=n
 ·refine wp_cond_true (e88.trans (by simp [hat])) (rS ?_)
  rw [if_pos I] at hst;refine lv ?_;refine lv (w1:=W) (v:=.agg (bP ⟨cO,0,i⟩ none 0 qn)) ?_ (hrun:=by simp [execOp,go_sem,cO,GV.kind,GV.n,GV.s,GV.kids, *];try rfl);exact lO hE hst (d:=90) (.refl _) (.put (.put ((hu.mono rfl).trans (u1.mono rfl)) rfl) rfl) (VAt.zero _ _) (aP _ _ _ _) (vQ.nil f) (fun _ _ h=>wp_ret h) ci
 refine wp_cond_false (e88.trans (by simp [hat])) (wp_skip (rS ?_));rw [if_neg I] at hst;have hatn:n<path:=by omega
 have hni:(n:Int)<(path:Int):=I;obtain ⟨bp,op,rfl,-,-,gp⟩:=hE.pth.get hatn;simp only [Int.toNat_natCast] at hst;generalize path.getD n 0=c at *;iterate 2 refine lv ?_
 refine lv (v:=qt bp (op+n)) ?_ (hrun:=by simp [execOp,go_sem, *];try rfl);iterate 2 refine lv ?_
 refine lE a1 [2,3,4,8,9] 14 ?_;intro a2 u2 e14;refine u2.b3 sz e2 e3 e9 fun sz e2 e3 e9=>?_
 have hbx:=hE.box
 have key:∀ (K:Exit->Act->World->Prop),(∀ b V,Ag [2,3,4,8,9,14] a2 b->Ext W V->qq b 102 (.bool (decide (c<0∨aW x<=c)))->K .normal b V)->qw (qB 17) K a2 W:=by
  intro K hK;by_cases hc0:c<0
  ·refine rW ?_
   iterate 3 refine lv ?_
   iterate 4 refine ln ?_
   refine lv ?_;refine lE a2 [2,3,4,8,9,14] 102 ?_;intro b u e;exact hK b _ u (.refl _) (e.trans (by simp [hc0]))
  ·refine rW ?_
   iterate 3 refine lv ?_
   refine ly ?_;refine ly (v:=fU x na) (w1:=W) ?_ (hrun:=by simp [execOp,go_sem,hbx.cell,aK,fU, *];try rfl);refine lcg Tryz.func99 (lG x na W) ?_;rintro e V ⟨rfl,hxV⟩;refine ⟨_,rfl,?_⟩;refine ly ?_;refine lv ?_;refine lE a2 [2,3,4,8,9,14] 102 ?_;intro b u e;exact hK b _ u hxV (e.trans (by simp [hc0]))
 refine wp_seq (wp_seq (key _ (fun a3 V u3 hxV e102=>?_)));clear key;refine u3.b2 sz e9 e14 fun sz e9 e14=>?_
 have uu:=((hu.mono (l':=[2,3,4,8,9]) rfl).trans (u1.mono rfl)).trans (u2.trans (u3.mono rfl));by_cases hb:c<0∨aW x<=c
 ·refine wp_cond_true (e102.trans (by simp [hb])) (rS ?_)
  rw [if_pos hb] at hst;refine lv (w1:=V) (v:=.agg (bP ⟨cO,0,-2⟩ none 0 qn)) ?_ (hrun:=by simp [execOp,go_sem,cO,GV.kind,GV.n,GV.s,GV.kids, *];try rfl);exact lO hE hst (d:=103) hxV (.put (uu.mono rfl) rfl) (VAt.zero _ _) (aP _ _ _ _) (vQ.nil f) (fun _ _ h=>wp_ret h) ci
 refine wp_cond_false (e102.trans (by simp [hb])) (wp_skip (wp_seq (rS ?_)));rw [if_neg hb] at hst;have q0:=(hbx.ext hxV).cell' (u:=↑x.kind) 0 rfl;have q2:=(hbx.ext hxV).cell' (u:=↑x.lo) 2 rfl;iterate 3 refine lv ?_
 refine lE a3 [2,3,4,8,9,14] 106 ?_;intro a4 u4 e106;refine u4.b2 sz e9 e14 fun sz e9 e14=>?_
 replace uu:=uu.trans (u4.mono rfl);have hop:=iJ hE.node;obtain ⟨cn,rfl⟩:∃ cn:Nat,c=(cn:Int):=⟨c.toNat,I⟩;by_cases k1:x.kind=1
 ·refine wp_cond_true (e106.trans jc) (rS ?_)
  rw [if_pos k1] at hst hop;have hnum:=cS hE.node.numbers;have hI:I64 (x.lo+cn):=by unfold I64;omega
  iterate 3 refine lv ?_
  refine lv (w1:=V) (v:=.int .i64 (x.lo+cn)) ?_ (hrun:=by simp [execOp,go_sem, *];exact wrI hI.1 hI.2);refine lv (w1:=V) (v:=.agg #[qz,.int .i64 (x.lo+cn),qe,qn]) ?_ (hrun:=by simp [execOp,go_sem, *];try rfl);refine lv (w1:=V) (v:=.agg (bP ⟨.mk 0 (x.lo+cn) ByteArray.empty [],1,-1⟩ none 0 qn)) ?_ (hrun:=by simp [execOp,go_sem,GV.kind,GV.n,GV.s,GV.kids, *];try rfl);refine lO hE hst (d:=112) hxV ?_ (aI6 hI _ _) (aP _ _ _ _) (vQ.nil f) (fun _ _ h=>wp_ret h) ci;iterate 6 refine .put ?_ rfl
  exact uu.mono rfl
 ·rw [if_neg k1] at hst hop
  exact wp_cond_false (e106.trans jc) (wp_skip (aRy hE hxV uu e14 I hatn hst))
theorem aR0 {Q2}(hQ2:∀ a w,Q .ret a w->Q2 .ret a w)(hE:aRb t path f i n P vn vp w W x na a0 g4 g8 g Q R)(hu:Ag [2,3,4,8,9] a0 a)(k4:x.kind=4):qw aVh Q2 a W:=by
 have sz:=hu.sz.trans hE.sz;have e2:=hu.get 2 hE.e2;have e3:=hu.get 3 hE.e3;have e4:=hu.get 4 hE.e4;have e9:=hu.get 9 hE.e9;have hst:=hE.step;unfold dW at hst;rw [if_neg I,if_neg I,if_pos k4] at hst;have hb:=hE.node.bind k4;have hmn:=hE.many k4;have hvl:=hE.vals k4;have hpl:=hE.pl;have hnp:=hE.hn;have hwW:=hE.ext.size;have hP:=hE.hP;have hk0:0<x.kids.length:=by omega
 obtain ⟨bk,ok,zn,ez,-,-,r0,hok,hcall⟩:=wX hE (aq W) hk0;simp only [Nat.add_zero] at r0;rw [ez] at hst hmn hvl;rw [Int.toNat_natCast] at hmn hvl;have hro:=hok n I I;have hcl:=hcall n I I;clear hok hcall;have hx0:Ext W W.drew:=(aq W).drew';refine wp_seq (rD (fun V=>Ext W V) (fun _=>true) 10 ?_);generalize W.drew=V0 at *;refine dt 3 [0,1,2,3,4,5,6] (hS:=hx0) ?_;iterate 3 refine tv ?_ (hy:=by (intro w hw;obtain ⟨q0,q1,q2⟩:=r0 w hw;simp [execOp,go_sem, *];try rfl))
 refine tv ?_ (v:=qt bk ok) (hy:=by (intro w hw;simp [execOp,go_sem, *];try rfl));iterate 3 refine tv ?_ (hy:=by (intro w hw;obtain ⟨q0,q1,q2⟩:=r0 w hw;simp [execOp,go_sem, *];try rfl))
 refine t_e (wY (d:=10) (dc:=44) (xs:=#[.tmp 37,.tmp 41,.tmp 42,.tmp 43]) (L:=[2,3,4,8,9,37,41,42,43]) 7 8 9 hx0 ci ci (fun q hq=>by have:=hP q hq;omega) hcl (fun b h=>by simp [h.get 37 (v:=.agg #[vn]) ci,h.get 41 (v:=↑zn) ci,h.get 42 (v:=vp) (by simp [sz,e2]),h.get 43 (v:=↑(n:Int)) (by simp [sz,e3])]) ?_);intro a6 w6 ga u6' e10 hRB hx6;have u6:Ag [2,3,4,8,9] a a6:=(by (repeat refine .put ?_ rfl);exact .rf:Ag [2,3,4,8,9] a _).trans (u6'.mono rfl);clear u6' hcl hx0;refine u6.b4 sz e2 e3 e4 e9 fun sz e2 e3 e4 e9=>?_
 obtain ⟨A,c,Aa,ma,ca,xa,hB,hv,hrow,hsp,hng,hga⟩:=hRB;generalize bR t path f zn n=ra at *;have ha0:=hro.used0;have haP:=hro.usedP;have lga:=hB.lt;have k5:=hB.cell' (u:=↑ra.stop) 5 rfl;refine wp_seq (rS ?_);iterate 3 refine lv ?_
 refine lE a6 [2,3,4,8,9,10] 47 ?_;intro a7 u7 e47;refine u7.b5 sz e2 e3 e4 e9 e10 fun sz e2 e3 e4 e9 e10=>?_
 have uu:=(hu.trans u6).trans (u7.mono rfl);by_cases hstp:ra.stop=-1
 case neg =>
  refine wp_cond_true (e47.trans (by simp [hstp])) (rS ?_);rw [if_neg hstp] at hst;refine lv (w1:=w6) (v:=.agg (bP ra A c (.slice Aa ma ca))) ?_ (hrun:=by simp [execOp,go_sem,hB.cell, *];try rfl);exact lO hE hst (d:=48) hx6 (.put (uu.mono rfl) rfl) (hv.carry (fun _ _ _=>rfl) (fun _ _ h=>h.1)) hrow hsp.succ (fun _ _ h=>wp_ret (hQ2 _ _ h)) ci
 refine wp_cond_false (e47.trans (by simp [hstp])) (wp_skip (rS ?_));rw [if_pos hstp] at hst;have hmem:=hro.mem hstp hmn;rw [hvl] at hmem;have hfm:=jZ hE.node.inc hmem;have q6:=(hE.box.ext hx6).cell' (u:=.slice na.vA x.values na.vc) 6 rfl;have k0:=hB.cell' (u:=↑ra.val.kind) 0 rfl;have k1:=hB.cell' (u:=↑ra.val.n) 1 rfl;have k2:=hB.cell' (u:=ra.val.s) 2 rfl;have k3:=hB.cell' (u:=.slice A ra.val.kids c) 3 rfl;iterate 3 refine lv ?_
 refine lv (v:=dA ra.val A c) (w1:=w6) ?_ (hrun:=by simp [execOp,go_sem, *];try rfl);refine lc Tryz.func184 (rM x.values ra.val A c P _ _ w6 (hE.at_.values.ext hx6) hv) ?_;rintro e w8 ⟨rfl,hx8⟩;refine ⟨_,rfl,?_⟩;obtain ⟨q,bq⟩:∃ q,(cU x.values ra.val).1=q:=⟨_,rfl⟩;rw [bq] at hst hfm;iterate 5 refine lv ?_
 refine lE a7 [2,3,4,8,9,10] 11 (v:=↑(q:Int)) ?_ (he:=by simp [*];try rfl);intro a8 u8 e11;refine u8.b5 sz e2 e3 e4 e9 e10 fun sz e2 e3 e4 e9 e10=>?_
 replace uu:=uu.trans (u8.mono rfl);have hx68:=hx6.trans' hx8;have hs8:=hx8.size;have hvl2:=hE.at_.values.le;have hqk:q+1<x.kids.length:=by omega
 obtain ⟨bj,oj,zq,ez2,-,-,r2,hok2,hcall2⟩:=wX hE hx68 hqk;rw [ez2] at hst;have hB8:=hB.ext hx8;have hrow8:=hrow.ext_ hx8;have hao:∀ b,(Value.slice Aa ma ca).ownBlock=some b->W<=b∧b<w6:=fun b h=>⟨hrow.block_ge h,hrow.block_lt h⟩
 have r3:∀ V,Ext w8 V->qc V ga 4 ra.used:=fun V h=>(hB8.ext h).cell' 4 rfl
 have hcl:=hcall2 (n+ra.used) I I;have hro2:=hok2 (n+ra.used) I I;clear k0 k1 k2 k3 k5 q6 hok2 hcall2 r0 hrow hB hv e47 hro hmem;have hqn:((q:Int)+1).toNat=q+1:=by omega
 have hq0:(0:Int)<=(q:Int)+1:=I;have hx0:Ext w8 w8.drew:=(aq w8).drew';refine wp_seq (rD (fun V=>Ext w8 V) (fun _=>true) 15 ?_);generalize w8.drew=V1 at *;refine dt 3 [0,1,2,3,4,5,6,7,8,9,10,11] (hS:=hx0) ?_;iterate 4 refine tv ?_ (hy:=by (intro w hw;obtain ⟨q0,q1,q2⟩:=r2 w hw;simp [execOp,go_sem, *];try rfl))
 refine tv ?_ (v:=.int .i64 ((q:Int)+1)) (hy:=by (intro w hw;simp [execOp,go_sem, *];exact wrI I I));refine tv ?_ (v:=qt bj (oj+(q+1))) (hy:=by (intro w hw;simp [execOp,go_sem, *];try rfl));iterate 5 refine tv ?_ (hy:=by (intro w hw;obtain ⟨q0,q1,q2⟩:=r2 w hw;simp [execOp,go_sem, *];try rfl))
 refine tv ?_ (v:=.int .i64 ((n:Int)+ra.used)) (hy:=by (intro w hw;simp [execOp,go_sem, *];exact wrI I I));refine t_e (wY (d:=13) (dc:=69) (xs:=#[.tmp 57,.tmp 63,.tmp 64,.tmp 68]) (L:=[2,3,4,8,9,10,57,63,64,68]) 12 13 14 hx0 ci ci (fun q hq=>by have:=hP q hq;omega) hcl (fun b h=>by simp [h.get 57 (v:=.agg #[vn]) ci,h.get 63 (v:=↑zq) ci,h.get 64 (v:=vp) (by simp [sz,e2]),h.get 68 (v:=.int .i64 ((n:Int)+ra.used)) ci]) ?_);intro a9 w9 gb u9' e13 hRB hx9;have u9:Ag [2,3,4,8,9,10] a8 a9:=(by (repeat refine .put ?_ rfl);exact .rf:Ag [2,3,4,8,9,10] a8 _).trans (u9'.mono rfl);clear u9' hcl hx0;refine u9.b1 sz e10 fun sz e10=>?_
 replace uu:=uu.trans (u9.mono rfl);obtain ⟨A2,c2,Ab,mb,cb,xb,hB2,hv2,hrow2,hsp2,hng2,hgb⟩:=hRB;generalize bR t path f zq (n+ra.used)=rb at *;have hb0:=hro2.used0;have hbP:=hro2.usedP;have lgb:=hB2.lt;have hma:=hsp.le hE.hf;have hmb:=hsp2.le hE.hf;have hx69:=hx68.trans' hx9;have hS0:Blk w9.drew ga 154 (bP ra A c (.slice Aa ma ca))∧Blk w9.drew gb 154 (bP rb A2 c2 (.slice Ab mb cb)):=⟨(hB8.ext hx9).drew,hB2.drew⟩;have hd9:Ext w9 w9.drew:=(aq w9).drew';refine wp_seq (rD (fun V=>Blk V ga 154 (bP ra A c (.slice Aa ma ca))∧Blk V gb 154 (bP rb A2 c2 (.slice Ab mb cb))) (fun q=>q != 15) 16 ?_);have hrow9:=(hrow8.ext_ hx9).ext_ hd9;have hrow29:=hrow2.ext_ hd9;have hx9d:=hx69.trans' hd9;have hv9:=hv2.carry (aB.of_ext hd9) (fun _ _ h=>h);have hs9d:=hd9.size;generalize w9.drew=V2 at *;have r4:∀ V,Blk V ga 154 (bP ra A c (.slice Aa ma ca))∧Blk V gb 154 (bP rb A2 c2 (.slice Ab mb cb))->qc V ga 4 ra.used∧qc V ga 6 (.slice Aa ma ca)∧qc V gb 0 rb.val.kind∧qc V gb 1 rb.val.n∧qc V gb 2 rb.val.s∧qc V gb 3 (.slice A2 rb.val.kids c2)∧qc V gb 4 rb.used∧qc V gb 5 rb.stop∧qc V gb 6 (.slice Ab mb cb):=fun V h=>⟨h.1.cell' 4 rfl,h.1.cell' 6 rfl,h.2.cell' 0 rfl,h.2.cell' 1 rfl,h.2.cell' 2 rfl,h.2.cell' 3 rfl,h.2.cell' 4 rfl,h.2.cell' 5 rfl,h.2.cell' 6 rfl⟩
 refine dt 3 [0,1,2,3,4,5,6,7,8,9,10,11,12] (hS:=hS0) ?_;iterate 6 refine tv ?_ (hy:=by (intro w hw;obtain ⟨p0,p1,p2,p3,p4,p5,p6,p7,p8⟩:=r4 w hw;simp [execOp,go_sem, *];try rfl))
 refine tv ?_ (v:=.int .i64 (ra.used+rb.used)) (hy:=by (intro w hw;simp [execOp,go_sem, *];exact wrI I I));iterate 6 refine tv ?_ (hy:=by (intro w hw;obtain ⟨p0,p1,p2,p3,p4,p5,p6,p7,p8⟩:=r4 w hw;simp [execOp,go_sem, *];try rfl))
 refine t_e (da 13 Tryz.underlying152 Tryz.info254 hrow9 (T:=fun _=>True) (aM6 hrow29) I I I hsp2.2 ?_);intro v7 w7 ho7 hf7 hb7;have hBa:=hS0.1.fr hf7 (fun e=>hng e);have hBb:=hS0.2.fr hf7 (fun e=>by have:=hao _ e.symm;omega);refine ⟨fun _=>⟨hBa,hBb⟩,?_⟩;obtain ⟨A7,c7,rfl,-,-,-⟩:=Sl.of_own ho7;have hx7:Ext W w7:=((ar hx9d).trans hf7).new_ext (fun b hb=>by have:=hao b hb.symm;omega)
 have hv7:=hv9.carry (Q:=fun b=>P b∨W<=b) (aB.of_fr hf7 (fun b hq hm=>by
  have:=hao b hm.symm;rcases hq.1 with h | h
  ·have:=hP b h;omega
  ·omega)) (fun b _ h=>h.1.imp id (fun h=>by omega))
 have hres7:=hE.res.ext hx7;refine dv 14 (w1:=w7) (v:=.agg (bP ⟨rb.val,ra.used+rb.used,rb.stop⟩ A2 c2 (.slice A7 (ma+mb) c7))) ?_ (hS:=fun _=>⟨hBa,hBb⟩) (hrun:=by simp [execOp,go_sem, *];try rfl);have e8:=uu.get 8 hE.e8;refine dq 15 (w1:=w7.setCells g8 0 (fN ⟨rb.val,ra.used+rb.used,rb.stop⟩ A2 c2 (.slice A7 (ma+mb) c7))) ?_ (hrun:=by simp [execOp,go_sem,hres7.cell,hres7.frozen, *];try rfl);refine d_E a9 [8] ?_;intro b u;exact wp_ret (hQ2 _ _ (aDe hE hst hx7 ((uu.mono rfl).trans u) hv7 ho7 (hsp.add hsp2)))
theorem aK4 {at_:Int}(hd:RdT t path)(hS:nX t path f)(hf:f<14)(hif:i<f+1)(hi:i<t)(h0:0<=at_)(h1:at_<=path)(hP:∀ b,P b->b<w)(ht:Nds w P vn t)(hvp:Ints w P vp path):qg 144 #[.agg #[vn],↑i,vp,↑at_] w (aMp P (bR t path (f+1) i at_) (6 ^ (f+1)) w):=by
 obtain ⟨n,rfl⟩:∃ n:Nat,at_=(n:Int):=⟨at_.toNat,I⟩;refine bW Tryz.func144 a3f rfl O (fun a Q sz df ea hQ=>?_);have e0:=ea 0 (.agg #[vn]) rfl;have e1:=ea 1 (↑(i:Int)) rfl;have e2:=ea 2 vp rfl;have e3:=ea 3 (↑(n:Int)) rfl;obtain ⟨An,cn,rfl,-⟩:=ht.form;obtain ⟨b1,o1,na,rfl,-,hna,hc1⟩:=ht.get hi;refine rS ?_;refine lv (w1:=w.alloc (qk #[.slice (qt b1 o1) t cn] 25)) (v:=qp w) ?_ (hrun:=by simp [execOp,go_sem, *];try rfl);obtain ⟨B1,x1,n1⟩:=nw w 25 #[.slice (qt b1 o1) t cn];generalize w.alloc (qk #[.slice (qt b1 o1) t cn] 25)=w1 at *;refine lv (w1:=w1.alloc (qk eO 154)) (v:=qp w1) ?_ (hrun:=by simp [execOp,go_sem, *];try rfl);obtain ⟨B2,x2,n2⟩:=nw w1 154 eO;generalize w1.alloc (qk eO 154)=w2 at *;refine lE2 a [1,2,3] 4 8 ?_;intro a1 u1 e4 e8;refine u1.c3 sz df e1 e2 e3 fun sz df e1 e2 e3=>?_
 have hc2:=hc1.ext (x1.trans' x2);have y0:=(B1.ext x2).cell' (u:=.slice (qt b1 o1) t cn) 0 rfl;have hii:(i:Int)<(t:Int):=by omega
 refine rS ?_;iterate 3 refine lv ?_
 refine lv (v:=qt b1 (o1+i*12)) ?_ (hrun:=by simp [execOp,go_sem, *];try rfl);refine lv (v:=fU (t.getD i default) na) (w1:=w2) ?_ (hrun:=by simp [execOp,go_sem,fU,hc2.c0,hc2.c1,hc2.c2,hc2.c3,hc2.c4,hc2.c5,hc2.c6,hc2.c7,hc2.c8,hc2.c9,hc2.c10,hc2.c11, *];try rfl);clear hc1 hc2;have hchk:=hd.good.at_ hi;have hfew:=hd.few _ (aD (d:=default) hi);have hst:bR t path (f+1) i n=dW (bR t path f) path i (t.getD i default) n:=by simp only [bR,Int.toNat_natCast]
 have hnode:=hchk.node;have hmn:=hchk.many;have hvl:=hchk.vals;clear hchk;generalize t.getD i default=x at *;refine lv (w1:=w2.alloc (qk #[qz,qe,qz,qz,qn,qn,qn,qn,qz,qz,qe,qn] 87)) (v:=qp w2) ?_ (hrun:=by simp [execOp,go_sem, *];try rfl);obtain ⟨B3,x3,n3⟩:=nw w2 87 #[qz,qe,qz,qz,qn,qn,qn,qn,qz,qz,qe,qn];generalize w2.alloc (qk #[qz,qe,qz,qz,qn,qn,qn,qn,qz,qz,qe,qn] 87)=w3 at *;refine ls (w1:=w3.setCells w2 0 (aK x na)) ?_ (hrun:=by simp [execOp,go_sem,fU,aK,B3.cell,B3.frozen, *];try rfl);have B4:Blk (w3.setCells w2 0 (aK x na)) w2 87 (aK x na).toArray:=aG (aK x na) (cs:=[qz,qe,qz,qz,qn,qn,qn,qn,qz,qz,qe,qn]) 0 B3 (by simp [aK]);have hf4:Fr (fun k=>k=w2.heap.size) w3 (w3.setCells w2 0 (aK x na)):=(au _ w3).setCells _ 0 (.inl rfl);have x4:Ext w2 (w3.setCells w2 0 (aK x na)):=((ar x3).trans hf4).new_ext (fun k hk=>by omega);clear B3 hf4 x3;generalize w3.setCells w2 0 (aK x na)=W at *;refine lE a1 [1,2,3,4,8] 9 ?_;intro a0 u0 e9;refine u0.c5 sz df e1 e2 e3 e4 e8 fun sz df e1 e2 e3 e4 e8=>?_
 have hX:=(x1.trans' x2).trans' x4;have hE:aRb t path f i n P (.slice (qt b1 o1) t cn) vp w W x na a0 w w1 w2 Q (bR t path (f+1) i n):=⟨sz,df,e1,e2,e3,e4,e8,e9,(B1.ext x2).ext x4,B2.ext x4,B4,hX,I,hP,ht.ext hX,hvp.ext hX,hna.ext hX,hS,hf,hif,hi,I,hd.path,fun z k h1 h2 h3 h4=>wW hd.good path hd.path f z k h1 h2 h3 h4,hnode,hfew,hmn,hvl,hst,hQ⟩;clear B1 B2 B4 x1 x2 x4 n1 n2 n3 y0 hna hmn hvl hd ea e0 u0 u1 hS hQ;generalize hr:bR t path (f+1) i n=R at *;clear hr;have hbx:=hE.box;have htr:=hE.tree.cell' (u:=.slice (qt b1 o1) t cn) 0 rfl;have q0:=hbx.cell' (u:=↑x.kind) 0 rfl;refine wp_seq (rS ?_);iterate 2 refine lv ?_
 refine lE a0 [1,2,3,4,8,9] 22 ?_;intro a1 u1 e22;refine u1.b4 sz e2 e3 e4 e9 fun sz e2 e3 e4 e9=>?_
 refine wp_block (rS ?_);iterate 2 refine lv ?_
 refine lE a1 [1,2,3,4,8,9,22] 23 ?_;intro a2 u2 e23;refine u2.b5 sz e2 e3 e4 e9 e22 fun sz e2 e3 e4 e9 e22=>?_
 have uu:=u1.trans (u2.mono rfl);by_cases k0:x.kind=0
 ·refine wp_cond_true (e23.trans jd) (rS ?_)
  unfold dW at hst;rw [if_pos k0] at hst;refine lv ?_;refine lv (v:=dA x.value na.xA na.xc) (w1:=W) ?_ (hrun:=by simp [execOp,go_sem,hbx.cell,aK,dA, *];try rfl);refine lv (v:=.agg (bP ⟨x.value,0,-1⟩ na.xA na.xc qn)) (w1:=W) ?_ (hrun:=by simp [execOp,go_sem, *];try rfl);refine lO hE hst (d:=27) (.refl _) ?_ (hE.at_.value.keep (fun _ _ _=>rfl) (fun _ h=>.inl h)) (aP _ _ _ _) (vQ.nil f) (fun _ _ h=>wp_ret h) ci;iterate 3 refine .put ?_ rfl
  exact uu.mono rfl
 refine wp_cond_false (e23.trans jd) (rS ?_);iterate 2 refine lv ?_
 refine lE a2 [1,2,3,4,8,9,22] 28 ?_;intro a3 u3 e28;refine u3.b5 sz e2 e3 e4 e9 e22 fun sz e2 e3 e4 e9 e22=>?_
 replace uu:=uu.trans (u3.mono rfl);by_cases k3:x.kind=3
 ·refine wp_cond_true (e28.trans je) (rS ?_)
  unfold dW at hst;rw [if_neg k0,if_pos k3] at hst;refine lv ?_;refine lv (v:=fU x na) (w1:=W) ?_ (hrun:=by simp [execOp,go_sem,hbx.cell,aK,fU, *];try rfl);iterate 2 refine lv ?_
  refine lc Tryz.func183 (aHe hE.hS hE.ok hE.node.kids hif hi (hE.few k3) hf (at_:=n) I h1 hE.pl (fun b hb=>by have:=hP b hb;have:=hX.size;omega) hE.nd hE.at_ hE.pth) ?_;rintro e V ⟨A,c,sv,m,xs,rfl,hv,hrow,hsp,hxV⟩;refine ⟨_,rfl,?_⟩;refine lO hE hst (d:=34) hxV ?_ hv hrow hsp (fun _ _ h=>wp_ret h) ci;iterate 5 refine .put ?_ rfl
  exact uu.mono rfl
 refine wp_cond_false (e28.trans je) (rS ?_);iterate 2 refine lv ?_
 refine lE a3 [1,2,3,4,8,9] 35 ?_;intro a4 u4 e35;replace uu:=uu.trans (u4.mono rfl);by_cases k4:x.kind=4
 ·exact wp_cond_true (e35.trans js) (aR0 (Q:=Q) (fun _ _ h=>h) hE (uu.mono rfl) k4)
 ·exact wp_cond_false (e35.trans js) (wp_skip (aRz hE uu k0 k3 k4))
end
theorem aDf {t path}(hd:RdT t path):∀ f,f<=14->nX t path f
 | 0,_=>by intro i at_ P vn vp w hf;omega
 | f+1,hf14=>fun _ _ _ _ _ _ h1 h2 h3 h4 h5 h6 h7=>aK4 hd (aDf hd f I) I h1 h2 h3 h4 h5 h6 h7
def bF (t:List GN)(path:List Int):GR :=
 if (bR t path t ((t:Int) - 1) 0).stop=-1∧(bR t path t ((t:Int) - 1) 0).used<path then ⟨(bR t path t ((t:Int) - 1) 0).val,(bR t path t ((t:Int) - 1) 0).used,-2⟩
 else bR t path t ((t:Int) - 1) 0
def aZh (P:Nat->Prop)(r:GR)(w:World)(e:Ending)(w':World):Prop :=
 ∃ A c sv,e=.returned (.agg (bP r A c sv))∧VAt w' (New P w) r.val A c∧(∃ A3 m c3,sv=.slice A3 m c3)∧Ext w w'
noncomputable def R98:=RG Tryz.f98
noncomputable abbrev c98:Code:=.seq (R98 0) (.seq (R98 1) (.seq (.seq (R98 2) (.cond (.tmp 22) (R98 3) .skip)) (.seq (R98 4) .ret)))
theorem b98:Tryz.f98.body=some c98:=U
theorem qU (t path)(P:Nat->Prop)(vn vp)(w:World)(hd:RdT t path)(hne:0<t.length)(hP:∀ b,P b->b<w)(ht:Nds w P vn t)(hvp:Ints w P vp path) :
  qg 98 #[.agg #[vn],vp] w (aZh P (bF t path) w):=by
 refine bW Tryz.func98 b98 rfl O (fun a Q sz df ea hQ=>?_);have e0:=ea 0 (.agg #[vn]) rfl;have e1:=ea 1 vp rfl;obtain ⟨An,cn,rfl,-⟩:=ht.form;obtain ⟨Ap,cp,rfl,-⟩:=hvp.form;have hsm:=hd.small;obtain ⟨n,hn⟩:∃ n:Nat,t.length=n+1:=⟨t.length - 1,I⟩;have hn1:(t:Int) - 1=(n:Int):=by omega
 clear hn;refine rS ?_;refine lv (w1:=w.alloc (qk #[.slice An t cn] 25)) (v:=qp w) ?_ (hrun:=by simp [execOp,go_sem, *];try rfl);obtain ⟨B1,x1,n1⟩:=nw w 25 #[.slice An t cn];generalize w.alloc (qk #[.slice An t cn] 25)=w1 at *;refine lv (w1:=w1.alloc (qk eO 154)) (v:=qp w1) ?_ (hrun:=by simp [execOp,go_sem, *];try rfl);obtain ⟨B2,x2,n2⟩:=nw w1 154 eO;generalize w1.alloc (qk eO 154)=W at *;refine lE2 a [1] 2 4 ?_;intro a1 u1 e2 e4;refine u1.c1 sz df e1 fun sz df e1=>?_
 have y0:=(B1.ext x2).cell' (u:=.slice An t cn) 0 rfl;have hX:=x1.trans' x2;refine rS ?_;iterate 4 refine lv ?_
 refine lv (w1:=W) (v:=↑(n:Int)) ?_ (hrun:=by simp [execOp,go_sem, *];try simp (disch:=omega) only [wrI]);refine lv ?_;refine lc Tryz.func144 (aDf hd t hsm n 0 P _ _ W I I (Int.le_refl _) I (fun b hb=>by have:=hP b hb;have:=hX.size;omega) (ht.ext hX) (hvp.ext hX)) ?_;rintro e w3 ⟨A,c,sv,m,xs,rfl,hv,hrow,-,hx3⟩;refine ⟨_,rfl,?_⟩;obtain ⟨As,cs,rfl,-,-,-⟩:=Sl.of_own hrow;have hRR:bF t path=if (bR t path t n 0).stop=-1∧(bR t path t n 0).used<path then ⟨(bR t path t n 0).val,(bR t path t n 0).used,-2⟩ else bR t path t n 0:=by rw [<- hn1];rfl
 generalize bR t path t n 0=r at *;refine lv (w1:=w3.alloc (qk eO 154)) (v:=qp w3) ?_ (hrun:=by simp [execOp,go_sem, *];try rfl);obtain ⟨B4,x4,n4⟩:=nw w3 154 eO;generalize w3.alloc (qk eO 154)=w4 at *;refine ls (w1:=w4.setCells w3 0 (fN r A c (.slice As m cs))) ?_ (hrun:=by simp [execOp,go_sem,B4.cell,B4.frozen,sz];try rfl);have B5:Blk (w4.setCells w3 0 (fN r A c (.slice As m cs))) w3 154 (bP r A c (.slice As m cs)):=aG (fN r A c (.slice As m cs)) (cs:=[qz,qz,qe,qn,qz,qz,qn]) 0 B4 O;have hf5:Fr (fun k=>k=w3.heap.size) w4 (w4.setCells w3 0 (fN r A c (.slice As m cs))):=(au _ w4).setCells _ 0 (.inl rfl);have x5:Ext w3 (w4.setCells w3 0 (fN r A c (.slice As m cs))):=((ar x4).trans hf5).new_ext (fun k hk=>by omega);clear B4 hf5 x4;generalize w4.setCells w3 0 (fN r A c (.slice As m cs))=w5 at *;refine lE a1 [1,4] 5 ?_;intro a5 u5 e5;refine u5.c2 sz df e1 e4 fun sz df e1 e4=>?_
 have c2:=B5.cell' (u:=↑r.used) 4 rfl;have c3:=B5.cell' (u:=↑r.stop) 5 rfl;have f3:=B5.frozen 5;have hv5:VAt w5 (fun b=>(P b∨W<=b)∧b<w3) r.val A c:=(hv.carry (Q:=fun b=>(P b∨W<=b)∧b<w3) (fun _ _ _=>rfl) (fun b hb h=>⟨h,hb⟩)).carry (aB.of_ext x5) (fun _ _ h=>h);have hx5:=hx3.trans' x5;have hs3:=hx3.size
 have hend:∀ (a6:Act) (w6:World) (s:Int),Ag [4,5] a5 a6->Blk w6 w3 154 (bP ⟨r.val,r.used,s⟩ A c (.slice As m cs))->Fr (fun k=>k=w3.heap.size) w5 w6->bF t path=⟨r.val,r.used,s⟩->qw (.seq (R98 4) .ret) Q a6 w6:=by
  intro a6 w6 s u6 B6 hf6 hr;refine u6.c2 sz df e4 e5 fun sz df e4 e5=>?_
  have B7:=((B2.ext hx5).fr hf6 I);refine rS ?_;refine lv (w1:=w6) (v:=.agg (bP ⟨r.val,r.used,s⟩ A c (.slice As m cs))) ?_ (hrun:=by simp [execOp,go_sem,B6.cell,e5];try rfl);refine ls (w1:=w6.setCells w1 0 (fN ⟨r.val,r.used,s⟩ A c (.slice As m cs))) ?_ (hrun:=by simp [execOp,go_sem,B7.cell,B7.frozen,sz,e4];try rfl);have hb:=aG (fN ⟨r.val,r.used,s⟩ A c (.slice As m cs)) (cs:=[qz,qz,qe,qn,qz,qz,qn]) 0 B7 O;have hf8:Fr (fun k=>k=w1.heap.size) w6 (w6.setCells w1 0 (fN ⟨r.val,r.used,s⟩ A c (.slice As m cs))):=(au _ w6).setCells _ 0 (.inl rfl);have hF:=(hf6.mono (N:=fun k=>k=w1.heap.size∨k=w3.heap.size) (fun _ h=>.inr h)).trans (hf8.mono fun _ h=>.inl h);have q0:=hb.cell' (u:=↑r.val.kind) 0 rfl;have q1:=hb.cell' (u:=↑r.val.n) 1 rfl;have q2:=hb.cell' (u:=r.val.s) 2 rfl;have q3:=hb.cell' (u:=.slice A r.val.kids c) 3 rfl;have q4:=hb.cell' (u:=↑r.used) 4 rfl;have q5:=hb.cell' (u:=↑s) 5 rfl;have q6:=hb.cell' (u:=.slice As m cs) 6 rfl;refine lN a6 [4] ?_;intro a7 u7
  refine wp_ret (hQ _ _ (.agg (bP ⟨r.val,r.used,s⟩ A c (.slice As m cs))) (u7.df.trans df) (by simp [results,Tryz.results98,go_sem,evT (u7.get 4 e4),q0,q1,q2,q3,q4,q5,q6]) (by rw [hr];exact ⟨A,c,_,rfl,hv5.carry (aB.of_fr hF (fun k hk h=>by
   rcases hk.1 with h' | h'
   ·have:=hP k h';omega
   ·omega)) (fun b _ h=>h.1.imp id (fun h=>by omega)),⟨_,_,_,rfl⟩,((ar (hX.trans' hx5)).trans hF).new_ext (fun k hk=>by omega)⟩))
 have key:∀ (K:Exit->Act->World->Prop),(∀ b,Ag [4,5] a5 b->qq b 22 (.bool (decide (r.stop=-1∧r.used<path)))->K .normal b w5)->qw (R98 2) K a5 w5:=by
  intro K hK;by_cases hs:r.stop=-1
  ·have ts:(r.stop == -1)=true:=a4d hs
   refine rW ?_;iterate 4 refine lv ?_
   iterate 5 refine ly ?_
   refine lv ?_;refine lE a5 [4,5] 22 ?_;intro b u e;exact hK b u (e.trans jf)
  ·have ts:(r.stop == -1)=false:=a4c hs
   refine rW ?_;iterate 4 refine lv ?_
   iterate 5 refine ln ?_
   refine lv ?_;refine lE a5 [4,5] 22 ?_;intro b u e;exact hK b u (e.trans jf)
 refine wp_seq (wp_seq (key _ (fun a6 u6 e22=>?_)));clear key;by_cases hb:r.stop=-1∧r.used<path
 ·rw [if_pos hb] at hRR
  refine wp_cond_true (e22.trans (by simp [hb])) (rW ?_);refine u6.b1 sz e5 fun sz e5=>?_
  refine lv ?_;refine ls (w1:=w5.setCell (qt w3 5) (.int .i64 (-2))) ?_ (hrun:=by simp [execOp,go_sem, *];try rfl);refine lN a6 [4,5] ?_;intro a7 u7;exact hend a7 _ (-2) (u6.trans u7) (by simpa using B5.set_ 5 (.int .i64 (-2))) ((au (fun k=>k=w3.heap.size) w5).setCell (p:=qt w3 5) (.inl rfl) _) hRR
 ·rw [if_neg hb] at hRR
  exact wp_cond_false (e22.trans (by simp [hb])) (wp_skip (hend a6 _ r.stop u6 B5 (au _ _) hRR))
def aWz (w:World)(g:Nat)(a b c d e f h:Value):World :=
 ((((((w.setCell (qp g) a).setCell (qt g 1) b).setCell (qt g 2) c).setCell (qt g 3) d).setCell (qt g 4) e).setCell (qt g 5) f).setCell (qt g 6) h
theorem aDa {w g t c0 c1 c2 c3 c4 c5 c6}(h:Blk w g t #[c0,c1,c2,c3,c4,c5,c6])(u0 u1 u2 u3 u4 u5 u6):Blk (aWz w g u0 u1 u2 u3 u4 u5 u6) g t #[u0,u1,u2,u3,u4,u5,u6]:=by
 have h1:=((((((h.set_ 0 u0).set_ 1 u1).set_ 2 u2).set_ 3 u3).set_ 4 u4).set_ 5 u5).set_ 6 u6;simp only [List.setIfInBounds_toArray,List.set_cons_zero,List.set_cons_succ] at h1;exact h1
theorem aC9 {w g base e size v n xs}(h:w.ownsRow base e size v n xs)(hg:g<base)(u0 u1 u2 u3 u4 u5 u6):(aWz w g u0 u1 u2 u3 u4 u5 u6).ownsRow base e size v n xs :=
 ownsRow_setCell_below (ownsRow_setCell_below (ownsRow_setCell_below (ownsRow_setCell_below (ownsRow_setCell_below (ownsRow_setCell_below (ownsRow_setCell_below h (a:=qp g) hg _) (a:=qt g 1) hg _) (a:=qt g 2) hg _) (a:=qt g 3) hg _) (a:=qt g 4) hg _) (a:=qt g 5) hg _) (a:=qt g 6) hg _
theorem Ints.of_own {w base v l Q}(ho:w.ownsRow base 3 1 v l (l.map (Value.int .i64)))(h64:∀ x ∈ l,I64 x)(hl:l.length<=17592186044416)(hQ:∀ b,v.ownBlock=some b->Q b):Ints w Q v l:=by
 obtain ⟨A,c,e,h1,h2,h3⟩:=Sl.of_own ho;unfold maxLen at h2;exact ⟨A,c,e,h1,⟨hl,h2⟩,h64,h3 Q hQ⟩
def lenOf:Value->Nat
 | .slice _ n _=>n
 | _=>0
theorem aE7 {t path}(hd:RdT t path)(hne:0<t.length):pQ t path (t.length - 1) 0 (bR t path t ((t:Int) - 1) 0):=by
 have:=wW hd.good path hd.path t (t.length - 1) 0 I I (Int.le_refl _) I;rw [show ((t:Int) - 1)=((t.length - 1:Nat):Int) by omega];exact this
theorem aF9 {t path}(hd:RdT t path)(hne:0<t.length)(h:0<=(bF t path).stop) :
  (bF t path).stop<t∧path.length<256∧((t.getD (bF t path).stop.toNat default).kind=1∨(t.getD (bF t path).stop.toNat default).kind=2):=by
 have hr:=aE7 hd hne;unfold bF at h ⊢;generalize bR t path t ((t:Int) - 1) 0=r at *;have hl:=(lT hd.good (t.length - 1) I).bd.2;split at h
 ·exact absurd h O
 ·next hc =>
  rw [if_neg hc];rcases hr.stop with hs | hs | ⟨h1,h2,h3,h4⟩
  ·omega
  ·omega
  ·exact ⟨I,I,h3⟩
theorem aG2 {M w0 w g}(h:Fr M w0 w)(hg:M g)(u0 u1 u2 u3 u4 u5 u6):Fr M w0 (aWz w g u0 u1 u2 u3 u4 u5 u6) :=
 ((((((h.setCell (p:=qp g) (.inl hg) _).setCell (p:=qt g 1) (.inl hg) _).setCell (p:=qt g 2) (.inl hg) _).setCell (p:=qt g 3) (.inl hg) _).setCell (p:=qt g 4) (.inl hg) _).setCell (p:=qt g 5) (.inl hg) _).setCell (p:=qt g 6) (.inl hg) _
def a0y (P:Nat->Prop)(w:World)(e:Ending)(w':World):Prop :=
 ∃ (v:Value) (p:List Int) (n:Int),e=.returned (.tuple #[v,↑n])∧Ints w' (New P w) v p∧p.length<=256∧Ext w w'
def a06 (t:List GN)(P:Nat->Prop)(W:World)(g:Nat)(v:Value)(wr:World):Prop :=
 ∃ (p:List Int) (A:Option Addr) (c:Nat) (A3:Option Addr) (m c3:Nat),wr.ownsRow W 3 1 v p (p.map (Value.int .i64))∧Blk wr g 154 (bP (bF t p) A c (.slice A3 m c3))∧(∀ x ∈ p,I64 x)∧p.length<=256∧Fr (fun b=>b=g) W wr
