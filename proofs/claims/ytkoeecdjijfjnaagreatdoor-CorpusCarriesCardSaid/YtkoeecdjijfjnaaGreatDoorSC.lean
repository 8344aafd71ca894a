/- Contracts and laws. Conditions: none. -/
import Derived.Test.YtkoeecdjijfjnaaGreatDoorTA
set_option linter.all false
set_option maxRecDepth 100000
set_option maxHeartbeats 8000000
namespace Go.Proofs.YtkoeecdjijfjnaaGreatDoor
open Go.RowKit
noncomputable def DB:=RG Tryz.f14 0
noncomputable def tj:=RG Tryz.f14 1
noncomputable def EI:=RG Tryz.f14 2
noncomputable def Ee:=RG Tryz.f14 3
noncomputable def Ah:=RG Tryz.f14 4
noncomputable def zx:=RG Tryz.f14 5
noncomputable def yd:=RG Tryz.f14 6
noncomputable def Jd:=RG Tryz.f14 7
noncomputable def Hg:=RG Tryz.f14 8
variable {Q:Exit->Act->World->Prop}{a:Act}{w:World}
theorem Ii {bx ox n c n' c' k by_ oy:Nat}{A1 A2:Option Addr}{n1 d1 n2 d2:Nat}{x1 x2 x3 x5:Int}{x4:Bool}(hsz:a.tmps.size=68)(e0:qq a 0 (.slice (qt bx ox) n c))(e1:qq a 1 (.slice (qt by_ oy) n' c'))(e5:qq a 5 (k:Int))(hk:(k:Int)<(n:Int))(hk':(k:Int)<(n':Int))
  (hx:∀ w',Ext w w'->qc w' bx (ox+k*6) (.slice A1 n1 d1)∧qc w' bx (ox+k*6+1) x1∧qc w' bx (ox+k*6+2) x2∧qc w' bx (ox+k*6+3) x3∧qc w' bx (ox+k*6+4) x4∧qc w' bx (ox+k*6+5) x5)
  (hy:∀ w',Ext w w'->qc w' by_ (oy+k*6) (.slice A2 n2 d2)∧qc w' by_ (oy+k*6+1) x1∧qc w' by_ (oy+k*6+2) x2∧qc w' by_ (oy+k*6+3) x3∧qc w' by_ (oy+k*6+4) x4∧qc w' by_ (oy+k*6+5) x5)
  (hc:∀ w1,Ext w w1->Calls Tryz.prog 40 #[.slice A1 n1 d1,.slice A2 n2 d2] w1 fun e w'=>e=.returned true∧Ext w w')
  (h:∀ a' w',Ext w w'->Ag [0,1,4,5] a a'->qq a' 67 false->Q .normal a' w'):qw yd Q a w:=by
 conv=>arg 2;whnf
 refine cU (fun w'=>Ext w w') av av (aq w).drew' ?_;iterate 10 refine q_v rfl rfl (fun w hw=>by simp [execOp,go_sem,hx w hw,hy w hw, *];rfl) ?_
 refine q_c rfl rfl rfl Tryz.func40 dd dd hc ba ?_;iterate 2 refine q_v rfl rfl (fun w hw=>by simp [execOp,go_sem, *];rfl) ?_
 iterate 11 refine q_y rfl rfl rfl ba cd rfl (fun w hw=>by simp [execOp,go_sem,hx w hw,hy w hw, *];rfl) ?_
 iterate 2 refine q_v rfl rfl (fun w hw=>by simp [execOp,go_sem, *];rfl) ?_
 iterate 11 refine q_y rfl rfl rfl ba cd rfl (fun w hw=>by simp [execOp,go_sem,hx w hw,hy w hw, *];rfl) ?_
 iterate 2 refine q_v rfl rfl (fun w hw=>by simp [execOp,go_sem, *];rfl) ?_
 iterate 11 refine q_y rfl rfl rfl ba cd rfl (fun w hw=>by simp [execOp,go_sem,hx w hw,hy w hw, *];rfl) ?_
 iterate 1 refine q_v rfl rfl (fun w hw=>by simp [execOp,go_sem, *];rfl) ?_
 exact l6 (fun w' hw=>h _ w' hw O ba)
theorem Gs {A:Option Addr}{n c k:Nat}(hsz:a.tmps.size=68)(e0:qq a 0 (.slice A n c))(e5:qq a 5 (k:Int))
  (h:∀ a',Ag [0,1,4,5] a a'->qq a' 14 (decide (k<n))->Q .normal a' w):qw Ah Q a w:=by
 refine rW ?_;iterate 4 refine lV ?_
 exact aV (h _ O ba)
theorem Jf {A B:Option Addr}{n c c':Nat}(hsz:a.tmps.size=68)(e0:qq a 0 (.slice A n c))(e1:qq a 1 (.slice B n c'))
  (h:∀ a',Ag [0,1,4,5] a a'->qq a' 10 false->Q .normal a' w):qw tj Q a w:=by
 refine rW ?_;iterate 5 refine lV ?_
 exact aV (h _ O ba)
theorem Jl {k:Nat}(hsz:a.tmps.size=68)(e5:qq a 5 (k:Int))(hw:IntKind.i64.wrap ((k:Int)+1)=(k:Int)+1)
  (h:∀ a',Ag [0,1,4] a a'->qq a' 5 (.int .i64 ((k+1:Nat):Int))->Q .normal a' w):qw zx Q a w:=by
 refine rW ?_;iterate 3 refine lV ?_
 exact aV (h _ O ba)
noncomputable abbrev D8:Code:=.seq (.seq Ah (.cond (.tmp 14) .skip (.exit 0))) (.seq (.block 1 (.seq yd (.cond (.tmp 67) (.seq Jd .ret) .skip))) zx)
noncomputable abbrev Bt:Code:=.seq DB (.seq (.seq tj (.cond (.tmp 10) (.seq EI .ret) .skip)) (.seq (.seq Ee (.block 0 (.loop D8))) (.seq Hg .ret)))
theorem DT:Tryz.f14.body=some Bt:=av
def I17 (L:List GE)(a0:Act)(ws:World)(k:Nat)(a:Act)(w:World):Prop:=Ag [0,1] a0 a∧k<=L∧qq a 5 (k:Int)∧Ext ws w
theorem Kl {L:List GE}{P1 P2:Nat->Prop}{A B:Option Addr}{c d:Nat}{R:Exit->Act->World->Prop}(hfew:L.length<=100000)(hx:Ens w P1 (.slice A L c) L)(hy:Ens w P2 (.slice B L d) L)(hsz:a.tmps.size=68)(e0:qq a 0 (.slice A L c))(e1:qq a 1 (.slice B L d))
  (hR:∀ a' w',a'.defers=a.defers->qq a' 4 true->Ext w w'->R .ret a' w'):qw Bt R a w:=by
 refine wp_seq ?_;refine rW ?_;iterate 1 refine lV ?_
 refine aV ?_;refine wp_seq (wp_seq (Jf (A:=A) (B:=B) (n:=L.length) (c:=c) (c':=d) ba ba ba ?_));intro a1 g1 e10;refine wp_cond_false e10 (wp_skip ?_);refine wp_seq (wp_seq ?_);have z1:a1.tmps.size=68:=by rw [g1.sz];simp [*]
 refine rW ?_;iterate 1 refine l_v rfl rfl (by simp [execOp,go_sem,z1];exact ⟨rfl,rfl⟩) ?_
 refine aV ?_;have g2:Ag [0,1] a (Pt a1 5 qz):=(((Ag.rf.put rfl).trans (g1.mono rfl)).put rfl);refine wp_block (wp_loop (fun a' w'=>∃ k,I17 L a w k a' w') (fun a' _=>L.length - (intOf (Ev a' (.tmp 5))).toNat) ⟨0,g2,af _,by simp [z1],aq _⟩ ?_);clear g2 z1 e10 g1 a1;rintro a1 w1 ⟨k,hG,hk,e5,hE⟩;have f0:=hG.get 0 e0;have f1:=hG.get 1 e1;have z1:a1.tmps.size=68:=by rw [hG.sz];exact hsz
 refine wp_seq (wp_seq (Gs z1 f0 e5 ?_));intro a2 g2 e14;have z2:a2.tmps.size=68:=by rw [g2.sz];exact z1
 by_cases hlt:k<L
 ·refine wp_cond_true (e14.trans ff) (wp_skip ?_)
  obtain ⟨bx,ox,A1,d1,rfl,-,ea1,gc1⟩:=(hx.ext hE).get hlt;obtain ⟨by_,oy,A2,d2,rfl,-,ea2,gc2⟩:=(hy.ext hE).get hlt
  refine wp_seq (wp_block (wp_seq (Ii z2 (g2.get 0 f0) (g2.get 1 f1) (g2.get 5 e5) I I
   (fun w' h=>⟨aA h (gc1 0 _ rfl),aA h (gc1 1 _ rfl),aA h (gc1 2 _ rfl),aA h (gc1 3 _ rfl),aA h (gc1 4 _ rfl),aA h (gc1 5 _ rfl)⟩)
   (fun w' h=>⟨aA h (gc2 0 _ rfl),aA h (gc2 1 _ rfl),aA h (gc2 2 _ rfl),aA h (gc2 3 _ rfl),aA h (gc2 4 _ rfl),aA h (gc2 5 _ rfl)⟩)
   (fun w2 h2=>((jX _ _ _ _ _ _ w2 (ea1.ext h2).path (ea2.ext h2).path).mono ?_)) ?_)))
  ·rintro e w' ⟨rfl,n,rfl⟩
   exact ⟨U,h2.drewN' n⟩
  ·intro a3 w3 hx3 g3 e67
   refine wp_cond_false e67 (wp_skip ?_);refine Jl (k:=k) (by rw [g3.sz];exact z2) (g3.get 5 (g2.get 5 e5)) (xD I) ?_;intro a4 g4 e5';refine ⟨⟨k+1,((hG.trans (g2.mono rfl)).trans (g3.mono rfl)).trans (g4.mono rfl),hlt,e5',hE.trans' hx3⟩,?_⟩;rw [e5',e5];simp [intOf];omega
 ·refine wp_cond_false (e14.trans ff) (wp_exit ?_)
  refine wp_seq ?_;refine rW ?_;iterate 1 refine l_v rfl rfl (by simp [execOp,go_sem,z2];exact ⟨rfl,rfl⟩) ?_
  refine aV (wp_ret (hR _ _ ?_ (by simp [z2]) hE));exact g2.df.trans hG.df
theorem Bg {L:List GE}{P1 P2:Nat->Prop}{v1 v2:Value}(hfew:L.length<=100000)(hx:Ens w P1 v1 L)(hy:Ens w P2 v2 L):qg 14 #[v1,v2] w (dE true w):=by
 obtain ⟨A,c,rfl,-,-⟩:=Lst.form hx;obtain ⟨B,d,rfl,-,-⟩:=Lst.form hy;refine calls_of_wp Tryz.func14 DT (Kl hfew hx hy ?_ ?_ ?_ ?_)
 ·simp [Tryz.ntmps14]
 ·simp [Ev,Act.eval]
 ·simp [Ev,Act.eval]
 ·intro a' w' h1 h2 h3
  refine bodyPost_ret (v:=true) ?_ h1 ⟨rfl,h3⟩;have h5:a'.tmps[4]?.getD undef=.bool true:=by rw [<- h2];simp [Ev,Act.eval]
  simp [results,Tryz.results14,go_sem,h5]
theorem DD {t:List GN}{path:List Int}(h:aO t t)(hpl:path.length<=1000000000)(h0:0<t.length):aQ t path=decide ((bP t path).stop=-1):=by
 have hf:=qS h path hpl t (t.length - 1) 0 true I I I I;have hr:=vG h path hpl t (t.length - 1) 0 I I I I;rw [show (((t.length - 1:Nat)):Int)=(t:Int) - 1 by omega] at hf hr;unfold aQ bP;generalize cA t path t ((t:Int) - 1) 0=s at *;generalize dF t path t ((t:Int) - 1) 0 true=r at *;have hu:=hr.usedP;rw [show decide (0<t.length)=true from aYi h0,Bool.true_and];by_cases hs:s.stop=-1
 ·obtain ⟨-,y2,y3⟩:=hf.yes rfl hs
  rw [y3,y2,Bool.true_and];by_cases hl:s.used<path
  ·rw [if_pos ⟨hs,hl⟩]
   simp;omega
  ·rw [if_neg (fun h=>hl h.2),hs]
   simp;omega
 ·rw [hf.no rfl hs,if_neg (fun h=>hs h.1)]
  simp [hs]
def CH (n:Int)(w:World)(e:Ending)(w':World):Prop:=∃ k z s A m c,e=.returned (.tuple #[.agg #[.int .i64 k,.int .i64 z,.string s,.slice A m c],↑n])∧Ext w w'
def rl (b:Bool):Int:=if b then 0 else 11
theorem FB (t:List GN)(path:List Int)(P:Nat->Prop)(vn vp:Value)(w:World)(hd:RdT t path)(hP:∀ b,P b->b<w)(hvl:∀ x ∈ t,x.values.length<=1000000000)(ht:Nds w P vn t)(hvp:bL w P vp path) :
  qg 49 #[.agg #[vn],vp] w (CH (rl (aQ t path)) w):=by
 have HVA:=aYf (fun (W:World) (hx:Ext w W)=>(dH.2 hd.good) ▸ eQ t P vn W (ht.ext hx) hvl);have HRD:=aYf (fun (W:World) (hx:Ext w W) (h0:0<t.length)=>pJ t path P vn vp W hd h0 (fun b hb=>ac (hP b hb) hx.size) (ht.ext hx) (hvp.ext hx));have HWR:=aYf (fun h0=>DD hd.good hd.path h0);have HW0:=aYf (show t.length=0->aQ t path=false from fun h=>by unfold aQ;simp [h]);obtain ⟨An,cn,en,hn1,hn2⟩:=ht.form;subst en;obtain ⟨Ap,cp,ep,hp1,hp2⟩:=hvp.form;subst ep;clear hd hP hvl ht hvp;generalize aQ t path=wb at *;generalize bP t path=r at *;go_enter Tryz.func49,Tryz.ntmps49;go_upto_region 1 with fail;have HE:=aYf (show Ext w ((w.alloc (qk #[.slice An t cn] 25)).alloc (qk #[qz,qz,qe,qn] 58)) from ((aq w).alloc' _).alloc' _);have HB:=aYf ((aw w 25 #[.slice An t cn]).alloc (qk #[qz,qz,qe,qn] 58));have HRES:=aYf (az (w.alloc (qk #[.slice An t cn] 25)) 58 #[qz,qz,qe,qn] (g:=w.heap.size+1) U);generalize hW:(w.alloc (qk #[.slice An t cn] 25)).alloc (qk #[qz,qz,qe,qn] 58)=W at *
 clear hW;have y0:=HB.out.cell' (u:=.slice An t cn) 0 rfl;go_wp2_with fail;refine (HVA.out W HE.out).mono ?_;rintro e w1 ⟨rfl,hx1⟩;have HX1:=aYf (HE.out.trans' hx1);have HB1:=aYf (HB.out.ext hx1);have HR1:=aYf (HRES.out.ext hx1);have y1:=HB1.out.cell' (u:=.slice An t cn) 0 rfl;clear hx1 y0;by_cases hne:0<t.length
 ·have hl0:((t:Int) == 0)=false:=aYg I
  have HWW:=aYf (HWR.out hne);go_wp2_with fail;refine (HRD.out w1 HX1.out hne).mono ?_;rintro e w2 ⟨A2,d2,sv,rfl,-,⟨A3,m3,c3,rfl⟩,hx2⟩;have HX2:=aYf (HX1.out.trans' hx2);have HR2:=aYf ((HR1.out.ext hx2).alloc (qk (cC r A2 d2 (.slice A3 m3 c3)) 146));have HBR:=aYf (aw w2 146 (cC r A2 d2 (.slice A3 m3 c3)));have HX3:=aYf (HX2.out.alloc' (qk (cC r A2 d2 (.slice A3 m3 c3)) 146));clear hx2 y1;go_upto_region 7 with fail;generalize hW:w2.alloc (qk (cC r A2 d2 (.slice A3 m3 c3)) 146)=W2 at *;clear hW;have r0:=HR2.out.cell' (u:=qz) 0 rfl;have f0:=HR2.out.frozen 0;have r1:=HR2.out.cell' (u:=qz) 1 rfl;have f1:=HR2.out.frozen 1;have r2:=HR2.out.cell' (u:=qe) 2 rfl;have f2:=HR2.out.frozen 2;have r3:=HR2.out.cell' (u:=qn) 3 rfl;have f3:=HR2.out.frozen 3;have b0:=HBR.out.cell' (u:=↑r.val.kind) 0 rfl;have b1:=HBR.out.cell' (u:=↑r.val.n) 1 rfl;have b2:=HBR.out.cell' (u:=r.val.s) 2 rfl;have b3:=HBR.out.cell' (u:=.slice A2 r.val.kids d2) 3 rfl;have b5:=HBR.out.cell' (u:=↑r.stop) 5 rfl
  by_cases hs:r.stop=-1
  ·have hd:(r.stop == -1)=true:=aYh hs
   have HF:=aYf (show wb=true by rw [HWW.out];exact aYi hs);clear hs;have q:=(((HR2.out.set_ 0 (↑r.val.kind)).set_ 1 (↑r.val.n)).set_ 2 r.val.s).set_ 3 (.slice A2 r.val.kids d2);have HQ:=aYf q;clear q;have HXQ:=aYf ((((HX3.out.setCell' (p:=qp (w+1)) cm (↑r.val.kind)).setCell' (p:=qt (w+1) 1) cm (↑r.val.n)).setCell' (p:=qt (w+1) 2) cm r.val.s).setCell' (p:=qt (w+1) 3) cm (.slice A2 r.val.kids d2));go_wp2_with fail;generalize (((W2.setCell (qp (w+1)) (↑r.val.kind)).setCell (qt (w+1) 1) (↑r.val.n)).setCell (qt (w+1) 2) r.val.s).setCell (qt (w+1) 3) (.slice A2 r.val.kids d2)=W3 at *;have q0:=HQ.out.cell' (u:=↑r.val.kind) 0 rfl;have q1:=HQ.out.cell' (u:=↑r.val.n) 1 rfl;have q2:=HQ.out.cell' (u:=r.val.s) 2 rfl;have q3:=HQ.out.cell' (u:=.slice A2 r.val.kids d2) 3 rfl;rw [HF.out];exact bodyPost_ret (v:=.tuple #[.agg #[r.val.kind,r.val.n,r.val.s,.slice A2 r.val.kids d2],qz]) (by simp [results,Tryz.results49,go_sem,q0,q1,q2,q3]) rfl ⟨_,_,_,_,_,_,rfl,HXQ.out⟩
  ·have hd:(r.stop == -1)=false:=aYg hs
   have HF:=aYf (show wb=false by rw [HWW.out];exact aYj hs);clear hs;have HQ:=aYf ((((HR2.out.set_ 0 qz).set_ 1 qz).set_ 2 qe).set_ 3 qn);have HXQ:=aYf ((((HX3.out.setCell' (p:=qp (w+1)) cm qz).setCell' (p:=qt (w+1) 1) cm qz).setCell' (p:=qt (w+1) 2) cm qe).setCell' (p:=qt (w+1) 3) cm qn);go_wp2_with fail;generalize (((W2.setCell (qp (w+1)) qz).setCell (qt (w+1) 1) qz).setCell (qt (w+1) 2) qe).setCell (qt (w+1) 3) qn=W3 at *;have q0:=HQ.out.cell' (u:=qz) 0 rfl;have q1:=HQ.out.cell' (u:=qz) 1 rfl;have q2:=HQ.out.cell' (u:=qe) 2 rfl;have q3:=HQ.out.cell' (u:=qn) 3 rfl;rw [HF.out];exact bodyPost_ret (v:=.tuple #[.agg #[qz,qz,qe,qn],.int .i64 11]) (by simp [results,Tryz.results49,go_sem,q0,q1,q2,q3]) rfl ⟨_,_,_,_,_,_,rfl,HXQ.out⟩
 ·have hl0:((t:Int) == 0)=true:=aYh I
  have HF:=aYf (HW0.out I);have r0:=HR1.out.cell' (u:=qz) 0 rfl;have f0:=HR1.out.frozen 0;have r1:=HR1.out.cell' (u:=qz) 1 rfl;have f1:=HR1.out.frozen 1;have r2:=HR1.out.cell' (u:=qe) 2 rfl;have f2:=HR1.out.frozen 2;have r3:=HR1.out.cell' (u:=qn) 3 rfl;have f3:=HR1.out.frozen 3;have HQ:=aYf ((((HR1.out.set_ 0 qz).set_ 1 qz).set_ 2 qe).set_ 3 qn);have HXQ:=aYf ((((HX1.out.setCell' (p:=qp (w+1)) cm qz).setCell' (p:=qt (w+1) 1) cm qz).setCell' (p:=qt (w+1) 2) cm qe).setCell' (p:=qt (w+1) 3) cm qn);go_wp2_with fail;generalize (((w1.setCell (qp (w+1)) qz).setCell (qt (w+1) 1) qz).setCell (qt (w+1) 2) qe).setCell (qt (w+1) 3) qn=W3 at *;have q0:=HQ.out.cell' (u:=qz) 0 rfl;have q1:=HQ.out.cell' (u:=qz) 1 rfl;have q2:=HQ.out.cell' (u:=qe) 2 rfl;have q3:=HQ.out.cell' (u:=qn) 3 rfl;rw [HF.out];exact bodyPost_ret (v:=.tuple #[.agg #[qz,qz,qe,qn],.int .i64 11]) (by simp [results,Tryz.results49,go_sem,q0,q1,q2,q3]) rfl ⟨_,_,_,_,_,_,rfl,HXQ.out⟩
noncomputable def qy:=RG Tryz.f13 0
noncomputable def BH:=RG Tryz.f13 1
noncomputable def BI:=RG Tryz.f13 2
noncomputable def BP:=RG Tryz.f13 3
noncomputable def ut:=RG Tryz.f13 4
noncomputable def wm:=RG Tryz.f13 5
noncomputable def xu:=RG Tryz.f13 6
noncomputable def pu:=RG Tryz.f13 7
noncomputable def qu:=RG Tryz.f13 8
noncomputable def KZ:=RG Tryz.f13 9
noncomputable def xe:=RG Tryz.f13 10
noncomputable def vg:=RG Tryz.f13 11
section
variable {Q:Exit->Act->World->Prop}{a:Act}{w:World}{m k i:Nat}{G n c:Nat}{Al:Option Addr}{vn:Value}{b s kk:Int}
theorem Kc (hsz:a.tmps.size=67)(e0:qq a 0 (qp m))(h1:∀ w',Ext w w'->qc w' m 1 b)(hd:b<s)(hc:∀ w1,Ext w w1->Calls Tryz.prog 17 #[qp m] w1 fun e w'=>e=.returned (↑s)∧Ext w w')
  (h:∀ a' w',Ext w w'->Ag [0] a a'->qq a' 19 true->Q .normal a' w'):qw qy Q a w:=by
 conv=>arg 2;whnf
 refine cU (fun w'=>Ext w w') av av (aq w).drew' ?_;iterate 1 refine q_v rfl rfl (fun w hw=>by simp [execOp,go_sem, *];rfl) ?_
 refine q_c rfl rfl rfl Tryz.func17 dd dd hc ba ?_;iterate 6 refine q_v rfl rfl (fun w hw=>by simp [execOp,go_sem, *];rfl) ?_
 iterate 6 refine q_n rfl rfl rfl ba cd rfl ?_
 iterate 1 refine q_v rfl rfl (fun w hw=>by simp [execOp,go_sem, *];rfl) ?_
 exact l6 (fun w' hw=>h _ w' hw O ba)
theorem I6 (hsz:a.tmps.size=67)(e0:qq a 0 (qp m))(h1:∀ w',Ext w w'->qc w' m 1 b∧qc w' m 2 (.slice Al n c))(hd:¬ b<s)(hc:∀ w1,Ext w w1->Calls Tryz.prog 17 #[qp m] w1 fun e w'=>e=.returned (↑s)∧Ext w w')
  (h:∀ a' w',Ext w w'->Ag [0] a a'->qq a' 19 (decide (256<n))->Q .normal a' w'):qw qy Q a w:=by
 conv=>arg 2;whnf
 refine cU (fun w'=>Ext w w') av av (aq w).drew' ?_;iterate 1 refine q_v rfl rfl (fun w hw=>by simp [execOp,go_sem, *];rfl) ?_
 refine q_c rfl rfl rfl Tryz.func17 dd dd hc ba ?_;iterate 6 refine q_v rfl rfl (fun w hw=>by simp [execOp,go_sem,h1 w hw, *];rfl) ?_
 iterate 6 refine q_y rfl rfl rfl ba cd rfl (fun w hw=>by simp [execOp,go_sem,h1 w hw, *];rfl) ?_
 iterate 1 refine q_v rfl rfl (fun w hw=>by simp [execOp,go_sem, *];rfl) ?_
 exact l6 (fun w' hw=>h _ w' hw O (by simp [*];try omega))
theorem JN (hsz:a.tmps.size=67)(e0:qq a 0 (qp m))(e3:qq a 3 (i:Int))(h2:qc w m 2 (.slice Al n c))
  (h:∀ a',Ag [0,2,3] a a'->qq a' 26 (decide (i<n))->Q .normal a' w):qw BP Q a w:=by
 refine rW ?_;iterate 7 refine lV ?_
 exact aV (h _ O ba)
theorem Ll {f:Bool}(hsz:a.tmps.size=67)(e0:qq a 0 (qp m))(e3:qq a 3 (i:Int))(hi:i<n)(h2:qc w m 2 (.slice (qp G) n c))(h3:qc w G (i*6+4) f)
  (h:∀ a',Ag [0,2,3] a a'->qq a' 37 (!f)->Q .normal a' w):qw wm Q a w:=by
 refine rW ?_;iterate 9 refine lV ?_
 exact aV (h _ O ba)
theorem He (hsz:a.tmps.size=67)(e3:qq a 3 (i:Int))(h:∀ a',Ag [0,3] a a'->qq a' 2 (i:Int)->Q .normal a' w):qw xu Q a w:=by
 refine rW ?_;iterate 2 refine lV ?_
 exact aV (h _ O ba)
theorem AF (hsz:a.tmps.size=67)(e3:qq a 3 (i:Int))(hw:IntKind.i64.wrap ((i:Int)+1)=(i:Int)+1)(h:∀ a',Ag [0,2] a a'->qq a' 3 (.int .i64 ((i+1:Nat):Int))->Q .normal a' w):qw ut Q a w:=by
 refine rW ?_;iterate 3 refine lV ?_
 exact aV (h _ O ba)
theorem D5 (hsz:a.tmps.size=67)(e2:qq a 2 kk)(h:∀ a',Ag [0,2] a a'->qq a' 40 (decide (kk<0))->Q .normal a' w):qw pu Q a w:=by
 refine rW ?_;iterate 2 refine lV ?_
 exact aV (h _ O ba)
theorem GT (hsz:a.tmps.size=67)(e0:qq a 0 (qp m))(h2:qc w m 2 (.slice Al n c))(hw:IntKind.i64.wrap ((n:Int) - 1)=(n:Int) - 1)
  (h:∀ a',Ag [0] a a'->qq a' 2 (.int .i64 ((n:Int) - 1))->Q .normal a' w):qw qu Q a w:=by
 refine rW ?_;iterate 7 refine lV ?_
 exact aV (h _ O ba)
theorem Do {A1:Option Addr}{c1:Nat}{ve:Value}{xs:List Value}{S:Nat->Prop}(hsz:a.tmps.size=67)(e0:qq a 0 (qp m))(e2:qq a 2 (k:Int))(e4:qq a 4 qn)(hk:k<=100000)(h1:qc w m 2 ve)(hc:ro ve k A1 c1)(hs:Sl w S 6 A1 k xs)(hone:∀ u ∈ xs,u.oneCell'=true)
  (h:∀ a' v5 w5,w5.ownsRow w 47 6 v5 k xs->Ext w w5->Ag [0,2] a a'->qq a' 4 v5->Q .normal a' w5):qw xe Q a w:=by
 refine rW ?_;iterate 6 refine lV ?_
 refine l_v rfl rfl (hc _ _ _ _ _ rfl ba ba) ?_;refine l_a rfl rfl rfl Tryz.underlying38 Tryz.info47 rfl I (aT w w 47 6) hs ba cd hone I I (ab _) ?_;intro v5 w5 ho hf hb;iterate 1 refine lV ?_
 exact aV (h _ v5 w5 (by simpa using ho) (Fr.none_ext hf) O ba)
theorem Gm {A1:Option Addr}{c1 p n base:Nat}{v4 ve:Value}{xs ys:List Value}{S:Nat->Prop}(hsz:a.tmps.size=67)(e0:qq a 0 (qp m))(e2:qq a 2 (k:Int))(e4:qq a 4 v4)(hw:IntKind.i64.wrap ((k:Int)+1)=(k:Int)+1)(hp:p<=100001)(hn:n<=100000)(hB:base<=w)(hm:m<base)(hb0:Blk w m 40 #[vn,↑b,ve])(hc:sd ve (k+1) n A1 c1)(hs:Sl w S 6 A1 n ys)(hone:∀ u ∈ ys,u.oneCell'=true)(hown:w.ownsRow base 47 6 v4 p xs)
  (h:∀ a' v5 w5,w5.ownsRow base 47 6 v5 (p+n) (xs ++ ys)->Fr (fun b=>base<=b) w w5->Ag [0] a a'->Q .normal a' (w5.setCell (qt m 2) v5)):qw vg Q a w:=by
 have h1:=hb0.cell' (u:=ve) 2 rfl;refine rW ?_;iterate 8 refine lV ?_
 refine l_v rfl rfl (hc _ _ _ _ _ rfl ba ba) ?_;refine l_a rfl rfl rfl Tryz.underlying38 Tryz.info47 rfl I hown hs ba cd hone I I hB ?_;intro v5 w5 ho hf hb5;have hF:Fr (fun b=>base<=b) w w5:=hf.mono (fun b hb=>hown.block_ge hb.symm);have hb6:=hb0.fr hF I;have q2:=hb6.cell' (u:=ve) 2 rfl;have f2:=hb6.frozen 2;obtain ⟨A5,c5,rfl,-,-,-⟩:=Sl.of_own ho;iterate 2 refine lV ?_
 refine l_s rfl rfl (by simp [execOp,go_sem, *];rfl) ?_;exact aV (h _ _ w5 ho hF O)
end
noncomputable abbrev rt:Code:=.seq (.seq BP (.cond (.tmp 26) .skip (.exit 2))) (.seq (.block 3 (.seq wm (.cond (.tmp 37) xu .skip))) ut)
noncomputable abbrev ot:Code:=.seq KZ (.seq xe vg)
noncomputable abbrev Co:Code:=.seq (.seq qy (.cond (.tmp 19) .skip (.exit 0))) (.block 1 (.seq BH (.seq (.seq BI (.block 2 (.loop rt))) (.seq (.seq pu (.cond (.tmp 40) qu .skip)) ot))))
theorem KQ:Tryz.f13.body=some (.block 0 (.loop Co)):=av
section
variable {t:List GN}{vn:Value}{b:Int}{L:List GE}{m:Nat}{P:Nat->Prop}{ve:Value}{a a0:Act}{w ws:World}{R:Exit->Act->World->Prop}
def J52 (L:List GE)(a0:Act)(ws:World)(i:Nat)(a:Act)(w:World):Prop :=
 Ag [0] a0 a∧i<=L∧qq a 3 (i:Int)∧Ext ws w∧∃ kk:Int,qq a 2 kk∧-1<=kk∧kk<(L:Int)∧jD i (if kk<0 then L.length - 1 else kk.toNat) (L.drop i)=oN L
theorem MAt.row (h:MAt t vn b L m P ve w)(h0:0<L.length):∃ G c,ve=.slice (qp G) L c:=by
 obtain ⟨xs,ho,-⟩:=h.own;rcases ho.2 with ⟨_,e2⟩ | ⟨G,cap,cur,e,-⟩
 ·omega
 ·exact ⟨G,cap,e⟩
theorem GU (h:MAt t vn b L m P ve ws)(hpos:0<L.length)(hsz:a0.tmps.size=67)(e0:qq a0 0 (qp m))(hI:J52 L a0 ws 0 a w)(hR:∀ a' w',J52 L a0 ws L a' w'->R .normal a' w'):qw (.block 2 (.loop rt)) R a w:=by
 have hfew:=h.few;refine wp_block (wp_loop (fun a' w'=>∃ i,J52 L a0 ws i a' w') (fun a' _=>L.length - (intOf (Ev a' (.tmp 3))).toNat) ⟨0,hI⟩ ?_);clear hI;rintro a w ⟨i,hG,hi,e3,hE,kk,e2,hk0,hk1,hcf⟩;obtain ⟨G,c,rfl⟩:=h.row hpos;have c2:=aA hE h.cell2;have z1:a.tmps.size=67:=hG.sz.trans hsz;have f0:=hG.get 0 e0;refine wp_seq (wp_seq (JN z1 f0 e3 c2 ?_));intro a1 g1 e26;have z2:a1.tmps.size=67:=g1.sz.trans z1;by_cases hlt:i<L
 ·obtain ⟨b1,o1,A1,d1,eA,-,-,hgc⟩:=(h.ens.ext hE).get hlt
  injection eA with eA;injection eA with e1 eo _;subst e1 eo;have g4:=hgc 4 _ rfl;rw [Nat.zero_add] at g4;have hD:jD (i+1) (if (L.getD i default).fresh then (if kk<0 then L.length - 1 else kk.toNat) else i) (L.drop (i+1))=oN L:=by rw [<- hcf,aJ default hlt];rfl
  have hms:∀ a':Act,qq a' 3 (.int .i64 ((i+1:Nat):Int))->L.length - (intOf (Ev a' (.tmp 3))).toNat<L - (intOf (Ev a (.tmp 3))).toNat:=fun a' e=>by
   rw [e,e3];simp [intOf];omega
  generalize (L.getD i default).fresh=yf at *;refine wp_cond_true (e26.trans ff) (wp_skip ?_);refine wp_seq (wp_block (wp_seq (Ll z2 (g1.get 0 f0) (g1.get 3 e3) hlt c2 g4 ?_)));intro a2 g2 e37;have z3:a2.tmps.size=67:=g2.sz.trans z2;cases yf
  ·refine wp_cond_true e37 (He z3 (g2.get 3 (g1.get 3 e3)) ?_)
   intro a3 g3 e2';refine AF (g3.sz.trans z3) (g3.get 3 (g2.get 3 (g1.get 3 e3))) (xD I) ?_;intro a4 g4' e3';refine ⟨⟨i+1,((hG.trans (g1.mono rfl)).trans (g2.mono rfl)).trans ((g3.mono rfl).trans (g4'.mono rfl)),hlt,e3',hE,(i:Int),g4'.get 2 e2',I,I,?_⟩,hms _ e3'⟩;rw [if_neg I,Int.toNat_natCast];exact hD
  ·refine wp_cond_false e37 (wp_skip ?_)
   refine AF z3 (g2.get 3 (g1.get 3 e3)) (xD I) ?_;intro a4 g4' e3';exact ⟨⟨i+1,(hG.trans (g1.mono rfl)).trans ((g2.mono rfl).trans (g4'.mono rfl)),hlt,e3',hE,kk,g4'.get 2 (g2.get 2 (g1.get 2 e2)),I,I,hD⟩,hms _ e3'⟩
 ·obtain rfl:i=L:=by omega
  refine wp_cond_false (e26.trans U) (wp_exit ?_);exact hR _ _ ⟨hG.trans (g1.mono rfl),hi,g1.get 3 e3,hE,kk,g1.get 2 e2,hk0,hk1,hcf⟩
theorem EH {k:Nat}(h:MAt t vn b L m P ve w)(hk:k<L)(hsz:a.tmps.size=67)(e0:qq a 0 (qp m))(e2:qq a 2 (k:Int))(hR:∀ a' w',Ag [0] a a'->dC t vn b (L.eraseIdx k) m P ve w w'->R .normal a' w'):qw ot R a w:=by
 have hfew:=h.few;obtain ⟨xs,ho,hr⟩:=h.own;have hone:=REn.one hr;obtain ⟨A1,c1,hc1,hs1⟩:=AI ho (Nat.le_of_lt hk) h.few;obtain ⟨A2,c2,hc2,hs2⟩:=tu ho (show k+1<=L from hk) h.few;refine wp_seq ?_;refine rW ?_;iterate 1 refine l_v rfl rfl (by simp [execOp,go_sem,hsz];exact ⟨rfl,rfl⟩) ?_
 refine aV ?_;refine wp_seq (Do gn (by simp [e0]) (by simp [e2]) gn I h.cell2 hc1 hs1 (fun u hu=>hone u (List.mem_of_mem_take hu)) ?_);intro a5 v5 w5 ho5 hx5 g5 e4;have k5:Ag [0,2] a a5:=Ag.trans O g5;refine Gm (k5.sz.trans hsz) (k5.get 0 e0) (k5.get 2 e2) e4 (xD I) I I hx5.size h.box.lt (h.box.ext hx5) hc2 (hs2.ext hx5) (fun u hu=>hone u (List.mem_of_mem_drop hu)) ho5 ?_;intro a7 v7 w7 ho7 hf7 g7;have hE7:Ext w w7:=((ar hx5).trans hf7).new_ext (fun _ hb=>hb);have hll:(L.eraseIdx k).length=k+(L.length - (k+1)):=by rw [List.length_eraseIdx,if_pos hk];omega
 have hsub:(L.eraseIdx k).Sublist L:=List.eraseIdx_sublist L k;refine hR _ _ ((k5.mono rfl).trans g7) (h.replace hE7 (ho7.len_cast hll.symm rfl) ?_ (List.Pairwise.sublist (hsub.map GE.path) h.inc) I (fun e he=>h.short e (hsub.subset he)));rw [List.eraseIdx_eq_take_drop_succ];have hr':=hr.move fF (aB.of_ext hE7) (fun _ _ h=>h);exact (hr'.take (fF.len w7 P) k).append (hr'.drop (fF.len w7 P) (k+1))
def O52 (t:List GN)(vn:Value)(b:Int)(L:List GE)(m:Nat)(P:Nat->Prop)(ve:Value)(a0:Act)(w:World)(a':Act)(w':World):Prop :=
 Ag [0] a0 a'∧∃ L' v1,MAt t vn b L' m P v1 w'∧Fr (mM m ve) w w'∧(∀ k,v1.ownBlock=some k->ve.ownBlock=some k∨w<=k)∧qZ b L'=qZ b L
theorem te (h:MAt t vn b L m P ve w):qJ w (qt m 2)=L:=by
 obtain ⟨A,c,rfl,-,-⟩:=Lst.form h.ens;unfold qJ;rw [h.cell2]
theorem Mn (h:MAt t vn b L m P ve w)(hsz:a.tmps.size=67)(e0:qq a 0 (qp m))(hQ:∀ a' w',a'.defers=a.defers->dC t vn b (qZ b L) m P ve w w'->R .normal a' w'):qw (.block 0 (.loop Co)) R a w:=by
 refine wp_block (wp_loop (O52 t vn b L m P ve a w) (fun _ w'=>qJ w' (qt m 2)) ⟨.rf,L,ve,h,au _ w,fun _ h=>.inl h,rfl⟩ ?_);clear h;rintro a1 w1 ⟨hG,L1,v1,h,hF,hob,hcu⟩;have hfew:=h.few;have hbI:=h.bI;have z1:a1.tmps.size=67:=hG.sz.trans hsz;have f0:=hG.get 0 e0;obtain ⟨Al,cl,eA,-,-⟩:=Lst.form h.ens;have c2:=h.cell2;rw [eA] at c2;have hby:∀ W,Ext w1 W->Calls Tryz.prog 17 #[qp m] W fun e w'=>e=.returned (.int .i64 (dK L1))∧Ext w1 w':=fun W hx=>(tD (h.ext hx)).mono (fun _ _ ⟨q1,q2⟩=>⟨q1,hx.trans' q2⟩)
 have key:∀ a2 w2,Ag [0] a1 a2->Ext w1 w2->(b<dK L1∨256<L1.length)->qw (.block 1 (.seq BH (.seq (.seq BI (.block 2 (.loop rt))) (.seq (.seq pu (.cond (.tmp 40) qu .skip)) ot)))) (Exit.then (fun a' w'=>O52 t vn b L m P ve a w a' w'∧qJ w' (qt m 2)<qJ w1 (qt m 2)) (Exit.inBlock 0 R)) a2 w2:=by
  intro a2 w2 g2 hx2 hc;have z2:a2.tmps.size=67:=g2.sz.trans z1
  have hpos:0<L1.length:=by
   rcases hc with h1 | h1
   ·cases L1 with
    | nil=>simp [dK] at h1;omega
    | cons _ _=>simp
   ·omega
  have h2:=h.ext hx2;have hkl:=uk hpos
  have fin:∀ a3 w3,Ag [0] a2 a3->Ext w2 w3->qq a3 2 (.int .i64 ((oN L1:Nat):Int))->qw ot (Exit.inBlock 1 (Exit.then (fun a' w'=>O52 t vn b L m P ve a w a' w'∧qJ w' (qt m 2)<qJ w1 (qt m 2)) (Exit.inBlock 0 R))) a3 w3:=by
   intro a3 w3 g3 hx3 e2;refine EH (h2.ext hx3) hkl (g3.sz.trans z2) (g3.get 0 (g2.get 0 f0)) e2 ?_;intro a4 w4 g4 hA;obtain ⟨v4,q1,q2,q3⟩:=dC.trans (L1:=L1) (hF.trans (ar (hx2.trans' hx3))) (fun k hk=>(hob k hk)) hA;refine ⟨⟨(hG.trans g2).trans (g3.trans g4),_,v4,q1,q2,q3,?_⟩,?_⟩
   ·rw [<- hcu,<- zB hc hpos]
   ·rw [te q1,te h,List.length_eraseIdx,if_pos hkl]
    omega
  refine wp_block (wp_seq ?_);refine rW ?_;iterate 1 refine l_v rfl rfl (by simp [execOp,go_sem,z2];exact ⟨rfl,rfl⟩) ?_
  refine aV (wp_seq (wp_seq ?_));refine rW ?_;iterate 1 refine l_v rfl rfl (by simp [execOp,go_sem,z2];exact ⟨rfl,rfl⟩) ?_
  refine aV ?_;refine GU (a0:=a2) h2 hpos z2 (g2.get 0 f0) ⟨O,af _,by simp [z2],aq _,-1,by simp [z2],I,I,rfl⟩ ?_;rintro a3 w3 ⟨g3,-,-,hx3,kk,e2,hk0,hk1,hcf⟩;rw [drop_nil (ab _)] at hcf;have z3:a3.tmps.size=67:=g3.sz.trans z2;refine wp_seq (wp_seq (D5 z3 e2 ?_));intro a4 g4 e40;have z4:a4.tmps.size=67:=g4.sz.trans z3;by_cases hneg:kk<0
  ·rw [if_pos hneg] at hcf
   have hcf:L1.length - 1=oN L1:=hcf;refine wp_cond_true (e40.trans (by rw [aYi hneg])) (GT z4 (g4.get 0 (g3.get 0 (g2.get 0 f0))) (aA hx3 (aA hx2 c2)) (IntWalk.i64_in _ I) ?_);intro a5 g5 e2';exact fin _ _ (g3.trans ((g4.mono rfl).trans g5)) hx3 (e2'.trans (by rw [<- hcf];congr 1;omega))
  ·rw [if_neg hneg] at hcf
   have hcf:kk.toNat=oN L1:=hcf;refine wp_cond_false (e40.trans (by rw [aYj hneg])) (wp_skip ?_);exact fin _ _ (g3.trans (g4.mono rfl)) hx3 ((g4.get 2 e2).trans (by rw [<- hcf];congr 1;omega))
 by_cases hb:b<dK L1
 ·refine wp_seq (wp_seq (Kc z1 f0 (fun w' hw=>aA hw h.cell1) hb hby ?_))
  intro a2 w2 hx2 g2 e19;exact wp_cond_true e19 (wp_skip (key _ _ g2 hx2 (.inl hb)))
 ·refine wp_seq (wp_seq (I6 z1 f0 (fun w' hw=>⟨aA hw h.cell1,aA hw c2⟩) hb hby ?_))
  intro a2 w2 hx2 g2 e19;by_cases hl:256<L1.length
  ·exact wp_cond_true (e19.trans (by rw [aYi hl])) (wp_skip (key _ _ g2 hx2 (.inr hl)))
  ·refine wp_cond_false (e19.trans (by rw [aYj hl])) (wp_exit ?_)
   refine hQ _ _ (g2.df.trans hG.df) ⟨v1,?_,hF.trans (ar hx2),hob⟩;rw [<- hcu];unfold qZ;rw [tf I];exact h.ext hx2
theorem AO (h:MAt t vn b L m P ve w):Calls Tryz.prog 13 #[qp m] w fun e w'=>e=.returned (.tuple #[])∧dC t vn b (qZ b L) m P ve w w':=by
 refine calls_of_wp Tryz.func13 KQ (Mn h ?_ ?_ ?_)
 ·simp [Tryz.ntmps13]
 ·simp [Ev,Act.eval]
 ·intro a' w' h1 h3
  exact ⟨h1,.tuple #[],by simp [results,Tryz.results13,go_sem],rfl,h3⟩
end
noncomputable def yi:=RG Tryz.f27 0
noncomputable def tq:=RG Tryz.f27 1
noncomputable def xx:=RG Tryz.f27 2
noncomputable def xo:=RG Tryz.f27 3
noncomputable def uz:=RG Tryz.f27 4
noncomputable def th:=RG Tryz.f27 5
noncomputable def Cw:=RG Tryz.f27 6
noncomputable def AT:=RG Tryz.f27 7
noncomputable def Ca:=RG Tryz.f27 8
section
variable {Q:Exit->Act->World->Prop}{a:Act}{w:World}{m:Nat}{vn vp:Value}{R:World->Prop}
theorem JD {k x c:Int}(hsz:a.tmps.size=38)(e2:qq a 2 (.agg #[↑k,↑x,↑c]))
  (h:∀ a',Ag [0,1,3] a a'->qq a' 6 (qp w)->Q .normal a' (w.alloc (qk #[↑k,↑x,↑c] 45))):qw yi Q a w:=by
 refine rW ?_;iterate 3 refine lV ?_
 exact aV (h _ O ba)
theorem GA {n:Int}(hsz:a.tmps.size=38)(e0:qq a 0 (qp m))(e1:qq a 1 vp)(c0:qc w m 0 vn)(hc:qg 49 #[.agg #[vn],vp] w (CH n w))
  (h:∀ a' w',Ag [0,1,3,6] a a'->qq a' 11 n->Ext w w'->Q .normal a' w'):qw tq Q a w:=by
 refine rW ?_;iterate 5 refine lV ?_
 refine l_c rfl rfl rfl Tryz.func49 dd dd hc ba ?_;rintro e w1 ⟨k,z,s,A,m,c,rfl,hx⟩;refine ⟨_,rfl,?_⟩;iterate 4 refine lV ?_
 have hB:=aw w1 58 #[qz,qz,qe,qn];have hX:Ext w1 (w1.alloc (qk #[qz,qz,qe,qn] 58)):=(aq w1).alloc' _;generalize w1.alloc (qk #[qz,qz,qe,qn] 58)=W at *;obtain ⟨q0,q1,q2,q3⟩:=aU hB;have f0:=hB.frozen 0;have f1:=hB.frozen 1;have f2:=hB.frozen 2;have f3:=hB.frozen 3;refine l_s rfl rfl (by simp [execOp,go_sem, *];rfl) ?_;iterate 1 refine lV ?_
 refine aV (h _ _ O ba ?_);exact hx.trans' ((((hX.setCell' (p:=qp w1) (ab _) _).setCell' (p:=qt w1 1) (ab _) _).setCell' (p:=qt w1 2) (ab _) _).setCell' (p:=qt w1 3) (ab _) _)
theorem vj {n:Int}{b:Bool}(hsz:a.tmps.size=38)(e11:qq a 11 n)(hn:(n != 0)=b)
  (h:∀ a',Ag [0,1,3,6] a a'->qq a' 23 b->Q .normal a' w):qw xx Q a w:=by
 refine rW ?_;iterate 2 refine lV ?_
 exact aV (h _ O (by simp [<- hn,hsz,bne]))
theorem KH {A:Option Addr}{n c g:Nat}{k x cc:Int}{f b:Bool}(hsz:a.tmps.size=38)(e0:qq a 0 (qp m))(e1:qq a 1 (.slice A n c))(e3:qq a 3 f)(e6:qq a 6 (qp g))
  (hB:Blk w g 45 #[↑k,↑x,↑cc])(hc:qg 12 #[qp m,.agg #[.slice A n c,↑k,↑x,↑cc,f,.int .i64 1]] w (fun e w'=>e=.returned b∧R w'))
  (h:∀ a' w',R w'->Ag [0,1] a a'->qq a' 12 b->Q .normal a' w'):qw uz Q a w:=by
 have c0:=hB.cell' 0 rfl;have c1:=hB.cell' 1 rfl;have c2:=hB.cell' 2 rfl;refine rW ?_;iterate 5 refine lV ?_
 refine l_c rfl rfl rfl Tryz.func12 dd dd hc ba ?_;rintro e w' ⟨rfl,hR⟩;refine ⟨_,rfl,?_⟩;iterate 1 refine lV ?_
 exact aV (h _ _ hR O ba)
theorem Mt {b:Bool}(hsz:a.tmps.size=38)(e12:qq a 12 b)
  (h:∀ a',Ag [0,1] a a'->qq a' 31 (!b)->Q .normal a' w):qw th Q a w:=by
 refine rW ?_;iterate 2 refine lV ?_
 exact aV (h _ O ba)
theorem JU {v:Value}(hsz:a.tmps.size=38)(e0:qq a 0 (qp m))(hc:qg 13 #[qp m] w (fun e w'=>e=.returned v∧R w'))
  (h:∀ a' w',R w'->Ag [0,1] a a'->Q .normal a' w'):qw AT Q a w:=by
 refine rW ?_;iterate 1 refine lV ?_
 refine l_c rfl rfl rfl Tryz.func13 dd dd hc ba ?_;rintro e w' ⟨rfl,hR⟩;exact ⟨_,rfl,aV (h _ _ hR O)⟩
theorem EM {z:Int}(hsz:a.tmps.size=38)(e0:qq a 0 (qp m))(e1:qq a 1 vp)(hc:qg 38 #[qp m,vp] w (dE (↑z) w))
  (h:∀ a' w',Ext w w'->Ag [0,1] a a'->qq a' 8 (decide (0<=z))->qq a' 9 qz->Q .normal a' w'):qw Ca Q a w:=by
 refine rW ?_;iterate 2 refine lV ?_
 refine l_c rfl rfl rfl Tryz.func38 dd dd hc ba ?_;rintro e w' ⟨rfl,hx⟩;refine ⟨_,rfl,?_⟩;iterate 3 refine lV ?_
 exact aV (h _ _ hx O ba ba)
theorem JC (hsz:a.tmps.size=38)(h:∀ a',Ag [] a a'->qq a' 8 false->qq a' 9 (.int .i64 11)->Q .normal a' w):qw xo Q a w:=by
 refine rW ?_;iterate 2 refine lV ?_
 exact aV (h _ O ba ba)
theorem EL (hsz:a.tmps.size=38)(h:∀ a',Ag [] a a'->qq a' 8 false->qq a' 9 qz->Q .normal a' w):qw Cw Q a w:=by
 refine rW ?_;iterate 2 refine lV ?_
 exact aV (h _ O ba ba)
end
noncomputable abbrev AA:Code:=.seq yi (.seq tq (.seq (.seq xx (.cond (.tmp 23) (.seq xo .ret) .skip)) (.seq uz (.seq (.seq th (.cond (.tmp 31) (.seq Cw .ret) .skip)) (.seq AT (.seq Ca .ret))))))
theorem Dp:Tryz.f27.body=some AA:=av
section
variable {t:List GN}{vn vp:Value}{b:Int}{L:List GE}{m:Nat}{P:Nat->Prop}{ve:Value}{a:Act}{w:World}{R:Exit->Act->World->Prop}{path:List Int}{k x c:Int}{f:Bool}
theorem Mi (h:MAt t vn b L m P ve w)(hd:RdT t path)(hvl:∀ x ∈ t,x.values.length<=1000000000)(hp:bL w P vp path)(hk:I64 k)(hx:I64 x)(hc:I64 c)(hfew:L.length+1<=100000)(hpl:path.length<=1000000000)
  (hsz:a.tmps.size=38)(e0:qq a 0 (qp m))(e1:qq a 1 vp)(e2:qq a 2 (.agg #[↑k,↑x,↑c]))(e3:qq a 3 f)
  (hR:∀ a' w',a'.defers=a.defers->qq a' 8 (wZ (aQ t) b L (mkE path k x c f))->qq a' 9 (.int .i64 (ka (aQ t) (mkE path k x c f)))->dC t vn b (rQ (aQ t) b L (mkE path k x c f)) m P ve w w'->R .ret a' w'):qw AA R a w:=by
 refine wp_seq (JD hsz e2 ?_);intro a1 g1 e6;have hB:=aw w 45 #[↑k,↑x,↑c];have hX:Ext w (w.alloc (qk #[↑k,↑x,↑c] 45)):=(aq w).alloc' _;generalize w.alloc (qk #[↑k,↑x,↑c] 45)=W at *;have z1:a1.tmps.size=38:=g1.sz.trans hsz;refine wp_seq (GA (vp:=vp) z1 (g1.get 0 e0) (g1.get 1 e1) (h.ext hX).cell0 (FB t path P vn vp W hd (fun i hi=>ac (h.lt i hi) hX.size) hvl (h.ext hX).tree (hp.ext hX)) ?_);intro a2 w2 g2 e11 hx2;have hE:=hX.trans' hx2;have z2:a2.tmps.size=38:=g2.sz.trans z1;cases hw:aQ t path with
 | false =>
  rw [hw] at e11;refine wp_seq (wp_seq (vj (b:=true) z2 e11 (by simp [rl]) ?_));intro a3 g3 e23;refine wp_cond_true e23 (wp_seq (JC (g3.sz.trans z2) ?_));intro a4 g4 e8 e9;refine wp_ret (hR a4 w2 (g4.df.trans (g3.df.trans (g2.df.trans g1.df))) ?_ ?_ ?_)
  ·rw [e8];simp [wZ,mkE,hw]
  ·rw [e9];simp [ka,mkE,hw]
  ·have:rQ (aQ t) b L (mkE path k x c f)=L:=by simp [rQ,mkE,hw]
   rw [this];exact dC.none h hE
 | true =>
  rw [hw] at e11;refine wp_seq (wp_seq (vj (b:=false) z2 e11 (by simp [rl]) ?_));intro a3 g3 e23;have z3:a3.tmps.size=38:=g3.sz.trans z2;refine wp_cond_false e23 (wp_skip ?_);obtain ⟨A,cc,rfl,hp1,hp2⟩:=hp.form;have hp':=hp.ext hE;have h2:=h.ext hE;refine wp_seq (KH z3 (g3.get 0 (g2.get 0 (g1.get 0 e0))) (g3.get 1 (g2.get 1 (g1.get 1 e1))) (g3.get 3 (g2.get 3 (g1.get 3 e3))) (g3.get 6 (g2.get 6 e6)) (hB.ext hx2) (Bf (x:=mkE path k x c f) h2 ⟨hp',hk,hx,hc,by simp [mkE,I64]⟩ hfew hpl) ?_);intro a4 w4 hA4 g4 e12;have z4:a4.tmps.size=38:=g4.sz.trans z3;have hA:=dC.of_ext hE hA4;refine wp_seq (wp_seq (Mt z4 e12 ?_));intro a5 g5 e31;have z5:a5.tmps.size=38:=g5.sz.trans z4;have d5:a5.defers=a.defers:=g5.df.trans (g4.df.trans (g3.df.trans (g2.df.trans g1.df)));have e05:=g5.get 0 (g4.get 0 (g3.get 0 (g2.get 0 (g1.get 0 e0))));have e15:=g5.get 1 (g4.get 1 (g3.get 1 (g2.get 1 (g1.get 1 e1))));cases hh:hU (mkE path k x c f).path L with
  | true =>
   rw [hh] at e31;refine wp_cond_true e31 (wp_seq (EL z5 ?_));intro a6 g6 e8 e9;refine wp_ret (hR a6 w4 (g6.df.trans d5) ?_ ?_ ?_)
   ·rw [e8];simp [wZ,hh]
   ·rw [e9];simp [ka,mkE,hw]
   ·have:rQ (aQ t) b L (mkE path k x c f)=dN L (mkE path k x c f):=by
     unfold rQ;rw [if_pos (show aQ t (mkE path k x c f).path=true from hw),if_pos hh]
    rw [this];exact hA
  | false =>
   rw [hh] at e31;refine wp_cond_false e31 (wp_skip ?_);obtain ⟨v4,m4,f4,b4⟩:=hA;refine wp_seq (JU z5 e05 (AO m4) ?_);intro a6 w6 hC g6;have z6:a6.tmps.size=38:=g6.sz.trans z5;have hF:=dC.trans (L1:=L) f4 b4 hC;obtain ⟨v6,m6,f6,b6⟩:=hF
   have hpw:bL w6 P (.slice A path cc) path:=hp.carry (fun i hi hP=>f6.block i hi (fun hm=>by
    have h7:=h.excl i hP;rcases hm with hm | hm
    ·exact h7.1 hm
    ·exact h7.2 hm)) (fun _ _ h=>h)
   refine wp_seq (EM z6 (g6.get 0 e05) (g6.get 1 e15) (Cp m6 hpw) ?_);intro a7 w7 hx7 g7 e8 e9
   have hE2:rQ (aQ t) b L (mkE path k x c f)=qZ b (dN L (mkE path k x c f)):=by
    unfold rQ;rw [if_pos (show aQ t (mkE path k x c f).path=true from hw),if_neg (by rw [hh];simp)]
   refine wp_ret (hR a7 w7 (g7.df.trans (g6.df.trans d5)) ?_ ?_ ?_)
   ·rw [e8,yY]
    unfold wZ;rw [if_pos (show aQ t (mkE path k x c f).path=true from hw),if_neg (by rw [hh];simp)];rfl
   ·rw [e9];simp [ka,mkE,hw]
   ·rw [hE2]
    exact dC.ext ⟨v6,m6,f6,b6⟩ hx7
theorem Ma (h:MAt t vn b L m P ve w)(hd:RdT t path)(hvl:∀ x ∈ t,x.values.length<=1000000000)(hp:bL w P vp path)(hk:I64 k)(hx:I64 x)(hc:I64 c)(hfew:L.length+1<=100000)(hpl:path.length<=1000000000) :
  Calls Tryz.prog 27 #[qp m,vp,.agg #[↑k,↑x,↑c],f] w fun e w'=>e=.returned (.tuple #[(wZ (aQ t) b L (mkE path k x c f)),.int .i64 (ka (aQ t) (mkE path k x c f))])∧dC t vn b (rQ (aQ t) b L (mkE path k x c f)) m P ve w w':=by
 refine calls_of_wp Tryz.func27 Dp (Mi (f:=f) h hd hvl hp hk hx hc hfew hpl ?_ ?_ ?_ ?_ ?_ ?_)
 ·simp [Tryz.ntmps27]
 ·simp [Ev,Act.eval]
 ·simp [Ev,Act.eval]
 ·simp [Ev,Act.eval]
 ·simp [Ev,Act.eval]
 ·intro a' w' h1 h2 h3 h4
  refine bodyPost_ret (v:=.tuple #[(wZ (aQ t) b L (mkE path k x c f)),.int .i64 (ka (aQ t) (mkE path k x c f))]) ?_ h1 ⟨rfl,h4⟩;have h5:a'.tmps[8]?.getD undef=.bool (wZ (aQ t) b L (mkE path k x c f)):=by rw [<- h2];simp [Ev,Act.eval]
  have h6:a'.tmps[9]?.getD undef=.int .i64 (ka (aQ t) (mkE path k x c f)):=by rw [<- h3];simp [Ev,Act.eval]
  simp [results,Tryz.results27,go_sem,h5,h6]
end
