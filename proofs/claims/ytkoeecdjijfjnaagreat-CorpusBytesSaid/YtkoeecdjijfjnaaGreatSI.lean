/- Contracts and laws. Conditions: none. -/
import Derived.Test.YtkoeecdjijfjnaaGreatR1
import Derived.Test.YtkoeecdjijfjnaaGreatSH
set_option linter.all false
set_option maxRecDepth 100000
set_option maxHeartbeats 8000000
namespace Go.Proofs.YtkoeecdjijfjnaaGreat
open Go.RowKit
noncomputable def aYp:=RG Tryz.f17 0
noncomputable def aTu:=RG Tryz.f17 1
noncomputable def aYo:=RG Tryz.f17 2
noncomputable def aYn:=RG Tryz.f17 3
noncomputable def aTt:=RG Tryz.f17 4
noncomputable def aTs:=RG Tryz.f17 5
noncomputable def aTr:=RG Tryz.f17 6
noncomputable def aYm:=RG Tryz.f17 7
noncomputable def aYl:=RG Tryz.f17 8
variable {Q:Exit->Act->World->Prop}{a:Act}{w:World}
theorem aPa {bx ox n c n' c' k by_ oy:Nat}{A1 A2 n1 d1 n2 d2}{x1 x2 x3 x5:Int}{x4:Bool}(hsz:a.tmps.size=68)(e0:qq a 0 (.slice (qt bx ox) n c))(e1:qq a 1 (.slice (qt by_ oy) n' c'))(e5:qq a 5 (k:Int))(hk:(k:Int)<(n:Int))(hk':(k:Int)<(n':Int))
  (hx:∀ w',Ext w w'->qc w' bx (ox+k*6) (.slice A1 n1 d1)∧qc w' bx (ox+k*6+1) x1∧qc w' bx (ox+k*6+2) x2∧qc w' bx (ox+k*6+3) x3∧qc w' bx (ox+k*6+4) x4∧qc w' bx (ox+k*6+5) x5)
  (hy:∀ w',Ext w w'->qc w' by_ (oy+k*6) (.slice A2 n2 d2)∧qc w' by_ (oy+k*6+1) x1∧qc w' by_ (oy+k*6+2) x2∧qc w' by_ (oy+k*6+3) x3∧qc w' by_ (oy+k*6+4) x4∧qc w' by_ (oy+k*6+5) x5)
  (hc:∀ w1,Ext w w1->Calls Tryz.prog 24 #[.slice A1 n1 d1,.slice A2 n2 d2] w1 fun e w'=>e=.returned true∧Ext w w')
  (h:∀ a' w',Ext w w'->Ag [0,1,4,5] a a'->qq a' 67 false->Q .normal a' w'):qw aTr Q a w:=by
 conv=>arg 2;whnf
 refine gH (fun w'=>Ext w w') U U (aq w).drew' ?_;iterate 10 refine q_v rfl rfl (fun w hw=>by simp [execOp,go_sem,hx w hw,hy w hw, *];rfl) ?_
 refine q_c rfl rfl rfl Tryz.func24 ba ba hc av ?_;iterate 2 refine q_v rfl rfl (fun w hw=>by simp [execOp,go_sem, *];rfl) ?_
 iterate 11 refine q_y rfl rfl rfl av dd rfl (fun w hw=>by simp [execOp,go_sem,hx w hw,hy w hw, *];rfl) ?_
 iterate 2 refine q_v rfl rfl (fun w hw=>by simp [execOp,go_sem, *];rfl) ?_
 iterate 11 refine q_y rfl rfl rfl av dd rfl (fun w hw=>by simp [execOp,go_sem,hx w hw,hy w hw, *];rfl) ?_
 iterate 2 refine q_v rfl rfl (fun w hw=>by simp [execOp,go_sem, *];rfl) ?_
 iterate 11 refine q_y rfl rfl rfl av dd rfl (fun w hw=>by simp [execOp,go_sem,hx w hw,hy w hw, *];rfl) ?_
 iterate 1 refine q_v rfl rfl (fun w hw=>by simp [execOp,go_sem, *];rfl) ?_
 exact aHb (fun w' hw=>h _ w' hw Y av)
theorem aPc {A}{n c k:Nat}(hsz:a.tmps.size=68)(e0:qq a 0 (.slice A n c))(e5:qq a 5 (k:Int))
  (h:∀ a',Ag [0,1,4,5] a a'->qq a' 14 (decide (k<n))->Q .normal a' w):qw aTt Q a w:=by
 refine rW ?_;iterate 4 refine lV ?_
 exact bS (h _ Y av)
theorem aPd {A B n c c'}(hsz:a.tmps.size=68)(e0:qq a 0 (.slice A n c))(e1:qq a 1 (.slice B n c'))
  (h:∀ a',Ag [0,1,4,5] a a'->qq a' 10 false->Q .normal a' w):qw aTu Q a w:=by
 refine rW ?_;iterate 5 refine lV ?_
 exact bS (h _ Y av)
theorem aPb {k:Nat}(hsz:a.tmps.size=68)(e5:qq a 5 (k:Int))(hw:IntKind.i64.wrap ((k:Int)+1)=(k:Int)+1)
  (h:∀ a',Ag [0,1,4] a a'->qq a' 5 (.int .i64 ((k+1:Nat):Int))->Q .normal a' w):qw aTs Q a w:=by
 refine rW ?_;iterate 3 refine lV ?_
 exact bS (h _ Y av)
noncomputable abbrev a27:Code:=.seq (.seq aTt (.cond (.tmp 14) .skip (.exit 0))) (.seq (.block 1 (.seq aTr (.cond (.tmp 67) (.seq aYm .ret) .skip))) aTs)
noncomputable abbrev aNj:Code:=.seq aYp (.seq (.seq aTu (.cond (.tmp 10) (.seq aYo .ret) .skip)) (.seq (.seq aYn (.block 0 (.loop a27))) (.seq aYl .ret)))
theorem aVr:Tryz.f17.body=some aNj:=U
def I17 (L:List GE)(a0:Act)(ws:World)(k:Nat)(a:Act)(w:World):Prop:=Ag [0,1] a0 a∧k<=L∧qq a 5 (k:Int)∧Ext ws w
theorem aOd {L:List GE}{P1 P2 A B c d R}(hfew:L.length<=100000)(hx:Ens w P1 (.slice A L c) L)(hy:Ens w P2 (.slice B L d) L)(hsz:a.tmps.size=68)(e0:qq a 0 (.slice A L c))(e1:qq a 1 (.slice B L d))
  (hR:∀ a' w',a'.defers=a.defers->qq a' 4 true->Ext w w'->R .ret a' w'):qw aNj R a w:=by
 refine wp_seq ?_;refine rW ?_;iterate 1 refine lV ?_
 refine bS ?_;refine wp_seq (wp_seq (aPd (A:=A) (B:=B) (n:=L.length) (c:=c) (c':=d) av av av ?_));intro a1 g1 e10;refine wp_cond_false e10 (wp_skip ?_);refine wp_seq (wp_seq ?_);have z1:a1.tmps.size=68:=by rw [g1.sz];simp [*]
 refine rW ?_;iterate 1 refine l_v rfl rfl (by simp [execOp,go_sem,z1];exact ⟨rfl,rfl⟩) ?_
 refine bS ?_;have g2:Ag [0,1] a (Pt a1 5 qz):=(((Ag.rf.put rfl).trans (g1.mono rfl)).put rfl);refine wp_block (wp_loop (fun a' w'=>∃ k,I17 L a w k a' w') (fun a' _=>L.length - (intOf (Ev a' (.tmp 5))).toNat) ⟨0,g2,af _,by simp [z1],aq _⟩ ?_);clear g2 z1 e10 g1 a1;rintro a1 w1 ⟨k,hG,hk,e5,hE⟩;have f0:=hG.get 0 e0;have f1:=hG.get 1 e1;have z1:a1.tmps.size=68:=by rw [hG.sz];exact hsz
 refine wp_seq (wp_seq (aPc z1 f0 e5 ?_));intro a2 g2 e14;have z2:a2.tmps.size=68:=by rw [g2.sz];exact z1
 by_cases hlt:k<L
 ·refine wp_cond_true (e14.trans dm) (wp_skip ?_)
  obtain ⟨bx,ox,A1,d1,rfl,-,ea1,gc1⟩:=(hx.ext hE).get hlt;obtain ⟨by_,oy,A2,d2,rfl,-,ea2,gc2⟩:=(hy.ext hE).get hlt
  refine wp_seq (wp_block (wp_seq (aPa z2 (g2.get 0 f0) (g2.get 1 f1) (g2.get 5 e5) I I
   (fun w' h=>⟨aA h (gc1 0 _ rfl),aA h (gc1 1 _ rfl),aA h (gc1 2 _ rfl),aA h (gc1 3 _ rfl),aA h (gc1 4 _ rfl),aA h (gc1 5 _ rfl)⟩)
   (fun w' h=>⟨aA h (gc2 0 _ rfl),aA h (gc2 1 _ rfl),aA h (gc2 2 _ rfl),aA h (gc2 3 _ rfl),aA h (gc2 4 _ rfl),aA h (gc2 5 _ rfl)⟩)
   (fun w2 h2=>((jU _ _ _ _ _ _ w2 (ea1.ext h2).path (ea2.ext h2).path).mono ?_)) ?_)))
  ·rintro e w' ⟨rfl,n,rfl⟩
   exact ⟨O,h2.drewN' n⟩
  ·intro a3 w3 hx3 g3 e67
   refine wp_cond_false e67 (wp_skip ?_);refine aPb (k:=k) (by rw [g3.sz];exact z2) (g3.get 5 (g2.get 5 e5)) (yW I) ?_;intro a4 g4 e5';refine ⟨⟨k+1,((hG.trans (g2.mono rfl)).trans (g3.mono rfl)).trans (g4.mono rfl),hlt,e5',hE.trans' hx3⟩,?_⟩;rw [e5',e5];simp [intOf];omega
 ·refine wp_cond_false (e14.trans dm) (wp_exit ?_)
  refine wp_seq ?_;refine rW ?_;iterate 1 refine l_v rfl rfl (by simp [execOp,go_sem,z2];exact ⟨rfl,rfl⟩) ?_
  refine bS (wp_ret (hR _ _ ?_ (by simp [z2]) hE));exact g2.df.trans hG.df
theorem aJ8 {L P1 P2 v1 v2}(hfew:L.length<=100000)(hx:Ens w P1 v1 L)(hy:Ens w P2 v2 L):qg 17 #[v1,v2] w (dI true w):=by
 obtain ⟨A,c,rfl,-,-⟩:=Lst.form hx;obtain ⟨B,d,rfl,-,-⟩:=Lst.form hy;refine calls_of_wp Tryz.func17 aVr (aOd hfew hx hy ?_ ?_ ?_ ?_)
 ·simp [Tryz.ntmps17]
 ·simp [Ev,Act.eval]
 ·simp [Ev,Act.eval]
 ·intro a' w' h1 h2 h3
  refine bodyPost_ret (v:=true) ?_ h1 ⟨rfl,h3⟩;have h5:a'.tmps[4]?.getD undef=.bool true:=by rw [<- h2];simp [Ev,Act.eval]
  simp [results,Tryz.results17,go_sem,h5]
theorem aEu {t path}(h:bD t t)(hpl:path.length<=1000000000)(h0:0<t.length):aL t path=decide ((bF t path).stop=-1):=by
 have hf:=aH2 h path hpl t (t.length - 1) 0 true I I I I;have hr:=wW h path hpl t (t.length - 1) 0 I I I I;rw [show (((t.length - 1:Nat)):Int)=(t:Int) - 1 by omega] at hf hr;unfold aL bF;generalize bR t path t ((t:Int) - 1) 0=s at *;generalize iT t path t ((t:Int) - 1) 0 true=r at *;have hu:=hr.usedP;rw [show decide (0<t.length)=true from a4e h0,Bool.true_and];by_cases hs:s.stop=-1
 ·obtain ⟨-,y2,y3⟩:=hf.yes rfl hs
  rw [y3,y2,Bool.true_and];by_cases hl:s.used<path
  ·rw [if_pos ⟨hs,hl⟩]
   simp;omega
  ·rw [if_neg (fun h=>hl h.2),hs]
   simp;omega
 ·rw [hf.no rfl hs,if_neg (fun h=>hs h.1)]
  simp [hs]
def aV3 (n:Int)(w:World)(e:Ending)(w':World):Prop:=∃ k z s A m c,e=.returned (.tuple #[.agg #[.int .i64 k,.int .i64 z,.string s,.slice A m c],↑n])∧Ext w w'
def aY3 (b:Bool):Int:=if b then 0 else 11
theorem aGm (t path)(P:Nat->Prop)(vn vp)(w:World)(hd:RdT t path)(hP:∀ b,P b->b<w)(hvl:∀ x ∈ t,x.values.length<=1000000000)(ht:Nds w P vn t)(hvp:Ints w P vp path) :
  qg 50 #[.agg #[vn],vp] w (aV3 (aY3 (aL t path)) w):=by
 have HVA:=a4b (fun (W:World) (hx:Ext w W)=>(eE.2 hd.good) ▸ jW t P vn W (ht.ext hx) hvl);have HRD:=a4b (fun (W:World) (hx:Ext w W) (h0:0<t.length)=>qU t path P vn vp W hd h0 (fun b hb=>ac (hP b hb) hx.size) (ht.ext hx) (hvp.ext hx));have HWR:=a4b (fun h0=>aEu hd.good hd.path h0);have HW0:=a4b (show t.length=0->aL t path=false from fun h=>by unfold aL;simp [h]);obtain ⟨An,cn,en,hn1,hn2⟩:=ht.form;subst en;obtain ⟨Ap,cp,ep,hp1,hp2⟩:=hvp.form;subst ep;clear hd hP hvl ht hvp;generalize aL t path=wb at *;generalize bF t path=r at *;go_enter Tryz.func50,Tryz.ntmps50;go_upto_region 1 with fail;have HE:=a4b (show Ext w ((w.alloc (qk #[.slice An t cn] 25)).alloc (qk #[qz,qz,qe,qn] 85)) from ((aq w).alloc' _).alloc' _);have HB:=a4b ((aw w 25 #[.slice An t cn]).alloc (qk #[qz,qz,qe,qn] 85));have HRES:=a4b (az (w.alloc (qk #[.slice An t cn] 25)) 85 #[qz,qz,qe,qn] (g:=w.heap.size+1) O);generalize hW:(w.alloc (qk #[.slice An t cn] 25)).alloc (qk #[qz,qz,qe,qn] 85)=W at *
 clear hW;have y0:=HB.out.cell' (u:=.slice An t cn) 0 rfl;go_wp2_with fail;refine (HVA.out W HE.out).mono ?_;rintro e w1 ⟨rfl,hx1⟩;have HX1:=a4b (HE.out.trans' hx1);have HB1:=a4b (HB.out.ext hx1);have HR1:=a4b (HRES.out.ext hx1);have y1:=HB1.out.cell' (u:=.slice An t cn) 0 rfl;clear hx1 y0;by_cases hne:0<t.length
 ·have hl0:((t:Int) == 0)=false:=a4c I
  have HWW:=a4b (HWR.out hne);go_wp2_with fail;refine (HRD.out w1 HX1.out hne).mono ?_;rintro e w2 ⟨A2,d2,sv,rfl,-,⟨A3,m3,c3,rfl⟩,hx2⟩;have HX2:=a4b (HX1.out.trans' hx2);have HR2:=a4b ((HR1.out.ext hx2).alloc (qk (bP r A2 d2 (.slice A3 m3 c3)) 154));have HBR:=a4b (aw w2 154 (bP r A2 d2 (.slice A3 m3 c3)));have HX3:=a4b (HX2.out.alloc' (qk (bP r A2 d2 (.slice A3 m3 c3)) 154));clear hx2 y1;go_upto_region 7 with fail;generalize hW:w2.alloc (qk (bP r A2 d2 (.slice A3 m3 c3)) 154)=W2 at *;clear hW;have r0:=HR2.out.cell' (u:=qz) 0 rfl;have f0:=HR2.out.frozen 0;have r1:=HR2.out.cell' (u:=qz) 1 rfl;have f1:=HR2.out.frozen 1;have r2:=HR2.out.cell' (u:=qe) 2 rfl;have f2:=HR2.out.frozen 2;have r3:=HR2.out.cell' (u:=qn) 3 rfl;have f3:=HR2.out.frozen 3;have b0:=HBR.out.cell' (u:=↑r.val.kind) 0 rfl;have b1:=HBR.out.cell' (u:=↑r.val.n) 1 rfl;have b2:=HBR.out.cell' (u:=r.val.s) 2 rfl;have b3:=HBR.out.cell' (u:=.slice A2 r.val.kids d2) 3 rfl;have b5:=HBR.out.cell' (u:=↑r.stop) 5 rfl
  by_cases hs:r.stop=-1
  ·have hd:(r.stop == -1)=true:=a4d hs
   have HF:=a4b (show wb=true by rw [HWW.out];exact a4e hs);clear hs;have q:=(((HR2.out.set_ 0 (↑r.val.kind)).set_ 1 (↑r.val.n)).set_ 2 r.val.s).set_ 3 (.slice A2 r.val.kids d2);have HQ:=a4b q;clear q;have HXQ:=a4b ((((HX3.out.setCell' (p:=qp (w+1)) cj (↑r.val.kind)).setCell' (p:=qt (w+1) 1) cj (↑r.val.n)).setCell' (p:=qt (w+1) 2) cj r.val.s).setCell' (p:=qt (w+1) 3) cj (.slice A2 r.val.kids d2));go_wp2_with fail;generalize (((W2.setCell (qp (w+1)) (↑r.val.kind)).setCell (qt (w+1) 1) (↑r.val.n)).setCell (qt (w+1) 2) r.val.s).setCell (qt (w+1) 3) (.slice A2 r.val.kids d2)=W3 at *;have q0:=HQ.out.cell' (u:=↑r.val.kind) 0 rfl;have q1:=HQ.out.cell' (u:=↑r.val.n) 1 rfl;have q2:=HQ.out.cell' (u:=r.val.s) 2 rfl;have q3:=HQ.out.cell' (u:=.slice A2 r.val.kids d2) 3 rfl;rw [HF.out];exact bodyPost_ret (v:=.tuple #[.agg #[r.val.kind,r.val.n,r.val.s,.slice A2 r.val.kids d2],qz]) (by simp [results,Tryz.results50,go_sem,q0,q1,q2,q3]) rfl ⟨_,_,_,_,_,_,rfl,HXQ.out⟩
  ·have hd:(r.stop == -1)=false:=a4c hs
   have HF:=a4b (show wb=false by rw [HWW.out];exact a4f hs);clear hs;have HQ:=a4b ((((HR2.out.set_ 0 qz).set_ 1 qz).set_ 2 qe).set_ 3 qn);have HXQ:=a4b ((((HX3.out.setCell' (p:=qp (w+1)) cj qz).setCell' (p:=qt (w+1) 1) cj qz).setCell' (p:=qt (w+1) 2) cj qe).setCell' (p:=qt (w+1) 3) cj qn);go_wp2_with fail;generalize (((W2.setCell (qp (w+1)) qz).setCell (qt (w+1) 1) qz).setCell (qt (w+1) 2) qe).setCell (qt (w+1) 3) qn=W3 at *;have q0:=HQ.out.cell' (u:=qz) 0 rfl;have q1:=HQ.out.cell' (u:=qz) 1 rfl;have q2:=HQ.out.cell' (u:=qe) 2 rfl;have q3:=HQ.out.cell' (u:=qn) 3 rfl;rw [HF.out];exact bodyPost_ret (v:=.tuple #[.agg #[qz,qz,qe,qn],.int .i64 11]) (by simp [results,Tryz.results50,go_sem,q0,q1,q2,q3]) rfl ⟨_,_,_,_,_,_,rfl,HXQ.out⟩
 ·have hl0:((t:Int) == 0)=true:=a4d I
  have HF:=a4b (HW0.out I);have r0:=HR1.out.cell' (u:=qz) 0 rfl;have f0:=HR1.out.frozen 0;have r1:=HR1.out.cell' (u:=qz) 1 rfl;have f1:=HR1.out.frozen 1;have r2:=HR1.out.cell' (u:=qe) 2 rfl;have f2:=HR1.out.frozen 2;have r3:=HR1.out.cell' (u:=qn) 3 rfl;have f3:=HR1.out.frozen 3;have HQ:=a4b ((((HR1.out.set_ 0 qz).set_ 1 qz).set_ 2 qe).set_ 3 qn);have HXQ:=a4b ((((HX1.out.setCell' (p:=qp (w+1)) cj qz).setCell' (p:=qt (w+1) 1) cj qz).setCell' (p:=qt (w+1) 2) cj qe).setCell' (p:=qt (w+1) 3) cj qn);go_wp2_with fail;generalize (((w1.setCell (qp (w+1)) qz).setCell (qt (w+1) 1) qz).setCell (qt (w+1) 2) qe).setCell (qt (w+1) 3) qn=W3 at *;have q0:=HQ.out.cell' (u:=qz) 0 rfl;have q1:=HQ.out.cell' (u:=qz) 1 rfl;have q2:=HQ.out.cell' (u:=qe) 2 rfl;have q3:=HQ.out.cell' (u:=qn) 3 rfl;rw [HF.out];exact bodyPost_ret (v:=.tuple #[.agg #[qz,qz,qe,qn],.int .i64 11]) (by simp [results,Tryz.results50,go_sem,q0,q1,q2,q3]) rfl ⟨_,_,_,_,_,_,rfl,HXQ.out⟩
def aRk (v:Value)(k:Nat)(A:Option Addr)(c:Nat):Prop:=∀ (ρ:Operand->Value)(o:Oper)(w:World)(x y:Operand),o.op=.slice 33 x none (some y) none->ρ x=v->ρ y=↑(k:Int)->(execOp ρ o).run Tryz.prog w=.ok (.value (.slice A k c)) w
def aRl (v:Value)(k m:Nat)(A:Option Addr)(c:Nat):Prop:=∀ (ρ:Operand->Value)(o:Oper)(w:World)(x y:Operand),o.op=.slice 33 x (some y) none none->ρ x=v->ρ y=↑(k:Int)->(execOp ρ o).run Tryz.prog w=.ok (.value (.slice A m c)) w
theorem aNe {w base n k v xs}(h:w.ownsRow base 60 6 v n xs)(hk:k<=n)(hn:n<=100000):∃ A c,aRk v k A c∧Sl w (fun b=>some b=v.ownBlock) 6 A k (xs.take (k*6)):=by
 obtain ⟨A,c,e,h1,h2,h3⟩:=Sl.of_own h;subst e;have h4:=(h3 (fun b=>some b=(Value.slice A n c).ownBlock) (fun b hb=>hb.symm)).take hk;rcases h.2 with ⟨e,e2⟩ | ⟨g,cap,cur,e,-⟩
 ·injection e with e1 _ e3
  subst e1 e2 e3;obtain rfl:k=0:=by omega
  refine ⟨none,0,?_,h4⟩;intro ρ o w x y ho hx hy;simp [execOp,ho,hx,hy,go_sem]
 ·injection e with e1 _ e3
  subst e1 e3;refine ⟨_,c,?_,h4⟩;intro ρ o w x y ho hx hy;have h5:(k:Int)<=(c:Int):=by omega
  simp [execOp,ho,hx,hy,go_sem,h5]
theorem aEa {w base n k v xs}(h:w.ownsRow base 60 6 v n xs)(hk:k<=n)(hn:n<=100000):∃ A c,aRl v k (n - k) A c∧Sl w (fun b=>some b=v.ownBlock) 6 A (n - k) (xs.drop (k*6)):=by
 obtain ⟨A,c,e,h1,h2,h3⟩:=Sl.of_own h;subst e;have h4:=h3 (fun b=>some b=(Value.slice A n c).ownBlock) (fun b hb=>hb.symm);have h0:Sl w (fun b=>some b=(Value.slice A n c).ownBlock) 6 A 0 []:=⟨rfl,fun h=>absurd h I⟩;rcases h.2 with ⟨e,e2⟩ | ⟨g,cap,cur,e,-⟩
 ·injection e with e1 _ e3
  subst e1 e2 e3;obtain rfl:k=0:=by omega
  refine ⟨none,0,?_,by simpa using h4⟩;intro ρ o w x y ho hx hy;simp [execOp,ho,hx,hy,go_sem]
 ·injection e with e1 _ e3
  subst e1 e3;have h5:(k:Int)<=(n:Int):=by omega
  by_cases hc:c=k
  ·obtain rfl:n=k:=by omega
   subst hc;refine ⟨some ↑(qp g),0,?_,?_⟩
   ·intro ρ o w x y ho hx hy
    simp [execOp,ho,hx,hy,go_sem]
   ·rw [Nat.sub_self,show xs.drop (c*6)=[] from List.drop_eq_nil_of_le (by rw [h.1];exact ab _)]
    exact h0
  ·refine ⟨some ↑(qt g (k*6)),c - k,?_,?_⟩
   ·intro ρ o w x y ho hx hy
    simp [execOp,ho,hx,hy,go_sem,h5];try omega
   ·have h8:=h4.drop hk
    rwa [Nat.zero_add] at h8
section
variable {t:List GN}{vn:Value}{b:Int}{L L':List GE}{m:Nat}{P:Nat->Prop}{ve v':Value}{w W:World}{xs':List Value}
theorem REn.one:∀ {l xs},RL (REn w P) l xs->∀ u ∈ xs,u.oneCell'=true
 | [],xs,h,u,hu=>by simp only [RL] at h;subst h;simp at hu
 | e :: es,xs,h,u,hu=>by
  obtain ⟨c1,c2,rfl,⟨A,c,rfl,-⟩,h2⟩:=h;rcases ap.1 hu with hu | hu
  ·simp only [aV,ao,List.not_mem_nil,or_false] at hu
   rcases hu with rfl | rfl | rfl | rfl | rfl | rfl <;> rfl
  ·exact REn.one h2 u hu
theorem MAt.replace (h:MAt t vn b L m P ve w)(hx:Ext w W)(ho:W.ownsRow w 60 6 v' L' xs')(hr:RL (REn W P) L' xs')(hinc:mB L')(hfew:L'.length<=100000)(hsh:∀ e ∈ L',e.path.length<=1000000000):cZ t vn b L' m P ve w (W.setCell (qt m 2) v'):=by
 have hm:=h.box.lt;have hbox:=(h.box.ext hx).set_ 2 v';have hfr:∀ k,k ≠ m->(W.setCell (qt m 2) v').heap[k]?=W.heap[k]?:=fun k hk=>Below.heap_setCell _ _ _ _ (fun e=>hk e)
 have hF:Fr (mM m ve) w (W.setCell (qt m 2) v'):=(ar hx).setCell (p:=qt m 2) (.inl (.inl rfl)) v';have hge:∀ k,v'.ownBlock=some k->w<=k:=fun k hk=>ho.block_ge hk
 have hne:some m ≠ v'.ownBlock:=fun e=>by have:=hge m e.symm;omega
 have hkP:aB P W (W.setCell (qt m 2) v'):=fun k _ hp=>hfr k (h.excl k hp).1
 have ho':(W.setCell (qt m 2) v').ownsRow 0 60 6 v' L' xs':=by
  refine ⟨ho.1,?_⟩;rcases ho.2 with h3 | ⟨G,cap,cur,h4,h5,h6,h7⟩
  ·exact .inl h3
  ·exact .inr ⟨G,cap,cur,h4,af _,(hfr G (fun e=>hne (by rw [h4,<- e];rfl))).trans h6,h7⟩
 have hsz:=hF.size;generalize W.setCell (qt m 2) v'=W3 at *;refine ⟨v',⟨hbox,(h.tree.ext hx).carry hkP (fun _ _ h=>h),⟨xs',ho',hr.move eN hkP (fun _ _ h=>h)⟩,?_,hne,hinc,h.bI,hfew,hsh,fun k hk=>ac (h.lt k hk) hsz⟩,hF,?_⟩
 ·intro k hk
  exact ⟨(h.excl k hk).1,fun e=>by have:=hge k e.symm;have:=h.lt k hk;omega⟩
 ·exact fun k hk=>.inr (hge k hk)
theorem MAt.touch (x)(hh:gE x.path L=true)(h:MAt t vn b L m P ve w) :
  ∃ G cap,ve=.slice (qp G) L cap∧aZ x.path L<L∧m ≠ G∧∃ A c,EAt w P (L.getD (aZ x.path L) default) A c ∧
   (∀ j u,(aV (L.getD (aZ x.path L) default) A c)[j]?=some u->qc w G (aZ x.path L*6+j) u)∧(∀ j,w.frozen? (qt G j)=false) ∧
   MAt t vn b (cY L x) m P ve ((w.setCell (qt G (aZ x.path L*6+5)) (.int .i64 (aO (L.getD (aZ x.path L) default) x).hits)).setCell (qt G (aZ x.path L*6+4)) (.bool (aO (L.getD (aZ x.path L) default) x).fresh)):=by
 obtain ⟨xs,h1,h2⟩:=h.own;have hJ:cY L x=L.set (aZ x.path L) (aO (L.getD (aZ x.path L) default) x):=by unfold cY;rw [if_pos hh]
 have hf:aZ x.path L<L:=by
  unfold gE at hh;simp only [Bool.and_eq_true,decide_eq_true_eq] at hh;exact hh.1
 have hinc:=h.inc.join x;rw [hJ] at hinc ⊢;generalize aZ x.path L=f at *;rcases h1 with ⟨hxl,⟨rfl,h4⟩ | ⟨G,cap,cur,rfl,-,hB,h4,h5,h6,h7⟩⟩
 ·omega
 have hBb:Blk w G 60 cur:=hB;obtain ⟨A,c,hec,hE⟩:=RL.get (eN.len w P) h2 default hf
 have hcell:∀ j u,(aV (L.getD f default) A c)[j]?=some u->qc w G (f*6+j) u:=fun j u hu=>by
  rw [<- hec,List.getElem?_take,List.getElem?_drop,<- h7,List.getElem?_take] at hu;split at hu
  ·split at hu
   ·exact hBb.cell' _ ie
   ·cases hu
  ·cases hu
 have hgc:m ≠ G:=fun e=>h.ne gh
 refine ⟨G,cap,rfl,hf,hgc,A,c,hE,hcell,hBb.frozen,?_⟩;have hmem:L.getD f default ∈ L:=aD hf;generalize L.getD f default=y at *;have hB2:=(hBb.set_ (f*6+5) (.int .i64 (aO y x).hits)).set_ (f*6+4) (.bool (aO y x).fresh)
 have hfr:∀ k,k ≠ G->((w.setCell (qt G (f*6+5)) (.int .i64 (aO y x).hits)).setCell (qt G (f*6+4)) (.bool (aO y x).fresh)).heap[k]?=w.heap[k]?:=fun k hk=>by
  rw [Below.heap_setCell _ _ _ _ (fun e=>hk e),Below.heap_setCell _ _ _ _ (fun e=>hk e)]
 have hsz:w.heap.size<=((w.setCell (qt G (f*6+5)) (.int .i64 (aO y x).hits)).setCell (qt G (f*6+4)) (.bool (aO y x).fresh)):=gj;generalize (w.setCell (qt G (f*6+5)) (.int .i64 (aO y x).hits)).setCell (qt G (f*6+4)) (.bool (aO y x).fresh)=W at *;have hkP:aB P w W:=fun k _ hp=>hfr k (fun e=>(h.excl k hp).2 gh)
 have hxs:xs=xs.take (f*6) ++ aV y A c ++ xs.drop ((f+1)*6):=by
  rw [<- hec,show (f+1)*6=f*6+6 by omega,<- List.drop_drop,ah,List.take_append_drop,List.take_append_drop]
 have hset:(xs.set (f*6+5) (.int .i64 (aO y x).hits)).set (f*6+4) (.bool (aO y x).fresh)=xs.take (f*6) ++ aV (aO y x) A c ++ xs.drop ((f+1)*6):=by
  rw [show xs.set (f*6+5) (.int .i64 (aO y x).hits)=(xs.take (f*6) ++ aV y A c ++ xs.drop ((f+1)*6)).set (f*6+5) (.int .i64 (aO y x).hits) by rw [<- hxs]];rw [wF _ _ _ _ _ jt I,wF _ _ _ _ _ jt I];rfl
 refine ⟨(hfr _ hgc).trans h.box,h.tree.carry hkP (fun _ _ h=>h),⟨_,⟨?_,.inr ⟨G,cap,_,by rw [List.length_set],af _,hB2,by rw [List.length_set];exact h4,h5,jp,rfl⟩⟩,?_⟩,h.excl,h.ne,hinc,h.bI,by rw [List.length_set];exact h.few,?_,fun k hk=>ac (h.lt k hk) hsz⟩
 ·simp only [ak,Array.length_toList,Array.size_setIfInBounds,List.length_set]
  have:=Nat.mul_le_mul_right 6 h4;omega
 ·have e1:((cur.setIfInBounds (f*6+5) (.int .i64 (aO y x).hits)).setIfInBounds (f*6+4) (.bool (aO y x).fresh)).toList.take ((L.set f (aO y x))*6)=xs.take (f*6) ++ aV (aO y x) A c ++ xs.drop ((f+1)*6):=by
   rw [List.length_set,Array.toList_setIfInBounds,Array.toList_setIfInBounds,List.take_set,List.take_set,h7,hset]
  rw [e1];exact RL.set (eN.len W P) (h2.move eN hkP (fun _ _ h=>h)) (show REn W P (aO y x) (aV (aO y x) A c) from ⟨A,c,rfl,⟨(hE.carry hkP (fun _ _ h=>h)).path,hE.kind,hE.at_,hE.code,qC _⟩⟩) hf
 ·intro e he
  rcases List.mem_or_eq_of_mem_set he with he | rfl
  ·exact h.short e he
  ·exact h.short y hmem
end
noncomputable def aSe:=RG Tryz.f51 0
noncomputable def aSd:=RG Tryz.f51 1
noncomputable def aSb:=RG Tryz.f51 2
noncomputable def aSa:=RG Tryz.f51 3
noncomputable def aR9:=RG Tryz.f51 4
noncomputable def aXj:=RG Tryz.f51 5
noncomputable def aXi:=RG Tryz.f51 6
noncomputable def aPp:=RG Tryz.f51 7
noncomputable def aR8:=RG Tryz.f51 8
noncomputable def aXh:=RG Tryz.f51 9
noncomputable def aM5:=RG Tryz.f51 10
noncomputable def aM4:=RG Tryz.f51 11
noncomputable def aM3:=RG Tryz.f51 12
noncomputable def aSc:=RG Tryz.f51 13
section
variable {Q:Exit->Act->World->Prop}{a:Act}{w:World}{m gx f k:Nat}{x:GE}{Ax:Option Addr}{cx:Nat}{G n c:Nat}{vn:Value}{b:Int}
theorem aOv (hsz:a.tmps.size=97)(e1:qq a 1 (.agg #[.slice Ax x.path cx,x.kind,x.at_,x.code,x.fresh,x.hits]))
  (h:∀ a',Ag [0] a a'->qq a' 3 (qp w)->Q .normal a' (w.alloc (qk #[.slice Ax x.path cx,x.kind,x.at_,x.code,x.fresh,x.hits] 60))):qw aSe Q a w:=by
 refine rW ?_;iterate 2 refine lV ?_
 exact bS (h _ Y av)
theorem aOu {v1}{z:Int}(hsz:a.tmps.size=97)(e0:qq a 0 (qp m))(e3:qq a 3 (qp gx))(hx0:qc w gx 0 v1)(hc:qg 20 #[qp m,v1] w (dI (↑z) w))
  (h:∀ a' w',Ext w w'->Ag [0,3] a a'->qq a' 5 z->Q .normal a' w'):qw aSd Q a w:=by
 refine rW ?_;iterate 3 refine lV ?_
 refine l_c rfl rfl rfl Tryz.func20 ba ba hc av ?_;rintro e w' ⟨rfl,hx⟩;refine ⟨_,rfl,?_⟩;iterate 1 refine lV ?_
 exact bS (h _ _ hx Y av)
theorem aOt {z:Int}(hsz:a.tmps.size=97)(e5:qq a 5 z)(h:∀ a',Ag [0,3,5] a a'->qq a' 13 (decide (0<=z))->Q .normal a' w):qw aSb Q a w:=by
 refine rW ?_;iterate 2 refine lV ?_
 exact bS (h _ Y av)
theorem aOs {yh xh:Int}(hsz:a.tmps.size=97)(e0:qq a 0 (qp m))(e3:qq a 3 (qp gx))(e5:qq a 5 (f:Int))(hf:(f:Int)<(n:Int))
  (h1:qc w m 2 (.slice (qp G) n c))(h2:qc w G (f*6+5) yh)(h3:qc w gx 5 xh)(hz:w.frozen? (qt G (f*6+5))=false)
  (h:∀ a',Ag [0,3,5] a a'->Q .normal a' (w.drew.setCell (qt G (f*6+5)) (.int .i64 (wrap64 (yh+xh))))):qw aSa Q a w:=by
 conv=>arg 2;whnf
 have hS:qc w.drew m 2 (.slice (qp G) n c)∧qc w.drew G (f*6+5) yh∧qc w.drew gx 5 xh:=⟨h1,h2,h3⟩;have hz':w.drew.frozen? (qt G (f*6+5))=false:=hz;refine dF (fun w'=>qc w' m 2 (.slice (qp G) n c)∧qc w' G (f*6+5) yh∧qc w' gx 5 xh) (fun q=>q != 18) 19 U U ?_;generalize w.drew=W at *;clear h1 h2 h3 hz;refine d_t 3 [0,1,2,3,4,5,6,7,8,9,10,11,12,13,14,15] rfl U hS ?_;iterate 16 refine t_v rfl rfl rfl (fun w hw=>by simp [execOp,go_sem,IntWalk.i64_left,hw, *];rfl) ?_
 refine t_e ?_;refine d_1 16 U rfl rfl rfl (by simp [execOp,go_sem, *];rfl) (fun _=>hS) ?_;refine d_1 17 U rfl rfl rfl (by simp [execOp,go_sem, *];rfl) (fun _=>hS) ?_;refine d_s 18 U rfl rfl rfl (by simp [execOp,go_sem, *];rfl) (fun h=>by simp at h) ?_;exact jN U (h _ Y)
theorem aOr {yf xf:Bool}(hsz:a.tmps.size=97)(e0:qq a 0 (qp m))(e3:qq a 3 (qp gx))(e5:qq a 5 (f:Int))(hf:(f:Int)<(n:Int))
  (h1:qc w m 2 (.slice (qp G) n c))(h2:qc w G (f*6+4) yf)(h3:qc w gx 4 xf)(hz:w.frozen? (qt G (f*6+4))=false)
  (h:∀ a',Ag [0,3,5] a a'->Q .normal a' (w.drew.setCell (qt G (f*6+4)) (yf || xf))):qw aR9 Q a w:=by
 conv=>arg 2;whnf
 have hS:qc w.drew m 2 (.slice (qp G) n c)∧qc w.drew G (f*6+4) yf∧qc w.drew gx 4 xf:=⟨h1,h2,h3⟩;have hz':w.drew.frozen? (qt G (f*6+4))=false:=hz;refine dF (fun w'=>qc w' m 2 (.slice (qp G) n c)∧qc w' G (f*6+4) yf∧qc w' gx 4 xf) (fun q=>q != 19) 20 U U ?_;generalize w.drew=W at *;clear h1 h2 h3 hz;cases yf
 ·refine d_t 3 [0,1,2,3,4,5,6,7,8,9,10,11,12,13,14,15,16] rfl U hS ?_
  iterate 14 refine t_v rfl rfl rfl (fun w hw=>by simp [execOp,go_sem,hw, *];rfl) ?_
  iterate 2 refine t_y rfl rfl rfl rfl av dd rfl (fun w hw=>by simp [execOp,go_sem,hw, *];rfl) ?_
  iterate 1 refine t_v rfl rfl rfl (fun w hw=>by simp [execOp,go_sem,hw, *];rfl) ?_
  refine t_e ?_;refine d_1 17 U rfl rfl rfl (by simp [execOp,go_sem, *];rfl) (fun _=>hS) ?_;refine d_1 18 U rfl rfl rfl (by simp [execOp,go_sem, *];rfl) (fun _=>hS) ?_;refine d_s 19 U rfl rfl rfl (by simp [execOp,go_sem, *];rfl) (fun h=>by simp at h) ?_;exact jN U (h _ Y)
 ·refine d_t 3 [0,1,2,3,4,5,6,7,8,9,10,11,12,13,14,15,16] rfl U hS ?_
  iterate 14 refine t_v rfl rfl rfl (fun w hw=>by simp [execOp,go_sem,hw, *];rfl) ?_
  iterate 2 refine t_n rfl rfl rfl rfl av dd rfl ?_
  iterate 1 refine t_v rfl rfl rfl (fun w hw=>by simp [execOp,go_sem,hw, *];rfl) ?_
  refine t_e ?_;refine d_1 17 U rfl rfl rfl (by simp [execOp,go_sem, *];rfl) (fun _=>hS) ?_;refine d_1 18 U rfl rfl rfl (by simp [execOp,go_sem, *];rfl) (fun _=>hS) ?_;refine d_s 19 U rfl rfl rfl (by simp [execOp,go_sem, *];rfl) (fun h=>by simp at h) ?_;exact jN U (h _ Y)
theorem aKk {Al}(hsz:a.tmps.size=97)(e0:qq a 0 (qp m))(e6:qq a 6 (k:Int))(h1:∀ w',Ext w w'->qc w' m 2 (.slice Al n c))(hk:¬ k<n)
  (h:∀ a' w',Ext w w'->Ag [0,3,6] a a'->qq a' 71 false->Q .normal a' w'):qw aPp Q a w:=by
 conv=>arg 2;whnf
 refine gH (fun w'=>Ext w w') U U (aq w).drew' ?_;iterate 8 refine q_v rfl rfl (fun w hw=>by simp [execOp,go_sem, *];rfl) ?_
 iterate 12 refine q_n rfl rfl rfl av dd rfl ?_
 iterate 1 refine q_v rfl rfl (fun w hw=>by simp [execOp,go_sem, *];rfl) ?_
 exact aHb (fun w' hw=>h _ w' hw Y av)
theorem aKj {v1 v2}{z:Int}(hsz:a.tmps.size=97)(e0:qq a 0 (qp m))(e3:qq a 3 (qp gx))(e6:qq a 6 (k:Int))(hk:k<n)(h1:∀ w',Ext w w'->qc w' m 2 (.slice (qp G) n c)∧qc w' G (k*6) v1∧qc w' gx 0 v2)
  (hc:∀ w1,Ext w w1->Calls Tryz.prog 105 #[v1,v2] w1 fun e w'=>e=.returned (↑z)∧Ext w w')
  (h:∀ a' w',Ext w w'->Ag [0,3,6] a a'->qq a' 71 (decide (z<0))->Q .normal a' w'):qw aPp Q a w:=by
 conv=>arg 2;whnf
 refine gH (fun w'=>Ext w w') U U (aq w).drew' ?_;iterate 8 refine q_v rfl rfl (fun w hw=>by simp [execOp,go_sem,h1 w hw, *];rfl) ?_
 iterate 10 refine q_y rfl rfl rfl av dd rfl (fun w hw=>by simp [execOp,go_sem,h1 w hw, *];rfl) ?_
 refine a1u rfl rfl rfl av dd rfl rfl Tryz.func105 ba ba hc av ?_;iterate 1 refine q_y rfl rfl rfl av dd rfl (fun w hw=>by simp [execOp,go_sem, *];rfl) ?_
 iterate 1 refine q_v rfl rfl (fun w hw=>by simp [execOp,go_sem, *];rfl) ?_
 exact aHb (fun w' hw=>h _ w' hw Y av)
theorem aOq (hsz:a.tmps.size=97)(e6:qq a 6 (k:Int))(hw:IntKind.i64.wrap ((k:Int)+1)=(k:Int)+1)
  (h:∀ a',Ag [0,3] a a'->qq a' 6 (.int .i64 ((k+1:Nat):Int))->Q .normal a' w):qw aR8 Q a w:=by
 refine rW ?_;iterate 3 refine lV ?_
 exact bS (h _ Y av)
theorem aKn {A1 c1 ve xs S}(hsz:a.tmps.size=97)(e0:qq a 0 (qp m))(e6:qq a 6 (k:Int))(e7:qq a 7 qn)(hk:k<=100000)(h1:qc w m 2 ve)(hc:aRk ve k A1 c1)(hs:Sl w S 6 A1 k xs)(hone:∀ u ∈ xs,u.oneCell'=true)
  (h:∀ a' v5 w5,w5.ownsRow w 60 6 v5 k xs->Ext w w5->Ag [0,3,6] a a'->qq a' 7 v5->Q .normal a' w5):qw aM5 Q a w:=by
 refine rW ?_;iterate 6 refine lV ?_
 refine l_v rfl rfl (hc _ _ _ _ _ rfl av av) ?_;refine l_a rfl rfl rfl Tryz.underlying33 Tryz.info60 rfl I (aP w w 60 6) hs av dd hone I I (ab _) ?_;intro v5 w5 ho hf hb;iterate 1 refine lV ?_
 exact bS (h _ v5 w5 (by simpa using ho) (Fr.none_ext hf) Y av)
theorem aKm {base:Nat}{v7 xs}(hsz:a.tmps.size=97)(e3:qq a 3 (qp gx))(e7:qq a 7 v7)(hk:k<=100000)(hB:base<=w)(hx:Blk w gx 60 #[.slice Ax x.path cx,x.kind,x.at_,x.code,x.fresh,x.hits])(hown:w.ownsRow base 60 6 v7 k xs)
  (h:∀ a' v5 w5,w5.ownsRow base 60 6 v5 (k+1) (xs ++ aV x Ax cx)->Fr (fun b=>base<=b) w w5->Ag [0,6] a a'->qq a' 7 v5->Q .normal a' w5):qw aM4 Q a w:=by
 obtain ⟨c0,c1,c2,c3,c4,c5⟩:=bZ hx;refine rW ?_;iterate 3 refine lV ?_
 refine l_a rfl rfl rfl Tryz.underlying33 Tryz.info60 rfl I (hown.alloc _) (Sl.new w (aV x Ax cx) 60 1 6 rfl) av dd (by simp [aV,Value.oneCell']) I I bh ?_;intro v5 w5 ho hf hb;iterate 1 refine lV ?_
 exact bS (h _ v5 w5 ho ((ar ((aq w).alloc' _)).trans (hf.mono (fun b hb=>hown.block_ge hb.symm))) Y av)
theorem aKl {A1}{c1 p n base:Nat}{v7 ve xs ys S}(hsz:a.tmps.size=97)(e0:qq a 0 (qp m))(e6:qq a 6 (k:Int))(e7:qq a 7 v7)(hp:p<=100001)(hn:n<=100000)(hB:base<=w)(hm:m<base)(hb0:Blk w m 35 #[vn,↑b,ve])(hc:aRl ve k n A1 c1)(hs:Sl w S 6 A1 n ys)(hone:∀ u ∈ ys,u.oneCell'=true)(hown:w.ownsRow base 60 6 v7 p xs)
  (h:∀ a' v5 w5,w5.ownsRow base 60 6 v5 (p+n) (xs ++ ys)->Fr (fun b=>base<=b) w w5->Ag [] a a'->Q .normal a' (w5.setCell (qt m 2) v5)):qw aM3 Q a w:=by
 have h1:=hb0.cell' (u:=ve) 2 rfl;refine rW ?_;iterate 7 refine lV ?_
 refine l_v rfl rfl (hc _ _ _ _ _ rfl av av) ?_;refine l_a rfl rfl rfl Tryz.underlying33 Tryz.info60 rfl I hown hs av dd hone I I hB ?_;intro v5 w5 ho hf hb5;have hF:Fr (fun b=>base<=b) w w5:=hf.mono (fun b hb=>hown.block_ge hb.symm);have hb6:=hb0.fr hF I;have q2:=hb6.cell' (u:=ve) 2 rfl;have f2:=hb6.frozen 2;obtain ⟨A5,c5,rfl,-,-,-⟩:=Sl.of_own ho;iterate 2 refine lV ?_
 refine l_s rfl rfl (by simp [execOp,go_sem, *];rfl) ?_;exact bS (h _ _ w5 ho hF Y)
end
noncomputable abbrev a0k:Code:=.seq (.seq aPp (.cond (.tmp 71) .skip (.exit 0))) (.block 1 aR8)
noncomputable abbrev aZ3:Code:=.seq aXi (.seq (.block 0 (.loop a0k)) (.seq aXh (.seq aM5 (.seq aM4 (.seq aM3 (.seq aSc .ret))))))
noncomputable abbrev aNf:Code:=.seq aSe (.seq aSd (.seq (.seq aSb (.cond (.tmp 13) (.seq aSa (.seq aR9 (.seq aXj .ret))) .skip)) aZ3))
theorem aVn:Tryz.f51.body=some aNf:=U
section
variable {t:List GN}{vn:Value}{b:Int}{L:List GE}{m gx:Nat}{P:Nat->Prop}{ve:Value}{a:Act}{w ws:World}{R:Exit->Act->World->Prop}{x:GE}{Ax:Option Addr}{cx:Nat}
def I51 (L:List GE)(p:List Int)(a0:Act)(ws:World)(k:Nat)(a:Act)(w:World):Prop:=Ag [0,3] a0 a∧k<=L∧qq a 6 (k:Int)∧Ext ws w∧∀ j,j<k->fC (L.getD j default).path p<0
theorem aK6 {a0}(hsz:a0.tmps.size=97)(e0:qq a0 0 (qp m))(e3:qq a0 3 (qp gx))(h:MAt t vn b L m P ve ws)(hx:EAt ws P x Ax cx)(hbx:Blk ws gx 60 #[.slice Ax x.path cx,x.kind,x.at_,x.code,x.fresh,x.hits])(hI:I51 L x.path a0 ws 0 a w)
  (hR:∀ a' w',I51 L x.path a0 ws (aZ x.path L) a' w'->R .normal a' w'):qw (.block 0 (.loop a0k)) R a w:=by
 have hfew:=h.few;refine wp_block (wp_loop (fun a' w'=>∃ k,I51 L x.path a0 ws k a' w') (fun a' _=>L.length - (intOf (Ev a' (.tmp 6))).toNat) ⟨0,hI⟩ ?_);clear hI;rintro a w ⟨k,hG,hk,e6,hE,hlo⟩;obtain ⟨Al,cl,rfl,-,-⟩:=Lst.form h.ens;have c2:=aA hE h.cell2;have z1:a.tmps.size=97:=hG.sz.trans hsz;have f0:=hG.get 0 e0;have f3:=hG.get 3 e3;by_cases hlt:k<L
 ·obtain ⟨b1,o1,A1,d1,eA,-,hv1,hgc⟩:=(h.ens.ext hE).get hlt
  obtain ⟨xs,ho,-⟩:=h.own
  have ho0:o1=0:=by
   rcases ho.2 with ⟨e,e2⟩ | ⟨G,cap,cur,e,-⟩
   ·omega
   ·rw [eA] at e
    injection e with e;injection e with e;injection e with e1 e2 e3
  subst eA ho0;have g0:=hgc 0 _ rfl;rw [Nat.zero_add,Nat.add_zero] at g0;refine wp_seq (wp_seq (aKj (z:=fC (L.getD k default).path x.path) z1 f0 f3 e6 hlt (fun w' hw=>⟨aA hw c2,aA hw g0,aA hw (aA hE (hbx.cell' 0 rfl))⟩) ?_ ?_))
  ·intro w1 hx1
   refine (tX _ _ _ _ _ _ w1 (hv1.ext hx1).path (hx.ext (hE.trans' hx1)).path).mono ?_;rintro e w' ⟨rfl,n,rfl⟩;exact ⟨rfl,hx1.drewN' n⟩
  ·intro a2 w2 hx2 g2 e71
   by_cases hc:fC (L.getD k default).path x.path<0
   ·refine wp_cond_true (e71.trans (by rw [a4e hc])) (wp_skip ?_)
    refine wp_block (aOq (g2.sz.trans z1) (g2.get 6 e6) (yW I) ?_);intro a3 g3 e6';refine ⟨⟨k+1,(hG.trans (g2.mono rfl)).trans g3,hlt,e6',hE.trans' hx2,fun j hj=>?_⟩,?_⟩
    ·rcases Nat.lt_or_ge j k with h1 | h1
     ·exact hlo j h1
     ·obtain rfl:j=k:=by omega
      exact hc
    ·rw [e6',e6]
     simp [intOf];omega
   ·refine wp_cond_false (e71.trans (by rw [a4f hc])) (wp_exit ?_)
    have hf:k=aZ x.path L:=oQ h.inc hk hlo (fun j hj hj' hcj=>hc (xI h.inc x.path hj hj' hcj));exact hR _ _ ⟨hG.trans (g2.mono rfl),I,by rw [<- hf];exact g2.get 6 e6,hE.trans' hx2,by rw [<- hf];exact hlo⟩
 ·refine wp_seq (wp_seq (aKk z1 f0 e6 (fun w' hw=>aA hw c2) hlt ?_))
  intro a2 w2 hx2 g2 e71;refine wp_cond_false e71 (wp_exit ?_);have hf:k=aZ x.path L:=oQ h.inc hk hlo (fun j hj hj'=>by omega);exact hR _ _ ⟨hG.trans (g2.mono rfl),I,by rw [<- hf];exact g2.get 6 e6,hE.trans' hx2,by rw [<- hf];exact hlo⟩
theorem aUg (h:MAt t vn b L m P ve w)(hx:EAt w P x Ax cx)(hbx:Blk w gx 60 #[.slice Ax x.path cx,x.kind,x.at_,x.code,x.fresh,x.hits])(hsz:a.tmps.size=97)(e0:qq a 0 (qp m))(e3:qq a 3 (qp gx))(hno:gE x.path L=false)(hfew:L.length+1<=100000)(hpl:x.path.length<=1000000000)
  (hQ:∀ a' w',a'.defers=a.defers->qq a' 4 true->cZ t vn b (cY L x) m P ve w w'->R .ret a' w'):qw aZ3 R a w:=by
 have hJ:cY L x=L.take (aZ x.path L) ++ x :: L.drop (aZ x.path L):=by unfold cY;rw [if_neg (by rw [hno];simp)]
 have hinc:=h.inc.join x;have hle:=mX x.path L;rw [hJ] at hinc hQ;refine wp_seq ?_;refine rW ?_;iterate 1 refine l_v rfl rfl (by simp [execOp,go_sem,hsz];exact ⟨rfl,rfl⟩) ?_
 refine bS ?_;refine wp_seq (aK6 (a0:=a) hsz e0 e3 h hx hbx ⟨Y,af _,dg,aq _,fun j hj=>by omega⟩ ?_);rintro a1 w1 ⟨g1,-,e6,hE1,-⟩;generalize aZ x.path L=f at *;have z1:a1.tmps.size=97:=g1.sz.trans hsz;have f0:=g1.get 0 e0;have f3:=g1.get 3 e3;have h1:=h.ext hE1;obtain ⟨xs,ho,hr⟩:=h1.own;have hone:=REn.one hr;obtain ⟨A1,c1,hc1,hs1⟩:=aNe ho hle h.few;obtain ⟨A2,c2,hc2,hs2⟩:=aEa ho hle h.few;refine wp_seq ?_;refine rW ?_;iterate 1 refine l_v rfl rfl (by simp [execOp,go_sem,z1];exact ⟨rfl,rfl⟩) ?_
 refine bS ?_;refine wp_seq (aKn (by simp [z1]) (by simp [f0]) (by simp [e6]) (by simp [z1]) I h1.cell2 hc1 hs1 (fun u hu=>hone u (List.mem_of_mem_take hu)) ?_);intro a5 v5 w5 ho5 hx5 g5 e7;have k5:Ag [0,3,6] a1 a5:=Ag.trans Y g5;refine wp_seq (aKm (g5.sz.trans (by simp [z1])) (k5.get 3 f3) e7 I hx5.size (hbx.ext (hE1.trans' hx5)) ho5 ?_);intro a6 v6 w6 ho6 hf6 g6 e7';have hE6:Ext w1 w6:=((ar hx5).trans hf6).new_ext (fun _ hb=>hb);refine wp_seq (aKl (g6.sz.trans (k5.sz.trans z1)) (g6.get 0 (k5.get 0 f0)) (g6.get 6 (k5.get 6 e6)) e7' I I hE6.size h1.box.lt (h1.box.ext hE6) hc2 (hs2.ext hE6) (fun u hu=>hone u (List.mem_of_mem_drop hu)) ho6 ?_);intro a7 v7 w7 ho7 hf7 g7;have hE7:Ext w1 w7:=((ar hE6).trans hf7).new_ext (fun _ hb=>hb);have z7:a7.tmps.size=97:=g7.sz.trans (g6.sz.trans (k5.sz.trans z1));refine wp_seq ?_;refine rW ?_;iterate 1 refine l_v rfl rfl (by simp [execOp,go_sem,z7];exact ⟨rfl,rfl⟩) ?_
 refine bS ?_;refine wp_ret (hQ _ _ (g7.df.trans (g6.df.trans (k5.df.trans g1.df))) (by simp [z7]) ?_);have hll:(L.take f ++ x :: L.drop f).length=f+1+(L.length - f):=by simp only [aa,ak,ai,am];omega
 refine cZ.of_ext hE1 (h1.replace hE7 (ho7.len_cast hll.symm rfl) (RL.ins (eN.len w7 P) (hr.move eN (aB.of_ext hE7) (fun _ _ h=>h)) ⟨Ax,cx,rfl,hx.ext (hE1.trans' hE7)⟩ f) hinc (by rw [hll];omega) ?_);intro e he;rcases ap.1 he with he | he
 ·exact h.short e (List.mem_of_mem_take he)
 ·rcases ao.1 he with rfl | he
  ·exact hpl
  ·exact h.short e (List.mem_of_mem_drop he)
theorem aUf (h:MAt t vn b L m P ve w)(hx:EAt w P x Ax cx)(hsz:a.tmps.size=97)(e0:qq a 0 (qp m))(e1:qq a 1 (aD6 x Ax cx))(hfew:L.length+1<=100000)(hpl:x.path.length<=1000000000)
  (hQ:∀ a' w',a'.defers=a.defers->qq a' 4 (!gE x.path L)->cZ t vn b (cY L x) m P ve w w'->R .ret a' w'):qw aNf R a w:=by
 refine wp_seq (aOv hsz e1 ?_);intro a1 g1 e3;have hx1:Ext w (w.alloc (qk #[.slice Ax x.path cx,x.kind,x.at_,x.code,x.fresh,x.hits] 60)):=(aq w).alloc' _;have hbx:=aw w 60 #[.slice Ax x.path cx,x.kind,x.at_,x.code,x.fresh,x.hits];refine wp_seq ?_;generalize w.alloc (qk #[.slice Ax x.path cx,x.kind,x.at_,x.code,x.fresh,x.hits] 60)=W at *;have z1:a1.tmps.size=97:=g1.sz.trans hsz;refine aOu z1 (g1.get 0 e0) e3 (hbx.cell' 0 rfl) (aDx (h.ext hx1) (hx.ext hx1).path) ?_;intro a2 w2 hx2 g2 e5;have hE2:=hx1.trans' hx2;have hb2:=hbx.ext hx2;have h2:=h.ext hE2;have hp:=aAt (path:=x.path) (L:=L);have z2:a2.tmps.size=97:=g2.sz.trans z1;refine wp_seq (wp_seq (aOt z2 e5 ?_));intro a3 g3 e13;rw [hp] at e13;have z3:a3.tmps.size=97:=g3.sz.trans z2;have q0:=g3.get 0 (g2.get 0 (g1.get 0 e0));have q3:=g3.get 3 (g2.get 3 e3);have d3:a3.defers=a.defers:=g3.df.trans (g2.df.trans g1.df);cases hh:gE x.path L with
 | false =>
  rw [hh] at e13 hQ;refine wp_cond_false e13 (wp_skip ?_);refine aUg h2 (hx.ext hE2) hb2 z3 q0 q3 hh hfew hpl ?_;intro a' w' r1 r2 r3;exact hQ a' w' (r1.trans d3) r2 (cZ.of_ext hE2 r3)
 | true =>
  rw [hh] at e13 hQ;obtain ⟨G,cap,rfl,hf,hmG,A1,d1,-,hcell,hfz,hT⟩:=h2.touch x hh;have hfm:xS x.path L=(aZ x.path L:Int):=by unfold xS;rw [if_pos hh]
  have hGw:G<w:=by
   obtain ⟨xs,ho,-⟩:=h.own;exact aM7 ho rfl
  rw [hfm] at e5;generalize aZ x.path L=f at *;generalize L.getD f default=y at *;refine wp_cond_true e13 (wp_seq (aOs z3 q0 q3 (g3.get 5 e5) I h2.cell2 (hcell 5 _ rfl) (hb2.cell' 5 rfl) (hfz _) ?_));intro a4 g4;have k1:(w2.drew.setCell (qt G (f*6+5)) (.int .i64 (wrap64 (y.hits+x.hits)))).cell? (qt m 2)=some (.slice (qp G) L cap):=(World.cell?_setCell_far w2.drew (qt G (f*6+5)) (qt m 2) _ (fun e=>hmG e.symm)).trans h2.cell2;have k2:(w2.drew.setCell (qt G (f*6+5)) (.int .i64 (wrap64 (y.hits+x.hits)))).cell? (qt w 4)=some ↑x.fresh:=(World.cell?_setCell_far w2.drew (qt G (f*6+5)) (qt w 4) _ (fun e=>by have e:G=w:=e;omega)).trans (hb2.cell' 4 rfl);have k3:(w2.drew.setCell (qt G (f*6+5)) (.int .i64 (wrap64 (y.hits+x.hits)))).cell? (qt G (f*6+4))=some ↑y.fresh:=(World.cell?_setCell_other w2.drew (qt G (f*6+5)) (qt G (f*6+4)) _ (fun e=>by have:=congrArg Addr.off e;simp at this)).trans (hcell 4 _ rfl);have k4:(w2.drew.setCell (qt G (f*6+5)) (.int .i64 (wrap64 (y.hits+x.hits)))).frozen? (qt G (f*6+4))=false:=by simpa using hfz (f*6+4)
  have hF:Fr (mM m (.slice (qp G) L cap)) w ((w2.drew.setCell (qt G (f*6+5)) (.int .i64 (wrap64 (y.hits+x.hits)))).drew.setCell (qt G (f*6+4)) (y.fresh || x.fresh)):=((((ar hE2).drew).setCell (p:=qt G (f*6+5)) (.inl (.inr rfl)) _).drew).setCell (p:=qt G (f*6+4)) (.inl (.inr rfl)) _;have hT':MAt t vn b (cY L x) m P (.slice (qp G) L cap) ((w2.drew.setCell (qt G (f*6+5)) (.int .i64 (wrap64 (y.hits+x.hits)))).drew.setCell (qt G (f*6+4)) (y.fresh || x.fresh)):=(hT.ext (aq _).drew').ext (aq _).drew';have hQ':=fun a' r1 r2=>hQ a' _ r1 r2 ⟨_,hT',hF,fun _ h=>.inl h⟩
  generalize w2.drew.setCell (qt G (f*6+5)) (.int .i64 (wrap64 (y.hits+x.hits)))=W3 at *;have z4:a4.tmps.size=97:=g4.sz.trans z3;refine wp_seq (aOr z4 (g4.get 0 q0) (g4.get 3 q3) (g4.get 5 (g3.get 5 e5)) I k1 k3 k2 k4 ?_);intro a5 g5;have z5:a5.tmps.size=97:=g5.sz.trans z4;refine wp_seq ?_;refine rW ?_;iterate 1 refine l_v rfl rfl (by simp [execOp,go_sem,z5];exact ⟨rfl,rfl⟩) ?_
  exact bS (wp_ret (hQ' _ (g5.df.trans (g4.df.trans d3)) (by simp [z5])))
theorem aPw (h:MAt t vn b L m P ve w)(hx:EAt w P x Ax cx)(hfew:L.length+1<=100000)(hpl:x.path.length<=1000000000) :
  Calls Tryz.prog 51 #[qp m,aD6 x Ax cx] w fun e w'=>e=.returned (!gE x.path L)∧cZ t vn b (cY L x) m P ve w w':=by
 refine calls_of_wp Tryz.func51 aVn (aUf h hx ?_ ?_ ?_ hfew hpl ?_)
 ·simp [Tryz.ntmps51]
 ·simp [Ev,Act.eval]
 ·simp [Ev,Act.eval]
 ·intro a' w' h1 h2 h3
  refine bodyPost_ret (v:=(!gE x.path L)) ?_ h1 ⟨rfl,h3⟩;have h5:a'.tmps[4]?.getD undef=.bool (!gE x.path L):=by rw [<- h2];simp [Ev,Act.eval]
  simp [results,Tryz.results51,go_sem,h5]
end
noncomputable def aPo:=RG Tryz.f52 0
noncomputable def aR7:=RG Tryz.f52 1
noncomputable def aR6:=RG Tryz.f52 2
noncomputable def aR5:=RG Tryz.f52 3
noncomputable def aR4:=RG Tryz.f52 4
noncomputable def aR3:=RG Tryz.f52 5
noncomputable def aR2:=RG Tryz.f52 6
noncomputable def aPn:=RG Tryz.f52 7
noncomputable def aPm:=RG Tryz.f52 8
noncomputable def aXg:=RG Tryz.f52 9
noncomputable def aM2:=RG Tryz.f52 10
noncomputable def aM1:=RG Tryz.f52 11
section
variable {Q:Exit->Act->World->Prop}{a:Act}{w:World}{m k i:Nat}{G n c:Nat}{Al:Option Addr}{vn:Value}{b s kk:Int}
theorem aKh (hsz:a.tmps.size=67)(e0:qq a 0 (qp m))(h1:∀ w',Ext w w'->qc w' m 1 b)(hd:b<s)(hc:∀ w1,Ext w w1->Calls Tryz.prog 16 #[qp m] w1 fun e w'=>e=.returned (↑s)∧Ext w w')
  (h:∀ a' w',Ext w w'->Ag [0] a a'->qq a' 19 true->Q .normal a' w'):qw aPo Q a w:=by
 conv=>arg 2;whnf
 refine gH (fun w'=>Ext w w') U U (aq w).drew' ?_;iterate 1 refine q_v rfl rfl (fun w hw=>by simp [execOp,go_sem, *];rfl) ?_
 refine q_c rfl rfl rfl Tryz.func16 ba ba hc av ?_;iterate 6 refine q_v rfl rfl (fun w hw=>by simp [execOp,go_sem, *];rfl) ?_
 iterate 6 refine q_n rfl rfl rfl av dd rfl ?_
 iterate 1 refine q_v rfl rfl (fun w hw=>by simp [execOp,go_sem, *];rfl) ?_
 exact aHb (fun w' hw=>h _ w' hw Y av)
theorem aKi (hsz:a.tmps.size=67)(e0:qq a 0 (qp m))(h1:∀ w',Ext w w'->qc w' m 1 b∧qc w' m 2 (.slice Al n c))(hd:¬ b<s)(hc:∀ w1,Ext w w1->Calls Tryz.prog 16 #[qp m] w1 fun e w'=>e=.returned (↑s)∧Ext w w')
  (h:∀ a' w',Ext w w'->Ag [0] a a'->qq a' 19 (decide (256<n))->Q .normal a' w'):qw aPo Q a w:=by
 conv=>arg 2;whnf
 refine gH (fun w'=>Ext w w') U U (aq w).drew' ?_;iterate 1 refine q_v rfl rfl (fun w hw=>by simp [execOp,go_sem, *];rfl) ?_
 refine q_c rfl rfl rfl Tryz.func16 ba ba hc av ?_;iterate 6 refine q_v rfl rfl (fun w hw=>by simp [execOp,go_sem,h1 w hw, *];rfl) ?_
 iterate 6 refine q_y rfl rfl rfl av dd rfl (fun w hw=>by simp [execOp,go_sem,h1 w hw, *];rfl) ?_
 iterate 1 refine q_v rfl rfl (fun w hw=>by simp [execOp,go_sem, *];rfl) ?_
 exact aHb (fun w' hw=>h _ w' hw Y (by simp [*];try omega))
theorem aOp (hsz:a.tmps.size=67)(e0:qq a 0 (qp m))(e3:qq a 3 (i:Int))(h2:qc w m 2 (.slice Al n c))
  (h:∀ a',Ag [0,2,3] a a'->qq a' 26 (decide (i<n))->Q .normal a' w):qw aR5 Q a w:=by
 refine rW ?_;iterate 7 refine lV ?_
 exact bS (h _ Y av)
theorem aOo {f:Bool}(hsz:a.tmps.size=67)(e0:qq a 0 (qp m))(e3:qq a 3 (i:Int))(hi:i<n)(h2:qc w m 2 (.slice (qp G) n c))(h3:qc w G (i*6+4) f)
  (h:∀ a',Ag [0,2,3] a a'->qq a' 37 (!f)->Q .normal a' w):qw aR3 Q a w:=by
 refine rW ?_;iterate 9 refine lV ?_
 exact bS (h _ Y av)
theorem aOn (hsz:a.tmps.size=67)(e3:qq a 3 (i:Int))(h:∀ a',Ag [0,3] a a'->qq a' 2 (i:Int)->Q .normal a' w):qw aR2 Q a w:=by
 refine rW ?_;iterate 2 refine lV ?_
 exact bS (h _ Y av)
theorem aG5 (hsz:a.tmps.size=67)(e3:qq a 3 (i:Int))(hw:IntKind.i64.wrap ((i:Int)+1)=(i:Int)+1)(h:∀ a',Ag [0,2] a a'->qq a' 3 (.int .i64 ((i+1:Nat):Int))->Q .normal a' w):qw aR4 Q a w:=by
 refine rW ?_;iterate 3 refine lV ?_
 exact bS (h _ Y av)
theorem aOm (hsz:a.tmps.size=67)(e2:qq a 2 kk)(h:∀ a',Ag [0,2] a a'->qq a' 40 (decide (kk<0))->Q .normal a' w):qw aPn Q a w:=by
 refine rW ?_;iterate 2 refine lV ?_
 exact bS (h _ Y av)
theorem aOl (hsz:a.tmps.size=67)(e0:qq a 0 (qp m))(h2:qc w m 2 (.slice Al n c))(hw:IntKind.i64.wrap ((n:Int) - 1)=(n:Int) - 1)
  (h:∀ a',Ag [0] a a'->qq a' 2 (.int .i64 ((n:Int) - 1))->Q .normal a' w):qw aPm Q a w:=by
 refine rW ?_;iterate 7 refine lV ?_
 exact bS (h _ Y av)
theorem aKg {A1 c1 ve xs S}(hsz:a.tmps.size=67)(e0:qq a 0 (qp m))(e2:qq a 2 (k:Int))(e4:qq a 4 qn)(hk:k<=100000)(h1:qc w m 2 ve)(hc:aRk ve k A1 c1)(hs:Sl w S 6 A1 k xs)(hone:∀ u ∈ xs,u.oneCell'=true)
  (h:∀ a' v5 w5,w5.ownsRow w 60 6 v5 k xs->Ext w w5->Ag [0,2] a a'->qq a' 4 v5->Q .normal a' w5):qw aM2 Q a w:=by
 refine rW ?_;iterate 6 refine lV ?_
 refine l_v rfl rfl (hc _ _ _ _ _ rfl av av) ?_;refine l_a rfl rfl rfl Tryz.underlying33 Tryz.info60 rfl I (aP w w 60 6) hs av dd hone I I (ab _) ?_;intro v5 w5 ho hf hb;iterate 1 refine lV ?_
 exact bS (h _ v5 w5 (by simpa using ho) (Fr.none_ext hf) Y av)
theorem aKf {A1}{c1 p n base:Nat}{v4 ve xs ys S}(hsz:a.tmps.size=67)(e0:qq a 0 (qp m))(e2:qq a 2 (k:Int))(e4:qq a 4 v4)(hw:IntKind.i64.wrap ((k:Int)+1)=(k:Int)+1)(hp:p<=100001)(hn:n<=100000)(hB:base<=w)(hm:m<base)(hb0:Blk w m 35 #[vn,↑b,ve])(hc:aRl ve (k+1) n A1 c1)(hs:Sl w S 6 A1 n ys)(hone:∀ u ∈ ys,u.oneCell'=true)(hown:w.ownsRow base 60 6 v4 p xs)
  (h:∀ a' v5 w5,w5.ownsRow base 60 6 v5 (p+n) (xs ++ ys)->Fr (fun b=>base<=b) w w5->Ag [0] a a'->Q .normal a' (w5.setCell (qt m 2) v5)):qw aM1 Q a w:=by
 have h1:=hb0.cell' (u:=ve) 2 rfl;refine rW ?_;iterate 8 refine lV ?_
 refine l_v rfl rfl (hc _ _ _ _ _ rfl av av) ?_;refine l_a rfl rfl rfl Tryz.underlying33 Tryz.info60 rfl I hown hs av dd hone I I hB ?_;intro v5 w5 ho hf hb5;have hF:Fr (fun b=>base<=b) w w5:=hf.mono (fun b hb=>hown.block_ge hb.symm);have hb6:=hb0.fr hF I;have q2:=hb6.cell' (u:=ve) 2 rfl;have f2:=hb6.frozen 2;obtain ⟨A5,c5,rfl,-,-,-⟩:=Sl.of_own ho;iterate 2 refine lV ?_
 refine l_s rfl rfl (by simp [execOp,go_sem, *];rfl) ?_;exact bS (h _ _ w5 ho hF Y)
end
noncomputable abbrev aY2:Code:=.seq (.seq aR5 (.cond (.tmp 26) .skip (.exit 2))) (.seq (.block 3 (.seq aR3 (.cond (.tmp 37) aR2 .skip))) aR4)
noncomputable abbrev aWn:Code:=.seq aXg (.seq aM2 aM1)
noncomputable abbrev a0s:Code:=.seq (.seq aPo (.cond (.tmp 19) .skip (.exit 0))) (.block 1 (.seq aR7 (.seq (.seq aR6 (.block 2 (.loop aY2))) (.seq (.seq aPn (.cond (.tmp 40) aPm .skip)) aWn))))
theorem aVm:Tryz.f52.body=some (.block 0 (.loop a0s)):=U
section
variable {t:List GN}{vn:Value}{b:Int}{L:List GE}{m:Nat}{P:Nat->Prop}{ve:Value}{a a0:Act}{w ws:World}{R:Exit->Act->World->Prop}
def J52 (L:List GE)(a0:Act)(ws:World)(i:Nat)(a:Act)(w:World):Prop :=
 Ag [0] a0 a∧i<=L∧qq a 3 (i:Int)∧Ext ws w∧∃ kk:Int,qq a 2 kk∧-1<=kk∧kk<(L:Int)∧fB i (if kk<0 then L.length - 1 else kk.toNat) (L.drop i)=nJ L
theorem MAt.row (h:MAt t vn b L m P ve w)(h0:0<L.length):∃ G c,ve=.slice (qp G) L c:=by
 obtain ⟨xs,ho,-⟩:=h.own;rcases ho.2 with ⟨_,e2⟩ | ⟨G,cap,cur,e,-⟩
 ·omega
 ·exact ⟨G,cap,e⟩
theorem aVa (h:MAt t vn b L m P ve ws)(hpos:0<L.length)(hsz:a0.tmps.size=67)(e0:qq a0 0 (qp m))(hI:J52 L a0 ws 0 a w)(hR:∀ a' w',J52 L a0 ws L a' w'->R .normal a' w'):qw (.block 2 (.loop aY2)) R a w:=by
 have hfew:=h.few;refine wp_block (wp_loop (fun a' w'=>∃ i,J52 L a0 ws i a' w') (fun a' _=>L.length - (intOf (Ev a' (.tmp 3))).toNat) ⟨0,hI⟩ ?_);clear hI;rintro a w ⟨i,hG,hi,e3,hE,kk,e2,hk0,hk1,hcf⟩;obtain ⟨G,c,rfl⟩:=h.row hpos;have c2:=aA hE h.cell2;have z1:a.tmps.size=67:=hG.sz.trans hsz;have f0:=hG.get 0 e0;refine wp_seq (wp_seq (aOp z1 f0 e3 c2 ?_));intro a1 g1 e26;have z2:a1.tmps.size=67:=g1.sz.trans z1;by_cases hlt:i<L
 ·obtain ⟨b1,o1,A1,d1,eA,-,-,hgc⟩:=(h.ens.ext hE).get hlt
  injection eA with eA;injection eA with e1 eo _;subst e1 eo;have g4:=hgc 4 _ rfl;rw [Nat.zero_add] at g4;have hD:fB (i+1) (if (L.getD i default).fresh then (if kk<0 then L.length - 1 else kk.toNat) else i) (L.drop (i+1))=nJ L:=by rw [<- hcf,aH default hlt];rfl
  have hms:∀ a':Act,qq a' 3 (.int .i64 ((i+1:Nat):Int))->L.length - (intOf (Ev a' (.tmp 3))).toNat<L - (intOf (Ev a (.tmp 3))).toNat:=fun a' e=>by
   rw [e,e3];simp [intOf];omega
  generalize (L.getD i default).fresh=yf at *;refine wp_cond_true (e26.trans dm) (wp_skip ?_);refine wp_seq (wp_block (wp_seq (aOo z2 (g1.get 0 f0) (g1.get 3 e3) hlt c2 g4 ?_)));intro a2 g2 e37;have z3:a2.tmps.size=67:=g2.sz.trans z2;cases yf
  ·refine wp_cond_true e37 (aOn z3 (g2.get 3 (g1.get 3 e3)) ?_)
   intro a3 g3 e2';refine aG5 (g3.sz.trans z3) (g3.get 3 (g2.get 3 (g1.get 3 e3))) (yW I) ?_;intro a4 g4' e3';refine ⟨⟨i+1,((hG.trans (g1.mono rfl)).trans (g2.mono rfl)).trans ((g3.mono rfl).trans (g4'.mono rfl)),hlt,e3',hE,(i:Int),g4'.get 2 e2',I,I,?_⟩,hms _ e3'⟩;rw [if_neg I,Int.toNat_natCast];exact hD
  ·refine wp_cond_false e37 (wp_skip ?_)
   refine aG5 z3 (g2.get 3 (g1.get 3 e3)) (yW I) ?_;intro a4 g4' e3';exact ⟨⟨i+1,(hG.trans (g1.mono rfl)).trans ((g2.mono rfl).trans (g4'.mono rfl)),hlt,e3',hE,kk,g4'.get 2 (g2.get 2 (g1.get 2 e2)),I,I,hD⟩,hms _ e3'⟩
 ·obtain rfl:i=L:=by omega
  refine wp_cond_false (e26.trans O) (wp_exit ?_);exact hR _ _ ⟨hG.trans (g1.mono rfl),hi,g1.get 3 e3,hE,kk,g1.get 2 e2,hk0,hk1,hcf⟩
theorem aL7 {k:Nat}(h:MAt t vn b L m P ve w)(hk:k<L)(hsz:a.tmps.size=67)(e0:qq a 0 (qp m))(e2:qq a 2 (k:Int))(hR:∀ a' w',Ag [0] a a'->cZ t vn b (L.eraseIdx k) m P ve w w'->R .normal a' w'):qw aWn R a w:=by
 have hfew:=h.few;obtain ⟨xs,ho,hr⟩:=h.own;have hone:=REn.one hr;obtain ⟨A1,c1,hc1,hs1⟩:=aNe ho (Nat.le_of_lt hk) h.few;obtain ⟨A2,c2,hc2,hs2⟩:=aEa ho (show k+1<=L from hk) h.few;refine wp_seq ?_;refine rW ?_;iterate 1 refine l_v rfl rfl (by simp [execOp,go_sem,hsz];exact ⟨rfl,rfl⟩) ?_
 refine bS ?_;refine wp_seq (aKg dg (by simp [e0]) (by simp [e2]) dg I h.cell2 hc1 hs1 (fun u hu=>hone u (List.mem_of_mem_take hu)) ?_);intro a5 v5 w5 ho5 hx5 g5 e4;have k5:Ag [0,2] a a5:=Ag.trans Y g5;refine aKf (k5.sz.trans hsz) (k5.get 0 e0) (k5.get 2 e2) e4 (yW I) I I hx5.size h.box.lt (h.box.ext hx5) hc2 (hs2.ext hx5) (fun u hu=>hone u (List.mem_of_mem_drop hu)) ho5 ?_;intro a7 v7 w7 ho7 hf7 g7;have hE7:Ext w w7:=((ar hx5).trans hf7).new_ext (fun _ hb=>hb);have hll:(L.eraseIdx k).length=k+(L.length - (k+1)):=by rw [List.length_eraseIdx,if_pos hk];omega
 have hsub:(L.eraseIdx k).Sublist L:=List.eraseIdx_sublist L k;refine hR _ _ ((k5.mono rfl).trans g7) (h.replace hE7 (ho7.len_cast hll.symm rfl) ?_ (List.Pairwise.sublist (hsub.map GE.path) h.inc) I (fun e he=>h.short e (hsub.subset he)));rw [List.eraseIdx_eq_take_drop_succ];have hr':=hr.move eN (aB.of_ext hE7) (fun _ _ h=>h);exact (hr'.take (eN.len w7 P) k).append (hr'.drop (eN.len w7 P) (k+1))
def O52 (t:List GN)(vn:Value)(b:Int)(L:List GE)(m:Nat)(P:Nat->Prop)(ve:Value)(a0:Act)(w:World)(a':Act)(w':World):Prop :=
 Ag [0] a0 a'∧∃ L' v1,MAt t vn b L' m P v1 w'∧Fr (mM m ve) w w'∧(∀ k,v1.ownBlock=some k->ve.ownBlock=some k∨w<=k)∧vF b L'=vF b L
theorem aHt (h:MAt t vn b L m P ve w):rZ w (qt m 2)=L:=by
 obtain ⟨A,c,rfl,-,-⟩:=Lst.form h.ens;unfold rZ;rw [h.cell2]
theorem aU9 (h:MAt t vn b L m P ve w)(hsz:a.tmps.size=67)(e0:qq a 0 (qp m))(hQ:∀ a' w',a'.defers=a.defers->cZ t vn b (vF b L) m P ve w w'->R .normal a' w'):qw (.block 0 (.loop a0s)) R a w:=by
 refine wp_block (wp_loop (O52 t vn b L m P ve a w) (fun _ w'=>rZ w' (qt m 2)) ⟨.rf,L,ve,h,au _ w,fun _ h=>.inl h,rfl⟩ ?_);clear h;rintro a1 w1 ⟨hG,L1,v1,h,hF,hob,hcu⟩;have hfew:=h.few;have hbI:=h.bI;have z1:a1.tmps.size=67:=hG.sz.trans hsz;have f0:=hG.get 0 e0;obtain ⟨Al,cl,eA,-,-⟩:=Lst.form h.ens;have c2:=h.cell2;rw [eA] at c2;have hby:∀ W,Ext w1 W->Calls Tryz.prog 16 #[qp m] W fun e w'=>e=.returned (.int .i64 (bC L1))∧Ext w1 w':=fun W hx=>(aFe (h.ext hx)).mono (fun _ _ ⟨q1,q2⟩=>⟨q1,hx.trans' q2⟩)
 have key:∀ a2 w2,Ag [0] a1 a2->Ext w1 w2->(b<bC L1∨256<L1.length)->qw (.block 1 (.seq aR7 (.seq (.seq aR6 (.block 2 (.loop aY2))) (.seq (.seq aPn (.cond (.tmp 40) aPm .skip)) aWn)))) (Exit.then (fun a' w'=>O52 t vn b L m P ve a w a' w'∧rZ w' (qt m 2)<rZ w1 (qt m 2)) (Exit.inBlock 0 R)) a2 w2:=by
  intro a2 w2 g2 hx2 hc;have z2:a2.tmps.size=67:=g2.sz.trans z1
  have hpos:0<L1.length:=by
   rcases hc with h1 | h1
   ·cases L1 with
    | nil=>simp [bC] at h1;omega
    | cons _ _=>simp
   ·omega
  have h2:=h.ext hx2;have hkl:=yA hpos
  have fin:∀ a3 w3,Ag [0] a2 a3->Ext w2 w3->qq a3 2 (.int .i64 ((nJ L1:Nat):Int))->qw aWn (Exit.inBlock 1 (Exit.then (fun a' w'=>O52 t vn b L m P ve a w a' w'∧rZ w' (qt m 2)<rZ w1 (qt m 2)) (Exit.inBlock 0 R))) a3 w3:=by
   intro a3 w3 g3 hx3 e2;refine aL7 (h2.ext hx3) hkl (g3.sz.trans z2) (g3.get 0 (g2.get 0 f0)) e2 ?_;intro a4 w4 g4 hA;obtain ⟨v4,q1,q2,q3⟩:=cZ.trans (L1:=L1) (hF.trans (ar (hx2.trans' hx3))) (fun k hk=>(hob k hk)) hA;refine ⟨⟨(hG.trans g2).trans (g3.trans g4),_,v4,q1,q2,q3,?_⟩,?_⟩
   ·rw [<- hcu,<- aA1 hc hpos]
   ·rw [aHt q1,aHt h,List.length_eraseIdx,if_pos hkl]
    omega
  refine wp_block (wp_seq ?_);refine rW ?_;iterate 1 refine l_v rfl rfl (by simp [execOp,go_sem,z2];exact ⟨rfl,rfl⟩) ?_
  refine bS (wp_seq (wp_seq ?_));refine rW ?_;iterate 1 refine l_v rfl rfl (by simp [execOp,go_sem,z2];exact ⟨rfl,rfl⟩) ?_
  refine bS ?_;refine aVa (a0:=a2) h2 hpos z2 (g2.get 0 f0) ⟨Y,af _,by simp [z2],aq _,-1,by simp [z2],I,I,rfl⟩ ?_;rintro a3 w3 ⟨g3,-,-,hx3,kk,e2,hk0,hk1,hcf⟩;rw [drop_nil (ab _)] at hcf;have z3:a3.tmps.size=67:=g3.sz.trans z2;refine wp_seq (wp_seq (aOm z3 e2 ?_));intro a4 g4 e40;have z4:a4.tmps.size=67:=g4.sz.trans z3;by_cases hneg:kk<0
  ·rw [if_pos hneg] at hcf
   have hcf:L1.length - 1=nJ L1:=hcf;refine wp_cond_true (e40.trans (by rw [a4e hneg])) (aOl z4 (g4.get 0 (g3.get 0 (g2.get 0 f0))) (aA hx3 (aA hx2 c2)) (IntWalk.i64_in _ I) ?_);intro a5 g5 e2';exact fin _ _ (g3.trans ((g4.mono rfl).trans g5)) hx3 (e2'.trans (by rw [<- hcf];congr 1;omega))
  ·rw [if_neg hneg] at hcf
   have hcf:kk.toNat=nJ L1:=hcf;refine wp_cond_false (e40.trans (by rw [a4f hneg])) (wp_skip ?_);exact fin _ _ (g3.trans (g4.mono rfl)) hx3 ((g4.get 2 e2).trans (by rw [<- hcf];congr 1;omega))
 by_cases hb:b<bC L1
 ·refine wp_seq (wp_seq (aKh z1 f0 (fun w' hw=>aA hw h.cell1) hb hby ?_))
  intro a2 w2 hx2 g2 e19;exact wp_cond_true e19 (wp_skip (key _ _ g2 hx2 (.inl hb)))
 ·refine wp_seq (wp_seq (aKi z1 f0 (fun w' hw=>⟨aA hw h.cell1,aA hw c2⟩) hb hby ?_))
  intro a2 w2 hx2 g2 e19;by_cases hl:256<L1.length
  ·exact wp_cond_true (e19.trans (by rw [a4e hl])) (wp_skip (key _ _ g2 hx2 (.inr hl)))
  ·refine wp_cond_false (e19.trans (by rw [a4f hl])) (wp_exit ?_)
   refine hQ _ _ (g2.df.trans hG.df) ⟨v1,?_,hF.trans (ar hx2),hob⟩;rw [<- hcu];unfold vF;rw [aEd I];exact h.ext hx2
theorem aLb (h:MAt t vn b L m P ve w):Calls Tryz.prog 52 #[qp m] w fun e w'=>e=.returned (.tuple #[])∧cZ t vn b (vF b L) m P ve w w':=by
 refine calls_of_wp Tryz.func52 aVm (aU9 h ?_ ?_ ?_)
 ·simp [Tryz.ntmps52]
 ·simp [Ev,Act.eval]
 ·intro a' w' h1 h3
  exact ⟨h1,.tuple #[],by simp [results,Tryz.results52,go_sem],rfl,h3⟩
end
noncomputable def aUa:=RG Tryz.f14 0
noncomputable def aT9:=RG Tryz.f14 1
noncomputable def aT8:=RG Tryz.f14 2
noncomputable def aT7:=RG Tryz.f14 3
noncomputable def aT6:=RG Tryz.f14 4
noncomputable def aT5:=RG Tryz.f14 5
noncomputable def aT4:=RG Tryz.f14 6
noncomputable def aT3:=RG Tryz.f14 7
noncomputable def aT2:=RG Tryz.f14 8
section
variable {Q:Exit->Act->World->Prop}{a:Act}{w:World}{m:Nat}{vn vp:Value}{R:World->Prop}
theorem aPl {k x c:Int}(hsz:a.tmps.size=38)(e2:qq a 2 (.agg #[↑k,↑x,↑c]))
  (h:∀ a',Ag [0,1,3] a a'->qq a' 6 (qp w)->Q .normal a' (w.alloc (qk #[↑k,↑x,↑c] 41))):qw aUa Q a w:=by
 refine rW ?_;iterate 3 refine lV ?_
 exact bS (h _ Y av)
theorem aPk {n}(hsz:a.tmps.size=38)(e0:qq a 0 (qp m))(e1:qq a 1 vp)(c0:qc w m 0 vn)(hc:qg 50 #[.agg #[vn],vp] w (aV3 n w))
  (h:∀ a' w',Ag [0,1,3,6] a a'->qq a' 11 n->Ext w w'->Q .normal a' w'):qw aT9 Q a w:=by
 refine rW ?_;iterate 5 refine lV ?_
 refine l_c rfl rfl rfl Tryz.func50 ba ba hc av ?_;rintro e w1 ⟨k,z,s,A,m,c,rfl,hx⟩;refine ⟨_,rfl,?_⟩;iterate 4 refine lV ?_
 have hB:=aw w1 85 #[qz,qz,qe,qn];have hX:Ext w1 (w1.alloc (qk #[qz,qz,qe,qn] 85)):=(aq w1).alloc' _;generalize w1.alloc (qk #[qz,qz,qe,qn] 85)=W at *;obtain ⟨q0,q1,q2,q3⟩:=aQ hB;have f0:=hB.frozen 0;have f1:=hB.frozen 1;have f2:=hB.frozen 2;have f3:=hB.frozen 3;refine l_s rfl rfl (by simp [execOp,go_sem, *];rfl) ?_;iterate 1 refine lV ?_
 refine bS (h _ _ Y av ?_);exact hx.trans' ((((hX.setCell' (p:=qp w1) (ab _) _).setCell' (p:=qt w1 1) (ab _) _).setCell' (p:=qt w1 2) (ab _) _).setCell' (p:=qt w1 3) (ab _) _)
theorem aG8 {n:Int}{b}(hsz:a.tmps.size=38)(e11:qq a 11 n)(hn:(n != 0)=b)
  (h:∀ a',Ag [0,1,3,6] a a'->qq a' 23 b->Q .normal a' w):qw aT8 Q a w:=by
 refine rW ?_;iterate 2 refine lV ?_
 exact bS (h _ Y (by simp [<- hn,hsz,bne]))
theorem aPi {A n c g}{k x cc:Int}{f b:Bool}(hsz:a.tmps.size=38)(e0:qq a 0 (qp m))(e1:qq a 1 (.slice A n c))(e3:qq a 3 f)(e6:qq a 6 (qp g))
  (hB:Blk w g 41 #[↑k,↑x,↑cc])(hc:qg 51 #[qp m,.agg #[.slice A n c,↑k,↑x,↑cc,f,.int .i64 1]] w (fun e w'=>e=.returned b∧R w'))
  (h:∀ a' w',R w'->Ag [0,1] a a'->qq a' 12 b->Q .normal a' w'):qw aT6 Q a w:=by
 have c0:=hB.cell' 0 rfl;have c1:=hB.cell' 1 rfl;have c2:=hB.cell' 2 rfl;refine rW ?_;iterate 5 refine lV ?_
 refine l_c rfl rfl rfl Tryz.func51 ba ba hc av ?_;rintro e w' ⟨rfl,hR⟩;refine ⟨_,rfl,?_⟩;iterate 1 refine lV ?_
 exact bS (h _ _ hR Y av)
theorem aPh {b:Bool}(hsz:a.tmps.size=38)(e12:qq a 12 b)
  (h:∀ a',Ag [0,1] a a'->qq a' 31 (!b)->Q .normal a' w):qw aT5 Q a w:=by
 refine rW ?_;iterate 2 refine lV ?_
 exact bS (h _ Y av)
theorem aPf {v}(hsz:a.tmps.size=38)(e0:qq a 0 (qp m))(hc:qg 52 #[qp m] w (fun e w'=>e=.returned v∧R w'))
  (h:∀ a' w',R w'->Ag [0,1] a a'->Q .normal a' w'):qw aT3 Q a w:=by
 refine rW ?_;iterate 1 refine lV ?_
 refine l_c rfl rfl rfl Tryz.func52 ba ba hc av ?_;rintro e w' ⟨rfl,hR⟩;exact ⟨_,rfl,bS (h _ _ hR Y)⟩
theorem aPe {z:Int}(hsz:a.tmps.size=38)(e0:qq a 0 (qp m))(e1:qq a 1 vp)(hc:qg 20 #[qp m,vp] w (dI (↑z) w))
  (h:∀ a' w',Ext w w'->Ag [0,1] a a'->qq a' 8 (decide (0<=z))->qq a' 9 qz->Q .normal a' w'):qw aT2 Q a w:=by
 refine rW ?_;iterate 2 refine lV ?_
 refine l_c rfl rfl rfl Tryz.func20 ba ba hc av ?_;rintro e w' ⟨rfl,hx⟩;refine ⟨_,rfl,?_⟩;iterate 3 refine lV ?_
 exact bS (h _ _ hx Y av av)
theorem aPj (hsz:a.tmps.size=38)(h:∀ a',Ag [] a a'->qq a' 8 false->qq a' 9 (.int .i64 11)->Q .normal a' w):qw aT7 Q a w:=by
 refine rW ?_;iterate 2 refine lV ?_
 exact bS (h _ Y av av)
theorem aPg (hsz:a.tmps.size=38)(h:∀ a',Ag [] a a'->qq a' 8 false->qq a' 9 qz->Q .normal a' w):qw aT4 Q a w:=by
 refine rW ?_;iterate 2 refine lV ?_
 exact bS (h _ Y av av)
end
noncomputable abbrev aNk:Code:=.seq aUa (.seq aT9 (.seq (.seq aT8 (.cond (.tmp 23) (.seq aT7 .ret) .skip)) (.seq aT6 (.seq (.seq aT5 (.cond (.tmp 31) (.seq aT4 .ret) .skip)) (.seq aT3 (.seq aT2 .ret))))))
theorem aVs:Tryz.f14.body=some aNk:=U
section
variable {t:List GN}{vn vp:Value}{b:Int}{L:List GE}{m:Nat}{P:Nat->Prop}{ve:Value}{a:Act}{w:World}{R:Exit->Act->World->Prop}{path:List Int}{k x c:Int}{f:Bool}
theorem aP5 (h:MAt t vn b L m P ve w)(hd:RdT t path)(hvl:∀ x ∈ t,x.values.length<=1000000000)(hp:Ints w P vp path)(hk:I64 k)(hx:I64 x)(hc:I64 c)(hfew:L.length+1<=100000)(hpl:path.length<=1000000000)
  (hsz:a.tmps.size=38)(e0:qq a 0 (qp m))(e1:qq a 1 vp)(e2:qq a 2 (.agg #[↑k,↑x,↑c]))(e3:qq a 3 f)
  (hR:∀ a' w',a'.defers=a.defers->qq a' 8 (tO (aL t) b L (mkE path k x c f))->qq a' 9 (.int .i64 (yU (aL t) (mkE path k x c f)))->cZ t vn b (lB (aL t) b L (mkE path k x c f)) m P ve w w'->R .ret a' w'):qw aNk R a w:=by
 refine wp_seq (aPl hsz e2 ?_);intro a1 g1 e6;have hB:=aw w 41 #[↑k,↑x,↑c];have hX:Ext w (w.alloc (qk #[↑k,↑x,↑c] 41)):=(aq w).alloc' _;generalize w.alloc (qk #[↑k,↑x,↑c] 41)=W at *;have z1:a1.tmps.size=38:=g1.sz.trans hsz;refine wp_seq (aPk (vp:=vp) z1 (g1.get 0 e0) (g1.get 1 e1) (h.ext hX).cell0 (aGm t path P vn vp W hd (fun i hi=>ac (h.lt i hi) hX.size) hvl (h.ext hX).tree (hp.ext hX)) ?_);intro a2 w2 g2 e11 hx2;have hE:=hX.trans' hx2;have z2:a2.tmps.size=38:=g2.sz.trans z1;cases hw:aL t path with
 | false =>
  rw [hw] at e11;refine wp_seq (wp_seq (aG8 (b:=true) z2 e11 (by simp [aY3]) ?_));intro a3 g3 e23;refine wp_cond_true e23 (wp_seq (aPj (g3.sz.trans z2) ?_));intro a4 g4 e8 e9;refine wp_ret (hR a4 w2 (g4.df.trans (g3.df.trans (g2.df.trans g1.df))) ?_ ?_ ?_)
  ·rw [e8];simp [tO,mkE,hw]
  ·rw [e9];simp [yU,mkE,hw]
  ·have:lB (aL t) b L (mkE path k x c f)=L:=by simp [lB,mkE,hw]
   rw [this];exact cZ.none h hE
 | true =>
  rw [hw] at e11;refine wp_seq (wp_seq (aG8 (b:=false) z2 e11 (by simp [aY3]) ?_));intro a3 g3 e23;have z3:a3.tmps.size=38:=g3.sz.trans z2;refine wp_cond_false e23 (wp_skip ?_);obtain ⟨A,cc,rfl,hp1,hp2⟩:=hp.form;have hp':=hp.ext hE;have h2:=h.ext hE;refine wp_seq (aPi z3 (g3.get 0 (g2.get 0 (g1.get 0 e0))) (g3.get 1 (g2.get 1 (g1.get 1 e1))) (g3.get 3 (g2.get 3 (g1.get 3 e3))) (g3.get 6 (g2.get 6 e6)) (hB.ext hx2) (aPw (x:=mkE path k x c f) h2 ⟨hp',hk,hx,hc,by simp [mkE,I64]⟩ hfew hpl) ?_);intro a4 w4 hA4 g4 e12;have z4:a4.tmps.size=38:=g4.sz.trans z3;have hA:=cZ.of_ext hE hA4;refine wp_seq (wp_seq (aPh z4 e12 ?_));intro a5 g5 e31;have z5:a5.tmps.size=38:=g5.sz.trans z4;have d5:a5.defers=a.defers:=g5.df.trans (g4.df.trans (g3.df.trans (g2.df.trans g1.df)));have e05:=g5.get 0 (g4.get 0 (g3.get 0 (g2.get 0 (g1.get 0 e0))));have e15:=g5.get 1 (g4.get 1 (g3.get 1 (g2.get 1 (g1.get 1 e1))));cases hh:gE (mkE path k x c f).path L with
  | true =>
   rw [hh] at e31;refine wp_cond_true e31 (wp_seq (aPg z5 ?_));intro a6 g6 e8 e9;refine wp_ret (hR a6 w4 (g6.df.trans d5) ?_ ?_ ?_)
   ·rw [e8];simp [tO,hh]
   ·rw [e9];simp [yU,mkE,hw]
   ·have:lB (aL t) b L (mkE path k x c f)=cY L (mkE path k x c f):=by
     unfold lB;rw [if_pos (show aL t (mkE path k x c f).path=true from hw),if_pos hh]
    rw [this];exact hA
  | false =>
   rw [hh] at e31;refine wp_cond_false e31 (wp_skip ?_);obtain ⟨v4,m4,f4,b4⟩:=hA;refine wp_seq (aPf z5 e05 (aLb m4) ?_);intro a6 w6 hC g6;have z6:a6.tmps.size=38:=g6.sz.trans z5;have hF:=cZ.trans (L1:=L) f4 b4 hC;obtain ⟨v6,m6,f6,b6⟩:=hF
   have hpw:Ints w6 P (.slice A path cc) path:=hp.carry (fun i hi hP=>f6.block i hi (fun hm=>by
    have h7:=h.excl i hP;rcases hm with hm | hm
    ·exact h7.1 hm
    ·exact h7.2 hm)) (fun _ _ h=>h)
   refine wp_seq (aPe z6 (g6.get 0 e05) (g6.get 1 e15) (aDx m6 hpw) ?_);intro a7 w7 hx7 g7 e8 e9
   have hE2:lB (aL t) b L (mkE path k x c f)=vF b (cY L (mkE path k x c f)):=by
    unfold lB;rw [if_pos (show aL t (mkE path k x c f).path=true from hw),if_neg (by rw [hh];simp)]
   refine wp_ret (hR a7 w7 (g7.df.trans (g6.df.trans d5)) ?_ ?_ ?_)
   ·rw [e8,aAt]
    unfold tO;rw [if_pos (show aL t (mkE path k x c f).path=true from hw),if_neg (by rw [hh];simp)];rfl
   ·rw [e9];simp [yU,mkE,hw]
   ·rw [hE2]
    exact cZ.ext ⟨v6,m6,f6,b6⟩ hx7
theorem aDl (h:MAt t vn b L m P ve w)(hd:RdT t path)(hvl:∀ x ∈ t,x.values.length<=1000000000)(hp:Ints w P vp path)(hk:I64 k)(hx:I64 x)(hc:I64 c)(hfew:L.length+1<=100000)(hpl:path.length<=1000000000) :
  Calls Tryz.prog 14 #[qp m,vp,.agg #[↑k,↑x,↑c],f] w fun e w'=>e=.returned (.tuple #[(tO (aL t) b L (mkE path k x c f)),.int .i64 (yU (aL t) (mkE path k x c f))])∧cZ t vn b (lB (aL t) b L (mkE path k x c f)) m P ve w w':=by
 refine calls_of_wp Tryz.func14 aVs (aP5 (f:=f) h hd hvl hp hk hx hc hfew hpl ?_ ?_ ?_ ?_ ?_ ?_)
 ·simp [Tryz.ntmps14]
 ·simp [Ev,Act.eval]
 ·simp [Ev,Act.eval]
 ·simp [Ev,Act.eval]
 ·simp [Ev,Act.eval]
 ·intro a' w' h1 h2 h3 h4
  refine bodyPost_ret (v:=.tuple #[(tO (aL t) b L (mkE path k x c f)),.int .i64 (yU (aL t) (mkE path k x c f))]) ?_ h1 ⟨rfl,h4⟩;have h5:a'.tmps[8]?.getD undef=.bool (tO (aL t) b L (mkE path k x c f)):=by rw [<- h2];simp [Ev,Act.eval]
  have h6:a'.tmps[9]?.getD undef=.int .i64 (yU (aL t) (mkE path k x c f)):=by rw [<- h3];simp [Ev,Act.eval]
  simp [results,Tryz.results14,go_sem,h5,h6]
end
section
variable {ops:Array Oper}{Q:Exit->Act->World->Prop}{a:Act}{w w1:World}{rest:List Oper}{o:Oper}{d gd j:Nat}{v:Value}{want b:Bool}
theorem l_y (hg:o.guard=some (j,want))(hj:(ops[j]?).bind (fun x=>x.dst)=some gd)(hd:o.dst=some d)(hs:gd<a.tmps.size)(he:Ev a (.tmp gd)=.bool b)(hb:(b == want)=true)(hrun:(execOp (Ev a) o).run Tryz.prog w=.ok (.value v) w1)(h:WL ops Q rest (Pt a d v) w1):WL ops Q (o :: rest) a w:=aUw d v gd hg hj hs he hb hd hrun h
theorem l_u (hg:o.guard=some (j,want))(hj:(ops[j]?).bind (fun x=>x.dst)=some gd)(hd:o.dst=some d)(hs:gd<a.tmps.size)(he:Ev a (.tmp gd)=undef)(h:WL ops Q rest (Pt a d undef) w):WL ops Q (o :: rest) a w:=by
 have h1:a.tmps[gd]?=some undef:=by
  have h2:a.tmps.getD gd undef=undef:=he;simp only [Array.getD,hs,dite_true] at h2;rw [Array.getElem?_eq_getElem hs];exact congrArg some h2
 have h3:yielded ops a.tmps j=none:=by
  unfold yielded;rw [show ((ops[j]?).bind (fun x=>x.dst)).bind (fun x=>a.tmps[x]?)=some undef by rw [hj];exact h1];rfl
 refine ⟨wpList_skip (by simp [Region.wanted,hg,h3]) ?_⟩;rw [hd];exact h.out
end
def aF8 (t:List GN)(n1 vn:Value)(b:Int)(Lc Lm:List GE)(g:CA)(m:Nat)(S:Nat->Prop)(B:Nat)(w:World):Prop :=
 ∃ P1 v1 vm,lC t n1 b Lc g P1 v1 B w∧MAt t vn b Lm m S vm w∧(∀ k,mM m vm k->B<=k)∧(∀ k,S k∨mM m vm k->¬ g.M v1 k)∧∀ k,P1 k∨g.M v1 k->¬ mM m vm k
section
variable {t:List GN}{n1 vn:Value}{b:Int}{Lc Lm L:List GE}{g:CA}{m:Nat}{S:Nat->Prop}{B:Nat}{w w':World}
theorem aF8.ext (h:aF8 t n1 vn b Lc Lm g m S B w)(hx:Ext w w'):aF8 t n1 vn b Lc Lm g m S B w':=by
 obtain ⟨P1,v1,vm,h1,h2,h3,h4,h5⟩:=h;exact ⟨P1,v1,vm,h1.ext hx,h2.ext hx,h3,h4,h5⟩
structure lZ (S:Nat->Prop)(B:Nat)(w w':World):Prop where
 fr:Fr (fun k=>B<=k) w w'
 keep:aB S w w'
theorem aF8.addC (h:aF8 t n1 vn b Lc Lm g m S B w){vp path}(hp:Ints w S vp path)(k a c)(f:Bool)(hk:I64 k)(ha:I64 a)(hc:I64 c)(hfew:Lc.length+1<=100000)(hpl:path.length<=1000000000) :
  Calls Tryz.prog 12 #[qp g.c,vp,zY k a c,f] w fun e w'=>e=.returned (.tuple #[(tO (aL t) b Lc (mkE path k a c f)),.int .i64 (yU (aL t) (mkE path k a c f))])∧aF8 t n1 vn b (lB (aL t) b Lc (mkE path k a c f)) Lm g m S B w'∧lZ S B w w':=by
 obtain ⟨P1,v1,vm,h1,h2,h3,h4,h5⟩:=h;refine (aCy t n1 b Lc g P1 S v1 vp path k a c f w h1.cor hp (fun i hi hm=>h4 i (.inl hi) hm) hk ha hc hfew hpl).mono ?_;rintro e w' ⟨rfl,hA⟩;obtain ⟨P',v',q1,q2,q3,q4,q5⟩:=h1.after hA;have hs:=q2.size;refine ⟨rfl,⟨P',v',vm,q1,h2.carry (fun k hk hp=>q3.block k hk (h4 k hp)) hs,h3,?_,?_⟩,q2,fun k hk hp=>q3.block k hk (h4 k (.inl hp))⟩
 ·intro k hk hm
  rcases q5 k hm with h6 | h6
  ·exact h4 k hk h6
  ·have:k<w:=by
    rcases hk with hk | hk
    ·exact h2.lt k hk
    ·exact h2.mlt hk
   omega
 ·intro k hk hm
  have hlt:=h2.mlt hm;rcases hk with hk | hk
  ·rcases q4 k hk with h6 | h6
   ·exact h5 k (.inl h6) hm
   ·omega
  ·rcases q5 k hk with h6 | h6
   ·exact h5 k (.inr h6) hm
   ·omega
theorem aF8.addM (h:aF8 t n1 vn b Lc Lm g m S B w)(hd:∀ p:List Int,p.length<=1000000000->RdT t p)(hvl:∀ x ∈ t,x.values.length<=1000000000){vp path}(hp:Ints w S vp path)(k a c)(f:Bool)(hk:I64 k)(ha:I64 a)(hc:I64 c)(hfew:Lm.length+1<=100000)(hpl:path.length<=1000000000) :
  Calls Tryz.prog 14 #[qp m,vp,.agg #[↑k,↑a,↑c],f] w fun e w'=>e=.returned (.tuple #[(tO (aL t) b Lm (mkE path k a c f)),.int .i64 (yU (aL t) (mkE path k a c f))])∧aF8 t n1 vn b Lc (lB (aL t) b Lm (mkE path k a c f)) g m S B w'∧lZ S B w w':=by
 obtain ⟨P1,v1,vm,h1,h2,h3,h4,h5⟩:=h;refine (aDl (f:=f) h2 (hd path hpl) hvl hp hk ha hc hfew hpl).mono ?_;rintro e w' ⟨rfl,v',q1,q2,q3⟩;have hs:=q2.size;have hB:B<=w:=by have:=h1.lo g.c (.inr (.inl rfl));omega
 have hM:∀ k,mM m v' k->mM m vm k∨w<=k:=fun k hk=>by
  rcases hk with hk | hk
  ·exact .inl (.inl hk)
  ·exact (q3 k hk.symm).imp (fun h=>.inr h.symm) id
 refine ⟨rfl,⟨P1,v1,v',⟨h1.cor.carry (fun k hk hp=>q2.block k hk (h5 k hp)) (fun _ _ h=>h) h1.cor.excl,fun k hk=>⟨(h1.lo k hk).1,ac (h1.lo k hk).2 hs⟩⟩,q1,?_,?_,?_⟩,q2.mono h3,fun k hk hp=>q2.block k hk (fun hm=>?_)⟩
 ·intro k hk
  rcases hM k hk with h6 | h6
  ·exact h3 k h6
  ·omega
 ·intro k hk hm
  have hlt:=(h1.lo k (.inr hm)).2;rcases hk with hk | hk
  ·exact h4 k (.inl hk) hm
  ·rcases hM k hk with h6 | h6
   ·exact h4 k (.inr h6) hm
   ·omega
 ·intro k hk hm
  have hlt:=(h1.lo k hk).2;rcases hM k hm with h6 | h6
  ·exact h5 k hk h6
  ·omega
 ·have:=h2.excl k hp
  rcases hm with hm | hm
  ·exact this.1 hm
  ·exact this.2 hm
end
