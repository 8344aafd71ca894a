/- Contracts of functions, plain laws. Conditions: none. -/
import Derived.Test.YtkoeecdjijfjnaaGreatTA
import Derived.Test.YtkoeecdjijfjnaaGreatSH
set_option maxRecDepth 100000
set_option maxHeartbeats 8000000
namespace Go.Proofs.YtkoeecdjijfjnaaGreat
open Go.RowKit
noncomputable def aTy:Code:=(Tryz.f17.body.bind (aO 0)).getD .skip
noncomputable def aQ1:Code:=(Tryz.f17.body.bind (aO 1)).getD .skip
noncomputable def aTx:Code:=(Tryz.f17.body.bind (aO 2)).getD .skip
noncomputable def aTw:Code:=(Tryz.f17.body.bind (aO 3)).getD .skip
noncomputable def aQ0:Code:=(Tryz.f17.body.bind (aO 4)).getD .skip
noncomputable def aQz:Code:=(Tryz.f17.body.bind (aO 5)).getD .skip
noncomputable def aQy:Code:=(Tryz.f17.body.bind (aO 6)).getD .skip
noncomputable def aTv:Code:=(Tryz.f17.body.bind (aO 7)).getD .skip
noncomputable def aTu:Code:=(Tryz.f17.body.bind (aO 8)).getD .skip
variable {Q:Exit->Act->World->Prop}{a:Act}{w:World}
theorem aMe {bx ox n c n' c' k by_ oy:Nat}{A1 A2:Option Addr}{n1 d1 n2 d2:Nat}{x1 x2 x3 x5:Int}{x4:Bool}(hsz:a.tmps.size=68)(e0:Ev a (.tmp 0)=.slice (some ⟨bx,ox,none⟩) n c)(e1:Ev a (.tmp 1)=.slice (some ⟨by_,oy,none⟩) n' c')(e5:Ev a (.tmp 5)=.int .i64 (k:Int))(hk:(k:Int)<(n:Int))(hk':(k:Int)<(n':Int))
  (hx:∀ w',Ext w w'->w'.cell? ⟨bx,ox+k*6,none⟩=some (.slice A1 n1 d1)∧w'.cell? ⟨bx,ox+k*6+1,none⟩=some (.int .i64 x1)∧w'.cell? ⟨bx,ox+k*6+2,none⟩=some (.int .i64 x2)∧w'.cell? ⟨bx,ox+k*6+3,none⟩=some (.int .i64 x3)∧w'.cell? ⟨bx,ox+k*6+4,none⟩=some (.bool x4)∧w'.cell? ⟨bx,ox+k*6+5,none⟩=some (.int .i64 x5))
  (hy:∀ w',Ext w w'->w'.cell? ⟨by_,oy+k*6,none⟩=some (.slice A2 n2 d2)∧w'.cell? ⟨by_,oy+k*6+1,none⟩=some (.int .i64 x1)∧w'.cell? ⟨by_,oy+k*6+2,none⟩=some (.int .i64 x2)∧w'.cell? ⟨by_,oy+k*6+3,none⟩=some (.int .i64 x3)∧w'.cell? ⟨by_,oy+k*6+4,none⟩=some (.bool x4)∧w'.cell? ⟨by_,oy+k*6+5,none⟩=some (.int .i64 x5))
  (hc:∀ w1,Ext w w1->Calls Tryz.prog 24 #[.slice A1 n1 d1,.slice A2 n2 d2] w1 fun e w'=>e=.returned (.bool true)∧Ext w w')
  (h:∀ a' w',Ext w w'->Ag [0,1,4,5] a a'->Ev a' (.tmp 67)=.bool false->Q .normal a' w'):Code.wp Tryz.prog aQy Q a w:=by
 conv=>arg 2;whnf
 refine gM (fun w'=>Ext w w') (by kernel_rfl) (by kernel_rfl) (Ext.refl w).drew' ?_
 iterate 10 refine q_v rfl rfl (fun w hw=>by simp [execOp,go_sem,hx w hw,hy w hw, *];rfl) ?_
 refine q_c rfl rfl rfl Tryz.func24 (by rfl) (by rfl) hc (by simp [*]) ?_
 iterate 2 refine q_v rfl rfl (fun w hw=>by simp [execOp,go_sem, *];rfl) ?_
 iterate 11 refine q_y rfl rfl rfl (by simp [*]) (by simp [*];rfl) rfl (fun w hw=>by simp [execOp,go_sem,hx w hw,hy w hw, *];rfl) ?_
 iterate 2 refine q_v rfl rfl (fun w hw=>by simp [execOp,go_sem, *];rfl) ?_
 iterate 11 refine q_y rfl rfl rfl (by simp [*]) (by simp [*];rfl) rfl (fun w hw=>by simp [execOp,go_sem,hx w hw,hy w hw, *];rfl) ?_
 iterate 2 refine q_v rfl rfl (fun w hw=>by simp [execOp,go_sem, *];rfl) ?_
 iterate 11 refine q_y rfl rfl rfl (by simp [*]) (by simp [*];rfl) rfl (fun w hw=>by simp [execOp,go_sem,hx w hw,hy w hw, *];rfl) ?_
 iterate 1 refine q_v rfl rfl (fun w hw=>by simp [execOp,go_sem, *];rfl) ?_
 exact aDz (fun w' hw=>h _ w' hw (by (repeat refine .put ?_ rfl);exact .rf) (by simp [*]))
theorem aMg {A:Option Addr}{n c k:Nat}(hsz:a.tmps.size=68)(e0:Ev a (.tmp 0)=.slice A n c)(e5:Ev a (.tmp 5)=.int .i64 (k:Int))
  (h:∀ a',Ag [0,1,4,5] a a'->Ev a' (.tmp 14)=.bool (decide (k<n))->Q .normal a' w):Code.wp Tryz.prog aQ0 Q a w:=by
 conv=>arg 2;whnf
 refine aA ?_
 iterate 4 refine l_v rfl rfl (by simp [execOp,go_sem, *];exact ⟨rfl,rfl⟩) ?_
 exact aQ (h _ (by (repeat refine .put ?_ rfl);exact .rf) (by simp [*]))
theorem aMh {A B:Option Addr}{n c c':Nat}(hsz:a.tmps.size=68)(e0:Ev a (.tmp 0)=.slice A n c)(e1:Ev a (.tmp 1)=.slice B n c')
  (h:∀ a',Ag [0,1,4,5] a a'->Ev a' (.tmp 10)=.bool false->Q .normal a' w):Code.wp Tryz.prog aQ1 Q a w:=by
 conv=>arg 2;whnf
 refine aA ?_
 iterate 5 refine l_v rfl rfl (by simp [execOp,go_sem, *];exact ⟨rfl,rfl⟩) ?_
 exact aQ (h _ (by (repeat refine .put ?_ rfl);exact .rf) (by simp [*]))
theorem aMf {k:Nat}(hsz:a.tmps.size=68)(e5:Ev a (.tmp 5)=.int .i64 (k:Int))(hw:IntKind.i64.wrap ((k:Int)+1)=(k:Int)+1)
  (h:∀ a',Ag [0,1,4] a a'->Ev a' (.tmp 5)=.int .i64 ((k+1:Nat):Int)->Q .normal a' w):Code.wp Tryz.prog aQz Q a w:=by
 conv=>arg 2;whnf
 refine aA ?_
 iterate 3 refine l_v rfl rfl (by simp [execOp,go_sem, *];exact ⟨rfl,rfl⟩) ?_
 exact aQ (h _ (by (repeat refine .put ?_ rfl);exact .rf) (by simp [*]))
noncomputable abbrev aVx:Code:=.seq (.seq aQ0 (.cond (.tmp 14) .skip (.exit 0))) (.seq (.block 1 (.seq aQy (.cond (.tmp 67) (.seq aTv .ret) .skip))) aQz)
noncomputable abbrev aJm:Code:=.seq aTy (.seq (.seq aQ1 (.cond (.tmp 10) (.seq aTx .ret) .skip)) (.seq (.seq aTw (.block 0 (.loop aVx))) (.seq aTu .ret)))
theorem aR2:Tryz.f17.body=some aJm:=by kernel_rfl
def I17 (L:List GE)(a0:Act)(ws:World)(k:Nat)(a:Act)(w:World):Prop:=Ag [0,1] a0 a∧k<=L.length∧Ev a (.tmp 5)=.int .i64 (k:Int)∧Ext ws w
theorem aKd {L:List GE}{P1 P2:Nat->Prop}{A B:Option Addr}{c d:Nat}{R:Exit->Act->World->Prop}(hfew:L.length<=100000)(hx:Ens w P1 (.slice A L.length c) L)(hy:Ens w P2 (.slice B L.length d) L)(hsz:a.tmps.size=68)(e0:Ev a (.tmp 0)=.slice A L.length c)(e1:Ev a (.tmp 1)=.slice B L.length d)
  (hR:∀ a' w',a'.defers=a.defers->Ev a' (.tmp 4)=.bool true->Ext w w'->R .ret a' w'):Code.wp Tryz.prog aJm R a w:=by
 refine wp_seq ?_
 conv=>arg 2;whnf
 refine aA ?_
 iterate 1 refine l_v rfl rfl (by simp [execOp,go_sem, *];exact ⟨rfl,rfl⟩) ?_
 refine aQ ?_;refine wp_seq (wp_seq (aMh (A:=A) (B:=B) (n:=L.length) (c:=c) (c':=d) (by simp [*]) (by simp [*]) (by simp [*]) ?_));intro a1 g1 e10;refine wp_cond_false e10 (wp_skip ?_);refine wp_seq (wp_seq ?_);have z1:a1.tmps.size=68:=by rw [g1.sz];simp [*]
 conv=>arg 2;whnf
 refine aA ?_
 iterate 1 refine l_v rfl rfl (by simp [execOp,go_sem];exact ⟨rfl,rfl⟩) ?_
 refine aQ ?_;have g2:Ag [0,1] a (Pt a1 5 (.int .i64 0)):=(((Ag.rf.put rfl).trans (g1.mono rfl)).put rfl);refine wp_block (wp_loop (fun a' w'=>∃ k,I17 L a w k a' w') (fun a' _=>L.length - (intOf (Ev a' (.tmp 5))).toNat) ⟨0,g2,Nat.zero_le _,by simp [z1],Ext.refl _⟩ ?_);clear g2 z1 e10 g1 a1;rintro a1 w1 ⟨k,hG,hk,e5,hE⟩;have f0:=hG.get 0 e0;have f1:=hG.get 1 e1;have z1:a1.tmps.size=68:=by rw [hG.sz];exact hsz
 refine wp_seq (wp_seq (aMg z1 f0 e5 ?_));intro a2 g2 e14;have z2:a2.tmps.size=68:=by rw [g2.sz];exact z1
 by_cases hlt:k<L.length
 ·refine wp_cond_true (e14.trans (by simp [hlt])) (wp_skip ?_)
  obtain ⟨bx,ox,A1,d1,rfl,-,ea1,gc1⟩:=(hx.ext hE).get hlt;obtain ⟨by_,oy,A2,d2,rfl,-,ea2,gc2⟩:=(hy.ext hE).get hlt
  refine wp_seq (wp_block (wp_seq (aMe z2 (g2.get 0 f0) (g2.get 1 f1) (g2.get 5 e5) (by omega) (by omega)
   (fun w' h=>⟨aB h (gc1 0 _ rfl),aB h (gc1 1 _ rfl),aB h (gc1 2 _ rfl),aB h (gc1 3 _ rfl),aB h (gc1 4 _ rfl),aB h (gc1 5 _ rfl)⟩)
   (fun w' h=>⟨aB h (gc2 0 _ rfl),aB h (gc2 1 _ rfl),aB h (gc2 2 _ rfl),aB h (gc2 3 _ rfl),aB h (gc2 4 _ rfl),aB h (gc2 5 _ rfl)⟩)
   (fun w2 h2=>((jW _ _ _ _ _ _ w2 (ea1.ext h2).path (ea2.ext h2).path).mono ?_)) ?_)))
  ·rintro e w' ⟨rfl,n,rfl⟩
   exact ⟨by simp,h2.drewN' n⟩
  ·intro a3 w3 hx3 g3 e67
   refine wp_cond_false e67 (wp_skip ?_);refine aMf (k:=k) (by rw [g3.sz];exact z2) (g3.get 5 (g2.get 5 e5)) (rK (by omega)) ?_;intro a4 g4 e5';refine ⟨⟨k+1,((hG.trans (g2.mono rfl)).trans (g3.mono rfl)).trans (g4.mono rfl),hlt,e5',hE.trans' hx3⟩,?_⟩;rw [e5',e5];simp [intOf];omega
 ·refine wp_cond_false (e14.trans (by simp [hlt])) (wp_exit ?_)
  refine wp_seq ?_
  conv=>arg 2;whnf
  refine aA ?_
  iterate 1 refine l_v rfl rfl (by simp [execOp,go_sem];exact ⟨rfl,rfl⟩) ?_
  refine aQ (wp_ret (hR _ _ ?_ (by simp [z2]) hE));exact g2.df.trans hG.df
theorem aF7 {L:List GE}{P1 P2:Nat->Prop}{v1 v2:Value}(hfew:L.length<=100000)(hx:Ens w P1 v1 L)(hy:Ens w P2 v2 L):Calls Tryz.prog 17 #[v1,v2] w (dC (.bool true) w):=by
 obtain ⟨A,c,rfl,-,-⟩:=Lst.form hx;obtain ⟨B,d,rfl,-,-⟩:=Lst.form hy;refine calls_of_wp Tryz.func17 aR2 (aKd hfew hx hy ?_ ?_ ?_ ?_)
 ·simp [Tryz.ntmps17]
 ·simp [Ev,Act.eval]
 ·simp [Ev,Act.eval]
 ·intro a' w' h1 h2 h3
  refine bodyPost_ret (v:=.bool true) ?_ h1 ⟨rfl,h3⟩;have h5:a'.tmps[4]?.getD undef=.bool true:=by rw [<- h2];simp [Ev,Act.eval]
  simp [results,Tryz.results17,go_sem,h5]
theorem aAu {t:List GN}{path:List Int}(h:bJ t t.length)(hpl:path.length<=1000000)(h0:0<t.length):aU t path=decide ((cD t path).stop=-1):=by
 have hf:=aEk h path hpl t.length (t.length - 1) 0 true (by omega) (by omega) (by omega) (by omega);have hr:=tU h path hpl t.length (t.length - 1) 0 (by omega) (by omega) (by omega) (by omega);rw [show (((t.length - 1:Nat)):Int)=(t.length:Int) - 1 by omega] at hf hr;unfold aU cD;generalize aW t path t.length ((t.length:Int) - 1) 0=s at *;generalize iT t path t.length ((t.length:Int) - 1) 0 true=r at *;have hu:=hr.usedP;rw [show decide (0<t.length)=true from aV7 h0,Bool.true_and]
 by_cases hs:s.stop=-1
 ·obtain ⟨-,y2,y3⟩:=hf.yes rfl hs
  rw [y3,y2,Bool.true_and]
  by_cases hl:s.used<path.length
  ·rw [if_pos ⟨hs,hl⟩]
   simp;omega
  ·rw [if_neg (fun h=>hl h.2),hs]
   simp;omega
 ·rw [hf.no rfl hs,if_neg (fun h=>hs h.1)]
  simp [hs]
def aSe (n:Int)(w:World)(e:Ending)(w':World):Prop:=∃ k z s A m c,e=.returned (.tuple #[.agg #[.int .i64 k,.int .i64 z,.string s,.slice A m c],.int .i64 n])∧Ext w w'
def aT6 (b:Bool):Int:=if b then 0 else 11
theorem aCm (t:List GN)(path:List Int)(P:Nat->Prop)(vn vp:Value)(w:World)(hd:RdT t path)(hP:∀ b,P b->b<w.heap.size)(hvl:∀ x ∈ t,x.values.length<=1000000)(ht:Nds w P vn t)(hvp:bT w P vp path) :
  Calls Tryz.prog 50 #[.agg #[vn],vp] w (aSe (aT6 (aU t path)) w):=by
 have HVA:=aV4 (fun (W:World) (hx:Ext w W)=>(eX.2 hd.good) ▸ iA t P vn W (ht.ext hx) hvl);have HRD:=aV4 (fun (W:World) (hx:Ext w W) (h0:0<t.length)=>oM t path P vn vp W hd h0 (fun b hb=>Nat.lt_of_lt_of_le (hP b hb) hx.size) (ht.ext hx) (hvp.ext hx));have HWR:=aV4 (fun h0=>aAu hd.good hd.path h0);have HW0:=aV4 (show t.length=0->aU t path=false from fun h=>by unfold aU;simp [h]);obtain ⟨An,cn,en,hn1,hn2⟩:=ht.form;subst en;obtain ⟨Ap,cp,ep,hp1,hp2⟩:=hvp.form;subst ep;clear hd hP hvl ht hvp;generalize aU t path=wb at *;generalize cD t path=r at *;go_enter Tryz.func50,Tryz.ntmps50;go_upto_region 1 with fail;have HE:=aV4 (show Ext w ((w.alloc (.cells #[.slice An t.length cn] 25)).alloc (.cells #[.int .i64 0,.int .i64 0,.string ⟨#[]⟩,.slice none 0 0] 85)) from ((Ext.refl w).alloc' _).alloc' _);have HB:=aV4 ((Blk.new w 25 #[.slice An t.length cn]).alloc (.cells #[.int .i64 0,.int .i64 0,.string ⟨#[]⟩,.slice none 0 0] 85));have HRES:=aV4 (Blk.new' (w.alloc (.cells #[.slice An t.length cn] 25)) 85 #[.int .i64 0,.int .i64 0,.string ⟨#[]⟩,.slice none 0 0] (g:=w.heap.size+1) (by simp));generalize hW:(w.alloc (.cells #[.slice An t.length cn] 25)).alloc (.cells #[.int .i64 0,.int .i64 0,.string ⟨#[]⟩,.slice none 0 0] 85)=W at *
 clear hW;have y0:=HB.out.cell' (u:=.slice An t.length cn) 0 rfl;go_wp2_with fail;refine (HVA.out W HE.out).mono ?_;rintro e w1 ⟨rfl,hx1⟩;have HX1:=aV4 (HE.out.trans' hx1);have HB1:=aV4 (HB.out.ext hx1);have HR1:=aV4 (HRES.out.ext hx1);have y1:=HB1.out.cell' (u:=.slice An t.length cn) 0 rfl;clear hx1 y0
 by_cases hne:0<t.length
 ·have hl0:((t.length:Int) == 0)=false:=aV5 (by omega)
  have HWW:=aV4 (HWR.out hne);go_wp2_with fail;refine (HRD.out w1 HX1.out hne).mono ?_;rintro e w2 ⟨A2,d2,sv,rfl,-,⟨A3,m3,c3,rfl⟩,hx2⟩;have HX2:=aV4 (HX1.out.trans' hx2);have HR2:=aV4 ((HR1.out.ext hx2).alloc (.cells (cX r A2 d2 (.slice A3 m3 c3)) 154));have HBR:=aV4 (Blk.new w2 154 (cX r A2 d2 (.slice A3 m3 c3)));have HX3:=aV4 (HX2.out.alloc' (.cells (cX r A2 d2 (.slice A3 m3 c3)) 154));have hlt:=(HR1.out.ext hx2).lt;clear hx2 y1;go_upto_region 7 with fail;generalize hW:w2.alloc (.cells (cX r A2 d2 (.slice A3 m3 c3)) 154)=W2 at *;clear hW;have r0:=HR2.out.cell' (u:=.int .i64 0) 0 rfl;have f0:=HR2.out.frozen 0;have r1:=HR2.out.cell' (u:=.int .i64 0) 1 rfl;have f1:=HR2.out.frozen 1;have r2:=HR2.out.cell' (u:=.string ⟨#[]⟩) 2 rfl;have f2:=HR2.out.frozen 2;have r3:=HR2.out.cell' (u:=.slice none 0 0) 3 rfl;have f3:=HR2.out.frozen 3;have b0:=HBR.out.cell' (u:=.int .i64 r.val.kind) 0 rfl;have b1:=HBR.out.cell' (u:=.int .i64 r.val.n) 1 rfl;have b2:=HBR.out.cell' (u:=.string r.val.s) 2 rfl;have b3:=HBR.out.cell' (u:=.slice A2 r.val.kids.length d2) 3 rfl;have b5:=HBR.out.cell' (u:=.int .i64 r.stop) 5 rfl;have hnn:¬ w.heap.size+1=w2.heap.size:=by omega
  by_cases hs:r.stop=-1
  ·have hd:(r.stop == -1)=true:=aV6 hs
   have HF:=aV4 (show wb=true by rw [HWW.out];exact aV7 hs);clear hs;have q:=(((HR2.out.set_ 0 (.int .i64 r.val.kind)).set_ 1 (.int .i64 r.val.n)).set_ 2 (.string r.val.s)).set_ 3 (.slice A2 r.val.kids.length d2);have HQ:=aV4 q;clear q;have HXQ:=aV4 ((((HX3.out.setCell' (p:=⟨w.heap.size+1,0,none⟩) (by show w.heap.size<=w.heap.size+1;omega) (.int .i64 r.val.kind)).setCell' (p:=⟨w.heap.size+1,1,none⟩) (by show w.heap.size<=w.heap.size+1;omega) (.int .i64 r.val.n)).setCell' (p:=⟨w.heap.size+1,2,none⟩) (by show w.heap.size<=w.heap.size+1;omega) (.string r.val.s)).setCell' (p:=⟨w.heap.size+1,3,none⟩) (by show w.heap.size<=w.heap.size+1;omega) (.slice A2 r.val.kids.length d2));go_wp2_with fail;generalize (((W2.setCell ⟨w.heap.size+1,0,none⟩ (.int .i64 r.val.kind)).setCell ⟨w.heap.size+1,1,none⟩ (.int .i64 r.val.n)).setCell ⟨w.heap.size+1,2,none⟩ (.string r.val.s)).setCell ⟨w.heap.size+1,3,none⟩ (.slice A2 r.val.kids.length d2)=W3 at *;have q0:=HQ.out.cell' (u:=.int .i64 r.val.kind) 0 rfl;have q1:=HQ.out.cell' (u:=.int .i64 r.val.n) 1 rfl;have q2:=HQ.out.cell' (u:=.string r.val.s) 2 rfl;have q3:=HQ.out.cell' (u:=.slice A2 r.val.kids.length d2) 3 rfl;rw [HF.out];exact bodyPost_ret (v:=.tuple #[.agg #[.int .i64 r.val.kind,.int .i64 r.val.n,.string r.val.s,.slice A2 r.val.kids.length d2],.int .i64 0]) (by simp [results,Tryz.results50,go_sem,q0,q1,q2,q3]) rfl ⟨_,_,_,_,_,_,rfl,HXQ.out⟩
  ·have hd:(r.stop == -1)=false:=aV5 hs
   have HF:=aV4 (show wb=false by rw [HWW.out];exact aV8 hs);clear hs;have HQ:=aV4 ((((HR2.out.set_ 0 (.int .i64 0)).set_ 1 (.int .i64 0)).set_ 2 (.string ⟨#[]⟩)).set_ 3 (.slice none 0 0));have HXQ:=aV4 ((((HX3.out.setCell' (p:=⟨w.heap.size+1,0,none⟩) (by show w.heap.size<=w.heap.size+1;omega) (.int .i64 0)).setCell' (p:=⟨w.heap.size+1,1,none⟩) (by show w.heap.size<=w.heap.size+1;omega) (.int .i64 0)).setCell' (p:=⟨w.heap.size+1,2,none⟩) (by show w.heap.size<=w.heap.size+1;omega) (.string ⟨#[]⟩)).setCell' (p:=⟨w.heap.size+1,3,none⟩) (by show w.heap.size<=w.heap.size+1;omega) (.slice none 0 0));go_wp2_with fail;generalize (((W2.setCell ⟨w.heap.size+1,0,none⟩ (.int .i64 0)).setCell ⟨w.heap.size+1,1,none⟩ (.int .i64 0)).setCell ⟨w.heap.size+1,2,none⟩ (.string ⟨#[]⟩)).setCell ⟨w.heap.size+1,3,none⟩ (.slice none 0 0)=W3 at *;have q0:=HQ.out.cell' (u:=.int .i64 0) 0 rfl;have q1:=HQ.out.cell' (u:=.int .i64 0) 1 rfl;have q2:=HQ.out.cell' (u:=.string ⟨#[]⟩) 2 rfl;have q3:=HQ.out.cell' (u:=.slice none 0 0) 3 rfl;rw [HF.out];exact bodyPost_ret (v:=.tuple #[.agg #[.int .i64 0,.int .i64 0,.string ⟨#[]⟩,.slice none 0 0],.int .i64 11]) (by simp [results,Tryz.results50,go_sem,q0,q1,q2,q3]) rfl ⟨_,_,_,_,_,_,rfl,HXQ.out⟩
 ·have hl0:((t.length:Int) == 0)=true:=aV6 (by omega)
  have HF:=aV4 (HW0.out (by omega));have r0:=HR1.out.cell' (u:=.int .i64 0) 0 rfl;have f0:=HR1.out.frozen 0;have r1:=HR1.out.cell' (u:=.int .i64 0) 1 rfl;have f1:=HR1.out.frozen 1;have r2:=HR1.out.cell' (u:=.string ⟨#[]⟩) 2 rfl;have f2:=HR1.out.frozen 2;have r3:=HR1.out.cell' (u:=.slice none 0 0) 3 rfl;have f3:=HR1.out.frozen 3;have HQ:=aV4 ((((HR1.out.set_ 0 (.int .i64 0)).set_ 1 (.int .i64 0)).set_ 2 (.string ⟨#[]⟩)).set_ 3 (.slice none 0 0));have HXQ:=aV4 ((((HX1.out.setCell' (p:=⟨w.heap.size+1,0,none⟩) (by show w.heap.size<=w.heap.size+1;omega) (.int .i64 0)).setCell' (p:=⟨w.heap.size+1,1,none⟩) (by show w.heap.size<=w.heap.size+1;omega) (.int .i64 0)).setCell' (p:=⟨w.heap.size+1,2,none⟩) (by show w.heap.size<=w.heap.size+1;omega) (.string ⟨#[]⟩)).setCell' (p:=⟨w.heap.size+1,3,none⟩) (by show w.heap.size<=w.heap.size+1;omega) (.slice none 0 0));go_wp2_with fail;generalize (((w1.setCell ⟨w.heap.size+1,0,none⟩ (.int .i64 0)).setCell ⟨w.heap.size+1,1,none⟩ (.int .i64 0)).setCell ⟨w.heap.size+1,2,none⟩ (.string ⟨#[]⟩)).setCell ⟨w.heap.size+1,3,none⟩ (.slice none 0 0)=W3 at *;have q0:=HQ.out.cell' (u:=.int .i64 0) 0 rfl;have q1:=HQ.out.cell' (u:=.int .i64 0) 1 rfl;have q2:=HQ.out.cell' (u:=.string ⟨#[]⟩) 2 rfl
  have q3:=HQ.out.cell' (u:=.slice none 0 0) 3 rfl;rw [HF.out];exact bodyPost_ret (v:=.tuple #[.agg #[.int .i64 0,.int .i64 0,.string ⟨#[]⟩,.slice none 0 0],.int .i64 11]) (by simp [results,Tryz.results50,go_sem,q0,q1,q2,q3]) rfl ⟨_,_,_,_,_,_,rfl,HXQ.out⟩
noncomputable def aMw:Code:=(Tryz.f52.body.bind (aO 0)).getD .skip
noncomputable def aP7:Code:=(Tryz.f52.body.bind (aO 1)).getD .skip
noncomputable def aP6:Code:=(Tryz.f52.body.bind (aO 2)).getD .skip
noncomputable def aP5:Code:=(Tryz.f52.body.bind (aO 3)).getD .skip
noncomputable def aP4:Code:=(Tryz.f52.body.bind (aO 4)).getD .skip
noncomputable def aP3:Code:=(Tryz.f52.body.bind (aO 5)).getD .skip
noncomputable def aP2:Code:=(Tryz.f52.body.bind (aO 6)).getD .skip
noncomputable def aMv:Code:=(Tryz.f52.body.bind (aO 7)).getD .skip
noncomputable def aMu:Code:=(Tryz.f52.body.bind (aO 8)).getD .skip
noncomputable def aTo:Code:=(Tryz.f52.body.bind (aO 9)).getD .skip
noncomputable def aIv:Code:=(Tryz.f52.body.bind (aO 10)).getD .skip
noncomputable def aIu:Code:=(Tryz.f52.body.bind (aO 11)).getD .skip
section
variable {Q:Exit->Act->World->Prop}{a:Act}{w:World}{m k i:Nat}{G n c:Nat}{Al:Option Addr}{vn:Value}{b s kk:Int}
theorem aGd (hsz:a.tmps.size=67)(e0:Ev a (.tmp 0)=.pointer (some ⟨m,0,none⟩))(h1:∀ w',Ext w w'->w'.cell? ⟨m,1,none⟩=some (.int .i64 b))(hd:b<s)(hc:∀ w1,Ext w w1->Calls Tryz.prog 16 #[.pointer (some ⟨m,0,none⟩)] w1 fun e w'=>e=.returned (.int .i64 s)∧Ext w w')
  (h:∀ a' w',Ext w w'->Ag [0] a a'->Ev a' (.tmp 19)=.bool true->Q .normal a' w'):Code.wp Tryz.prog aMw Q a w:=by
 conv=>arg 2;whnf
 refine gM (fun w'=>Ext w w') (by kernel_rfl) (by kernel_rfl) (Ext.refl w).drew' ?_
 iterate 1 refine q_v rfl rfl (fun w hw=>by simp [execOp,go_sem, *];rfl) ?_
 refine q_c rfl rfl rfl Tryz.func16 (by rfl) (by rfl) hc (by simp [*]) ?_
 iterate 6 refine q_v rfl rfl (fun w hw=>by simp [execOp,go_sem, *];rfl) ?_
 iterate 6 refine q_n rfl rfl rfl (by simp [*]) (by simp [*];rfl) rfl ?_
 iterate 1 refine q_v rfl rfl (fun w hw=>by simp [execOp,go_sem, *];rfl) ?_
 exact aDz (fun w' hw=>h _ w' hw (by (repeat refine .put ?_ rfl);exact .rf) (by simp [*]))
theorem aGe (hsz:a.tmps.size=67)(e0:Ev a (.tmp 0)=.pointer (some ⟨m,0,none⟩))(h1:∀ w',Ext w w'->w'.cell? ⟨m,1,none⟩=some (.int .i64 b)∧w'.cell? ⟨m,2,none⟩=some (.slice Al n c))(hd:¬ b<s)(hc:∀ w1,Ext w w1->Calls Tryz.prog 16 #[.pointer (some ⟨m,0,none⟩)] w1 fun e w'=>e=.returned (.int .i64 s)∧Ext w w')
  (h:∀ a' w',Ext w w'->Ag [0] a a'->Ev a' (.tmp 19)=.bool (decide (256<n))->Q .normal a' w'):Code.wp Tryz.prog aMw Q a w:=by
 have hd':s<=b:=by omega
 conv=>arg 2;whnf
 refine gM (fun w'=>Ext w w') (by kernel_rfl) (by kernel_rfl) (Ext.refl w).drew' ?_
 iterate 1 refine q_v rfl rfl (fun w hw=>by simp [execOp,go_sem, *];rfl) ?_
 refine q_c rfl rfl rfl Tryz.func16 (by rfl) (by rfl) hc (by simp [*]) ?_
 iterate 6 refine q_v rfl rfl (fun w hw=>by simp [execOp,go_sem,h1 w hw, *];rfl) ?_
 iterate 6 refine q_y rfl rfl rfl (by simp [*]) (by simp [*];rfl) rfl (fun w hw=>by simp [execOp,go_sem,h1 w hw, *];rfl) ?_
 iterate 1 refine q_v rfl rfl (fun w hw=>by simp [execOp,go_sem, *];rfl) ?_
 exact aDz (fun w' hw=>h _ w' hw (by (repeat refine .put ?_ rfl);exact .rf) (by simp [*];try omega))
theorem aLf (hsz:a.tmps.size=67)(e0:Ev a (.tmp 0)=.pointer (some ⟨m,0,none⟩))(e3:Ev a (.tmp 3)=.int .i64 (i:Int))(h2:w.cell? ⟨m,2,none⟩=some (.slice Al n c))
  (h:∀ a',Ag [0,2,3] a a'->Ev a' (.tmp 26)=.bool (decide (i<n))->Q .normal a' w):Code.wp Tryz.prog aP5 Q a w:=by
 conv=>arg 2;whnf
 refine aA ?_
 iterate 7 refine l_v rfl rfl (by simp [execOp,go_sem, *];exact ⟨rfl,rfl⟩) ?_
 exact aQ (h _ (by (repeat refine .put ?_ rfl);exact .rf) (by simp [*]))
theorem aLe {f:Bool}(hsz:a.tmps.size=67)(e0:Ev a (.tmp 0)=.pointer (some ⟨m,0,none⟩))(e3:Ev a (.tmp 3)=.int .i64 (i:Int))(hi:i<n)(h2:w.cell? ⟨m,2,none⟩=some (.slice (some ⟨G,0,none⟩) n c))(h3:w.cell? ⟨G,i*6+4,none⟩=some (.bool f))
  (h:∀ a',Ag [0,2,3] a a'->Ev a' (.tmp 37)=.bool (!f)->Q .normal a' w):Code.wp Tryz.prog aP3 Q a w:=by
 conv=>arg 2;whnf
 refine aA ?_
 iterate 9 refine l_v rfl rfl (by simp [execOp,go_sem, *];exact ⟨rfl,rfl⟩) ?_
 exact aQ (h _ (by (repeat refine .put ?_ rfl);exact .rf) (by simp [*]))
theorem aLd (hsz:a.tmps.size=67)(e3:Ev a (.tmp 3)=.int .i64 (i:Int))(h:∀ a',Ag [0,3] a a'->Ev a' (.tmp 2)=.int .i64 (i:Int)->Q .normal a' w):Code.wp Tryz.prog aP2 Q a w:=by
 conv=>arg 2;whnf
 refine aA ?_
 iterate 2 refine l_v rfl rfl (by simp [execOp,go_sem, *];exact ⟨rfl,rfl⟩) ?_
 exact aQ (h _ (by (repeat refine .put ?_ rfl);exact .rf) (by simp [*]))
theorem aC4 (hsz:a.tmps.size=67)(e3:Ev a (.tmp 3)=.int .i64 (i:Int))(hw:IntKind.i64.wrap ((i:Int)+1)=(i:Int)+1)(h:∀ a',Ag [0,2] a a'->Ev a' (.tmp 3)=.int .i64 ((i+1:Nat):Int)->Q .normal a' w):Code.wp Tryz.prog aP4 Q a w:=by
 conv=>arg 2;whnf
 refine aA ?_
 iterate 3 refine l_v rfl rfl (by simp [execOp,go_sem, *];exact ⟨rfl,rfl⟩) ?_
 exact aQ (h _ (by (repeat refine .put ?_ rfl);exact .rf) (by simp [*]))
theorem aLc (hsz:a.tmps.size=67)(e2:Ev a (.tmp 2)=.int .i64 kk)(h:∀ a',Ag [0,2] a a'->Ev a' (.tmp 40)=.bool (decide (kk<0))->Q .normal a' w):Code.wp Tryz.prog aMv Q a w:=by
 conv=>arg 2;whnf
 refine aA ?_
 iterate 2 refine l_v rfl rfl (by simp [execOp,go_sem, *];exact ⟨rfl,rfl⟩) ?_
 exact aQ (h _ (by (repeat refine .put ?_ rfl);exact .rf) (by simp [*]))
theorem aLb (hsz:a.tmps.size=67)(e0:Ev a (.tmp 0)=.pointer (some ⟨m,0,none⟩))(h2:w.cell? ⟨m,2,none⟩=some (.slice Al n c))(hw:IntKind.i64.wrap ((n:Int) - 1)=(n:Int) - 1)
  (h:∀ a',Ag [0] a a'->Ev a' (.tmp 2)=.int .i64 ((n:Int) - 1)->Q .normal a' w):Code.wp Tryz.prog aMu Q a w:=by
 conv=>arg 2;whnf
 refine aA ?_
 iterate 7 refine l_v rfl rfl (by simp [execOp,go_sem, *];exact ⟨rfl,rfl⟩) ?_
 exact aQ (h _ (by (repeat refine .put ?_ rfl);exact .rf) (by simp [*]))
theorem aGc {A1:Option Addr}{c1:Nat}{ve:Value}{xs:List Value}{S:Nat->Prop}(hsz:a.tmps.size=67)(e0:Ev a (.tmp 0)=.pointer (some ⟨m,0,none⟩))(e2:Ev a (.tmp 2)=.int .i64 (k:Int))(e4:Ev a (.tmp 4)=.slice none 0 0)(hk:k<=100000)(h1:w.cell? ⟨m,2,none⟩=some ve)(hc:aOj ve k A1 c1)(hs:Sl w S 6 A1 k xs)(hone:∀ u ∈ xs,u.oneCell'=true)
  (h:∀ a' v5 w5,w5.ownsRow w.heap.size 60 6 v5 k xs->Ext w w5->Ag [0,2] a a'->Ev a' (.tmp 4)=v5->Q .normal a' w5):Code.wp Tryz.prog aIv Q a w:=by
 conv=>arg 2;whnf
 refine aA ?_
 iterate 6 refine l_v rfl rfl (by simp [execOp,go_sem, *];exact ⟨rfl,rfl⟩) ?_
 refine l_v rfl rfl (hc _ _ _ _ _ rfl (by simp [*]) (by simp [*])) ?_;refine l_a rfl rfl rfl Tryz.underlying33 Tryz.info60 rfl (by omega) (aX w w.heap.size 60 6) hs (by simp [*]) (by simp [*];rfl) hone (by omega) (by omega) (Nat.le_refl _) ?_;intro v5 w5 ho hf hb
 iterate 1 refine l_v rfl rfl (by simp [execOp,go_sem, *];exact ⟨rfl,rfl⟩) ?_
 exact aQ (h _ v5 w5 (by simpa using ho) (Fr.none_ext hf) (by (repeat refine .put ?_ rfl);exact .rf) (by simp [*]))
theorem aGb {A1:Option Addr}{c1 p n base:Nat}{v4 ve:Value}{xs ys:List Value}{S:Nat->Prop}(hsz:a.tmps.size=67)(e0:Ev a (.tmp 0)=.pointer (some ⟨m,0,none⟩))(e2:Ev a (.tmp 2)=.int .i64 (k:Int))(e4:Ev a (.tmp 4)=v4)(hw:IntKind.i64.wrap ((k:Int)+1)=(k:Int)+1)(hp:p<=100001)(hn:n<=100000)(hB:base<=w.heap.size)(hm:m<base)(hb0:Blk w m 35 #[vn,.int .i64 b,ve])(hc:aOk ve (k+1) n A1 c1)(hs:Sl w S 6 A1 n ys)(hone:∀ u ∈ ys,u.oneCell'=true)(hown:w.ownsRow base 60 6 v4 p xs)
  (h:∀ a' v5 w5,w5.ownsRow base 60 6 v5 (p+n) (xs ++ ys)->Fr (fun b=>base<=b) w w5->Ag [0] a a'->Q .normal a' (w5.setCell ⟨m,2,none⟩ v5)):Code.wp Tryz.prog aIu Q a w:=by
 have h1:=hb0.cell' (u:=ve) 2 rfl
 conv=>arg 2;whnf
 refine aA ?_
 iterate 8 refine l_v rfl rfl (by simp [execOp,go_sem, *];exact ⟨rfl,rfl⟩) ?_
 refine l_v rfl rfl (hc _ _ _ _ _ rfl (by simp [*]) (by simp [*])) ?_;refine l_a rfl rfl rfl Tryz.underlying33 Tryz.info60 rfl (by omega) hown hs (by simp [*]) (by simp [*];rfl) hone (by omega) (by omega) hB ?_;intro v5 w5 ho hf hb5;have hF:Fr (fun b=>base<=b) w w5:=hf.mono (fun b hb=>hown.block_ge hb.symm);have hb6:=hb0.fr hF (by omega);have q2:=hb6.cell' (u:=ve) 2 rfl;have f2:=hb6.frozen 2;obtain ⟨A5,c5,rfl,-,-,-⟩:=Sl.of_own ho
 iterate 2 refine l_v rfl rfl (by simp [execOp,go_sem, *];exact ⟨rfl,rfl⟩) ?_
 refine l_s rfl rfl (by simp [execOp,go_sem, *];rfl) ?_;exact aQ (h _ _ w5 ho hF (by (repeat refine .put ?_ rfl);exact .rf))
end
noncomputable abbrev aT5:Code:=.seq (.seq aP5 (.cond (.tmp 26) .skip (.exit 2))) (.seq (.block 3 (.seq aP3 (.cond (.tmp 37) aP2 .skip))) aP4)
noncomputable abbrev aSx:Code:=.seq aTo (.seq aIv aIu)
noncomputable abbrev aVc:Code:=.seq (.seq aMw (.cond (.tmp 19) .skip (.exit 0))) (.block 1 (.seq aP7 (.seq (.seq aP6 (.block 2 (.loop aT5))) (.seq (.seq aMv (.cond (.tmp 40) aMu .skip)) aSx))))
theorem aRy:Tryz.f52.body=some (.block 0 (.loop aVc)):=by kernel_rfl
section
variable {t:List GN}{vn:Value}{b:Int}{L:List GE}{m:Nat}{P:Nat->Prop}{ve:Value}{a a0:Act}{w ws:World}{R:Exit->Act->World->Prop}
def J52 (L:List GE)(a0:Act)(ws:World)(i:Nat)(a:Act)(w:World):Prop :=
 Ag [0] a0 a∧i<=L.length∧Ev a (.tmp 3)=.int .i64 (i:Int)∧Ext ws w∧∃ kk:Int,Ev a (.tmp 2)=.int .i64 kk∧-1<=kk∧kk<(L.length:Int)∧jB i (if kk<0 then L.length - 1 else kk.toNat) (L.drop i)=nV L
theorem MAt.row (h:MAt t vn b L m P ve w)(h0:0<L.length):∃ G c,ve=.slice (some ⟨G,0,none⟩) L.length c:=by
 obtain ⟨xs,ho,-⟩:=h.own;rcases ho.2 with ⟨_,e2⟩ | ⟨G,cap,cur,e,-⟩
 ·omega
 ·exact ⟨G,cap,e⟩
theorem aRv (h:MAt t vn b L m P ve ws)(hpos:0<L.length)(hsz:a0.tmps.size=67)(e0:Ev a0 (.tmp 0)=.pointer (some ⟨m,0,none⟩))(hI:J52 L a0 ws 0 a w)(hR:∀ a' w',J52 L a0 ws L.length a' w'->R .normal a' w'):Code.wp Tryz.prog (.block 2 (.loop aT5)) R a w:=by
 have hfew:=h.few;refine wp_block (wp_loop (fun a' w'=>∃ i,J52 L a0 ws i a' w') (fun a' _=>L.length - (intOf (Ev a' (.tmp 3))).toNat) ⟨0,hI⟩ ?_);clear hI;rintro a w ⟨i,hG,hi,e3,hE,kk,e2,hk0,hk1,hcf⟩;obtain ⟨G,c,rfl⟩:=h.row hpos;have c2:=aB hE h.cell2;have z1:a.tmps.size=67:=hG.sz.trans hsz;have f0:=hG.get 0 e0;refine wp_seq (wp_seq (aLf z1 f0 e3 c2 ?_));intro a1 g1 e26;have z2:a1.tmps.size=67:=g1.sz.trans z1
 by_cases hlt:i<L.length
 ·obtain ⟨b1,o1,A1,d1,eA,-,-,hgc⟩:=(h.ens.ext hE).get hlt
  injection eA with eA;injection eA with e1 eo _;subst e1 eo;have g4:=hgc 4 _ rfl;rw [Nat.zero_add] at g4;have hD:jB (i+1) (if (L.getD i default).fresh then (if kk<0 then L.length - 1 else kk.toNat) else i) (L.drop (i+1))=nV L:=by rw [<- hcf,aH default hlt];rfl
  have hms:∀ a':Act,Ev a' (.tmp 3)=.int .i64 ((i+1:Nat):Int)->L.length - (intOf (Ev a' (.tmp 3))).toNat<L.length - (intOf (Ev a (.tmp 3))).toNat:=fun a' e=>by
   rw [e,e3];simp [intOf];omega
  generalize (L.getD i default).fresh=yf at *;refine wp_cond_true (e26.trans (by simp [hlt])) (wp_skip ?_);refine wp_seq (wp_block (wp_seq (aLe z2 (g1.get 0 f0) (g1.get 3 e3) hlt c2 g4 ?_)));intro a2 g2 e37;have z3:a2.tmps.size=67:=g2.sz.trans z2
  cases yf
  ·refine wp_cond_true e37 (aLd z3 (g2.get 3 (g1.get 3 e3)) ?_)
   intro a3 g3 e2';refine aC4 (g3.sz.trans z3) (g3.get 3 (g2.get 3 (g1.get 3 e3))) (rK (by omega)) ?_;intro a4 g4' e3';refine ⟨⟨i+1,((hG.trans (g1.mono rfl)).trans (g2.mono rfl)).trans ((g3.mono rfl).trans (g4'.mono rfl)),hlt,e3',hE,(i:Int),g4'.get 2 e2',by omega,by omega,?_⟩,hms _ e3'⟩;rw [if_neg (by omega),Int.toNat_natCast];exact hD
  ·refine wp_cond_false e37 (wp_skip ?_)
   refine aC4 z3 (g2.get 3 (g1.get 3 e3)) (rK (by omega)) ?_;intro a4 g4' e3';exact ⟨⟨i+1,(hG.trans (g1.mono rfl)).trans ((g2.mono rfl).trans (g4'.mono rfl)),hlt,e3',hE,kk,g4'.get 2 (g2.get 2 (g1.get 2 e2)),by omega,by omega,hD⟩,hms _ e3'⟩
 ·obtain rfl:i=L.length:=by omega
  refine wp_cond_false (e26.trans (by simp)) (wp_exit ?_);exact hR _ _ ⟨hG.trans (g1.mono rfl),hi,g1.get 3 e3,hE,kk,g1.get 2 e2,hk0,hk1,hcf⟩
theorem aH9 {k:Nat}(h:MAt t vn b L m P ve w)(hk:k<L.length)(hsz:a.tmps.size=67)(e0:Ev a (.tmp 0)=.pointer (some ⟨m,0,none⟩))(e2:Ev a (.tmp 2)=.int .i64 (k:Int))(hR:∀ a' w',Ag [0] a a'->dK t vn b (L.eraseIdx k) m P ve w w'->R .normal a' w'):Code.wp Tryz.prog aSx R a w:=by
 have hfew:=h.few;obtain ⟨xs,ho,hr⟩:=h.own;have hone:=REn.one hr;obtain ⟨A1,c1,hc1,hs1⟩:=aJi ho (Nat.le_of_lt hk) h.few;obtain ⟨A2,c2,hc2,hs2⟩:=zZ ho (show k+1<=L.length from hk) h.few;refine wp_seq ?_
 conv=>arg 2;whnf
 refine aA ?_
 iterate 1 refine l_v rfl rfl (by simp [execOp,go_sem];exact ⟨rfl,rfl⟩) ?_
 refine aQ ?_;refine wp_seq (aGc (by simp [hsz]) (by simp [e0]) (by simp [e2]) (by simp [hsz]) (by omega) h.cell2 hc1 hs1 (fun u hu=>hone u (List.mem_of_mem_take hu)) ?_);intro a5 v5 w5 ho5 hx5 g5 e4;have k5:Ag [0,2] a a5:=Ag.trans (by (repeat refine .put ?_ rfl);exact .rf) g5;refine aGb (k5.sz.trans hsz) (k5.get 0 e0) (k5.get 2 e2) e4 (rK (by omega)) (by omega) (by omega) hx5.size h.box.lt (h.box.ext hx5) hc2 (hs2.ext hx5) (fun u hu=>hone u (List.mem_of_mem_drop hu)) ho5 ?_;intro a7 v7 w7 ho7 hf7 g7;have hE7:Ext w w7:=((Fr.of_ext hx5).trans hf7).new_ext (fun _ hb=>hb);have hll:(L.eraseIdx k).length=k+(L.length - (k+1)):=by rw [List.length_eraseIdx,if_pos hk];omega
 have hsub:(L.eraseIdx k).Sublist L:=List.eraseIdx_sublist L k;refine hR _ _ ((k5.mono rfl).trans g7) (h.replace hE7 (ho7.len_cast hll.symm rfl) ?_ (List.Pairwise.sublist (hsub.map GE.path) h.inc) (by omega) (fun e he=>h.short e (hsub.subset he)));rw [List.eraseIdx_eq_take_drop_succ];have hr':=hr.move fM (aD.of_ext hE7) (fun _ _ h=>h);exact (hr'.take (fM.len w7 P) k).append (hr'.drop (fM.len w7 P) (k+1))
def O52 (t:List GN)(vn:Value)(b:Int)(L:List GE)(m:Nat)(P:Nat->Prop)(ve:Value)(a0:Act)(w:World)(a':Act)(w':World):Prop :=
 Ag [0] a0 a'∧∃ L' v1,MAt t vn b L' m P v1 w'∧Fr (mM m ve) w w'∧(∀ k,v1.ownBlock=some k->ve.ownBlock=some k∨w.heap.size<=k)∧uW b L'=uW b L
theorem aEd (h:MAt t vn b L m P ve w):pR w ⟨m,2,none⟩=L.length:=by
 obtain ⟨A,c,rfl,-,-⟩:=Lst.form h.ens;unfold pR;rw [h.cell2]
theorem aRu (h:MAt t vn b L m P ve w)(hsz:a.tmps.size=67)(e0:Ev a (.tmp 0)=.pointer (some ⟨m,0,none⟩))(hQ:∀ a' w',a'.defers=a.defers->dK t vn b (uW b L) m P ve w w'->R .normal a' w'):Code.wp Tryz.prog (.block 0 (.loop aVc)) R a w:=by
 refine wp_block (wp_loop (O52 t vn b L m P ve a w) (fun _ w'=>pR w' ⟨m,2,none⟩) ⟨.rf,L,ve,h,Fr.refl _ w,fun _ h=>.inl h,rfl⟩ ?_);clear h;rintro a1 w1 ⟨hG,L1,v1,h,hF,hob,hcu⟩;have hfew:=h.few;have hbI:=h.bI;have z1:a1.tmps.size=67:=hG.sz.trans hsz;have f0:=hG.get 0 e0;obtain ⟨Al,cl,eA,-,-⟩:=Lst.form h.ens;have c2:=h.cell2;rw [eA] at c2;have hby:∀ W,Ext w1 W->Calls Tryz.prog 16 #[.pointer (some ⟨m,0,none⟩)] W fun e w'=>e=.returned (.int .i64 (dE L1))∧Ext w1 w':=fun W hx=>(rW (h.ext hx)).mono (fun _ _ ⟨q1,q2⟩=>⟨q1,hx.trans' q2⟩)
 have key:∀ a2 w2,Ag [0] a1 a2->Ext w1 w2->(b<dE L1∨256<L1.length)->Code.wp Tryz.prog (.block 1 (.seq aP7 (.seq (.seq aP6 (.block 2 (.loop aT5))) (.seq (.seq aMv (.cond (.tmp 40) aMu .skip)) aSx)))) (Exit.then (fun a' w'=>O52 t vn b L m P ve a w a' w'∧pR w' ⟨m,2,none⟩<pR w1 ⟨m,2,none⟩) (Exit.inBlock 0 R)) a2 w2:=by
  intro a2 w2 g2 hx2 hc;have z2:a2.tmps.size=67:=g2.sz.trans z1
  have hpos:0<L1.length:=by
   rcases hc with h1 | h1
   ·cases L1 with
    | nil=>simp [dE] at h1;omega
    | cons _ _=>simp
   ·omega
  have h2:=h.ext hx2;have hkl:=aAc hpos
  have fin:∀ a3 w3,Ag [0] a2 a3->Ext w2 w3->Ev a3 (.tmp 2)=.int .i64 ((nV L1:Nat):Int)->Code.wp Tryz.prog aSx (Exit.inBlock 1 (Exit.then (fun a' w'=>O52 t vn b L m P ve a w a' w'∧pR w' ⟨m,2,none⟩<pR w1 ⟨m,2,none⟩) (Exit.inBlock 0 R))) a3 w3:=by
   intro a3 w3 g3 hx3 e2;refine aH9 (h2.ext hx3) hkl (g3.sz.trans z2) (g3.get 0 (g2.get 0 f0)) e2 ?_;intro a4 w4 g4 hA;obtain ⟨v4,q1,q2,q3⟩:=dK.trans (L1:=L1) (hF.trans (Fr.of_ext (hx2.trans' hx3))) (fun k hk=>(hob k hk)) hA;refine ⟨⟨(hG.trans g2).trans (g3.trans g4),_,v4,q1,q2,q3,?_⟩,?_⟩
   ·rw [<- hcu,<- wT hc hpos]
   ·rw [aEd q1,aEd h,List.length_eraseIdx,if_pos hkl]
    omega
  refine wp_block (wp_seq ?_)
  conv=>arg 2;whnf
  refine aA ?_
  iterate 1 refine l_v rfl rfl (by simp [execOp,go_sem];exact ⟨rfl,rfl⟩) ?_
  refine aQ (wp_seq (wp_seq ?_))
  conv=>arg 2;whnf
  refine aA ?_
  iterate 1 refine l_v rfl rfl (by simp [execOp,go_sem];exact ⟨rfl,rfl⟩) ?_
  refine aQ ?_;refine aRv (a0:=a2) h2 hpos z2 (g2.get 0 f0) ⟨(by (repeat refine .put ?_ rfl);exact .rf),Nat.zero_le _,by simp [z2],Ext.refl _,-1,by simp [z2],by omega,by omega,rfl⟩ ?_;rintro a3 w3 ⟨g3,-,-,hx3,kk,e2,hk0,hk1,hcf⟩;rw [drop_nil (Nat.le_refl _)] at hcf;have z3:a3.tmps.size=67:=g3.sz.trans z2;refine wp_seq (wp_seq (aLc z3 e2 ?_));intro a4 g4 e40;have z4:a4.tmps.size=67:=g4.sz.trans z3
  by_cases hneg:kk<0
  ·rw [if_pos hneg] at hcf
   have hcf:L1.length - 1=nV L1:=hcf;refine wp_cond_true (e40.trans (by rw [aV7 hneg])) (aLb z4 (g4.get 0 (g3.get 0 (g2.get 0 f0))) (aB hx3 (aB hx2 c2)) (IntWalk.i64_in _ (by omega)) ?_);intro a5 g5 e2';exact fin _ _ (g3.trans ((g4.mono rfl).trans g5)) hx3 (e2'.trans (by rw [<- hcf];congr 1;omega))
  ·rw [if_neg hneg] at hcf
   have hcf:kk.toNat=nV L1:=hcf;refine wp_cond_false (e40.trans (by rw [aV8 hneg])) (wp_skip ?_);exact fin _ _ (g3.trans (g4.mono rfl)) hx3 ((g4.get 2 e2).trans (by rw [<- hcf];congr 1;omega))
 by_cases hb:b<dE L1
 ·refine wp_seq (wp_seq (aGd z1 f0 (fun w' hw=>aB hw h.cell1) hb hby ?_))
  intro a2 w2 hx2 g2 e19;exact wp_cond_true e19 (wp_skip (key _ _ g2 hx2 (.inl hb)))
 ·refine wp_seq (wp_seq (aGe z1 f0 (fun w' hw=>⟨aB hw h.cell1,aB hw c2⟩) hb hby ?_))
  intro a2 w2 hx2 g2 e19
  by_cases hl:256<L1.length
  ·exact wp_cond_true (e19.trans (by rw [aV7 hl])) (wp_skip (key _ _ g2 hx2 (.inr hl)))
  ·refine wp_cond_false (e19.trans (by rw [aV8 hl])) (wp_exit ?_)
   refine hQ _ _ (g2.df.trans hG.df) ⟨v1,?_,hF.trans (Fr.of_ext hx2),hob⟩;rw [<- hcu];unfold uW;rw [aAb (by omega)];exact h.ext hx2
theorem aHl (h:MAt t vn b L m P ve w):Calls Tryz.prog 52 #[.pointer (some ⟨m,0,none⟩)] w fun e w'=>e=.returned (.tuple #[])∧dK t vn b (uW b L) m P ve w w':=by
 refine calls_of_wp Tryz.func52 aRy (aRu h ?_ ?_ ?_)
 ·simp [Tryz.ntmps52]
 ·simp [Ev,Act.eval]
 ·intro a' w' h1 h3
  exact ⟨h1,.tuple #[],by simp [results,Tryz.results52,go_sem],rfl,h3⟩
end
noncomputable def aRa:Code:=(Tryz.f14.body.bind (aO 0)).getD .skip
noncomputable def aQ9:Code:=(Tryz.f14.body.bind (aO 1)).getD .skip
noncomputable def aQ8:Code:=(Tryz.f14.body.bind (aO 2)).getD .skip
noncomputable def aQ7:Code:=(Tryz.f14.body.bind (aO 3)).getD .skip
noncomputable def aQ6:Code:=(Tryz.f14.body.bind (aO 4)).getD .skip
noncomputable def aQ5:Code:=(Tryz.f14.body.bind (aO 5)).getD .skip
noncomputable def aQ4:Code:=(Tryz.f14.body.bind (aO 6)).getD .skip
noncomputable def aQ3:Code:=(Tryz.f14.body.bind (aO 7)).getD .skip
noncomputable def aQ2:Code:=(Tryz.f14.body.bind (aO 8)).getD .skip
section
variable {Q:Exit->Act->World->Prop}{a:Act}{w:World}{m:Nat}{vn vp:Value}{R:World->Prop}
theorem aMp {k x c:Int}(hsz:a.tmps.size=38)(e2:Ev a (.tmp 2)=.agg #[.int .i64 k,.int .i64 x,.int .i64 c])
  (h:∀ a',Ag [0,1,3] a a'->Ev a' (.tmp 6)=.pointer (some ⟨w.heap.size,0,none⟩)->Q .normal a' (w.alloc (.cells #[.int .i64 k,.int .i64 x,.int .i64 c] 41))):Code.wp Tryz.prog aRa Q a w:=by
 conv=>arg 2;whnf
 refine aA ?_
 iterate 3 refine l_v rfl rfl (by simp [execOp,go_sem, *];exact ⟨rfl,rfl⟩) ?_
 exact aQ (h _ (by (repeat refine .put ?_ rfl);exact .rf) (by simp [*]))
theorem aMo {n:Int}(hsz:a.tmps.size=38)(e0:Ev a (.tmp 0)=.pointer (some ⟨m,0,none⟩))(e1:Ev a (.tmp 1)=vp)(c0:w.cell? ⟨m,0,none⟩=some vn)(hc:Calls Tryz.prog 50 #[.agg #[vn],vp] w (aSe n w))
  (h:∀ a' w',Ag [0,1,3,6] a a'->Ev a' (.tmp 11)=.int .i64 n->Ext w w'->Q .normal a' w'):Code.wp Tryz.prog aQ9 Q a w:=by
 conv=>arg 2;whnf
 refine aA ?_
 iterate 5 refine l_v rfl rfl (by simp [execOp,go_sem, *];exact ⟨rfl,rfl⟩) ?_
 refine l_c rfl rfl rfl Tryz.func50 (by rfl) (by rfl) hc (by simp [*]) ?_;rintro e w1 ⟨k,z,s,A,m,c,rfl,hx⟩;refine ⟨_,rfl,?_⟩
 iterate 4 refine l_v rfl rfl (by simp [execOp,go_sem, *];exact ⟨rfl,rfl⟩) ?_
 have hB:=Blk.new w1 85 #[.int .i64 0,.int .i64 0,.string ⟨#[]⟩,.slice none 0 0];have hX:Ext w1 (w1.alloc (.cells #[.int .i64 0,.int .i64 0,.string ⟨#[]⟩,.slice none 0 0] 85)):=(Ext.refl w1).alloc' _;generalize w1.alloc (.cells #[.int .i64 0,.int .i64 0,.string ⟨#[]⟩,.slice none 0 0] 85)=W at *;obtain ⟨q0,q1,q2,q3⟩:=aY hB;have f0:=hB.frozen 0;have f1:=hB.frozen 1;have f2:=hB.frozen 2;have f3:=hB.frozen 3;refine l_s rfl rfl (by simp [execOp,go_sem, *];rfl) ?_
 iterate 1 refine l_v rfl rfl (by simp [execOp,go_sem, *];exact ⟨rfl,rfl⟩) ?_
 refine aQ (h _ _ (by (repeat refine .put ?_ rfl);exact .rf) (by simp [*]) ?_);exact hx.trans' ((((hX.setCell' (p:=⟨w1.heap.size,0,none⟩) (Nat.le_refl _) _).setCell' (p:=⟨w1.heap.size,1,none⟩) (Nat.le_refl _) _).setCell' (p:=⟨w1.heap.size,2,none⟩) (Nat.le_refl _) _).setCell' (p:=⟨w1.heap.size,3,none⟩) (Nat.le_refl _) _)
theorem aC5 {n:Int}{b:Bool}(hsz:a.tmps.size=38)(e11:Ev a (.tmp 11)=.int .i64 n)(hn:(n != 0)=b)
  (h:∀ a',Ag [0,1,3,6] a a'->Ev a' (.tmp 23)=.bool b->Q .normal a' w):Code.wp Tryz.prog aQ8 Q a w:=by
 conv=>arg 2;whnf
 refine aA ?_
 iterate 2 refine l_v rfl rfl (by simp [execOp,go_sem, *];exact ⟨rfl,rfl⟩) ?_
 exact aQ (h _ (by (repeat refine .put ?_ rfl);exact .rf) (by simp [<- hn,hsz,bne]))
theorem aMm {A:Option Addr}{n c g:Nat}{k x cc:Int}{f b:Bool}(hsz:a.tmps.size=38)(e0:Ev a (.tmp 0)=.pointer (some ⟨m,0,none⟩))(e1:Ev a (.tmp 1)=.slice A n c)(e3:Ev a (.tmp 3)=.bool f)(e6:Ev a (.tmp 6)=.pointer (some ⟨g,0,none⟩))
  (hB:Blk w g 41 #[.int .i64 k,.int .i64 x,.int .i64 cc])(hc:Calls Tryz.prog 51 #[.pointer (some ⟨m,0,none⟩),.agg #[.slice A n c,.int .i64 k,.int .i64 x,.int .i64 cc,.bool f,.int .i64 1]] w (fun e w'=>e=.returned (.bool b)∧R w'))
  (h:∀ a' w',R w'->Ag [0,1] a a'->Ev a' (.tmp 12)=.bool b->Q .normal a' w'):Code.wp Tryz.prog aQ6 Q a w:=by
 have c0:=hB.cell' 0 rfl;have c1:=hB.cell' 1 rfl;have c2:=hB.cell' 2 rfl
 conv=>arg 2;whnf
 refine aA ?_
 iterate 5 refine l_v rfl rfl (by simp [execOp,go_sem, *];exact ⟨rfl,rfl⟩) ?_
 refine l_c rfl rfl rfl Tryz.func51 (by rfl) (by rfl) hc (by simp [*]) ?_;rintro e w' ⟨rfl,hR⟩;refine ⟨_,rfl,?_⟩
 iterate 1 refine l_v rfl rfl (by simp [execOp,go_sem, *];exact ⟨rfl,rfl⟩) ?_
 exact aQ (h _ _ hR (by (repeat refine .put ?_ rfl);exact .rf) (by simp [*]))
theorem aMl {b:Bool}(hsz:a.tmps.size=38)(e12:Ev a (.tmp 12)=.bool b)
  (h:∀ a',Ag [0,1] a a'->Ev a' (.tmp 31)=.bool (!b)->Q .normal a' w):Code.wp Tryz.prog aQ5 Q a w:=by
 conv=>arg 2;whnf
 refine aA ?_
 iterate 2 refine l_v rfl rfl (by simp [execOp,go_sem, *];exact ⟨rfl,rfl⟩) ?_
 exact aQ (h _ (by (repeat refine .put ?_ rfl);exact .rf) (by simp [*]))
theorem aMj {v:Value}(hsz:a.tmps.size=38)(e0:Ev a (.tmp 0)=.pointer (some ⟨m,0,none⟩))(hc:Calls Tryz.prog 52 #[.pointer (some ⟨m,0,none⟩)] w (fun e w'=>e=.returned v∧R w'))
  (h:∀ a' w',R w'->Ag [0,1] a a'->Q .normal a' w'):Code.wp Tryz.prog aQ3 Q a w:=by
 conv=>arg 2;whnf
 refine aA ?_
 iterate 1 refine l_v rfl rfl (by simp [execOp,go_sem, *];exact ⟨rfl,rfl⟩) ?_
 refine l_c rfl rfl rfl Tryz.func52 (by rfl) (by rfl) hc (by simp [*]) ?_;rintro e w' ⟨rfl,hR⟩;exact ⟨_,rfl,aQ (h _ _ hR (by (repeat refine .put ?_ rfl);exact .rf))⟩
theorem aMi {z:Int}(hsz:a.tmps.size=38)(e0:Ev a (.tmp 0)=.pointer (some ⟨m,0,none⟩))(e1:Ev a (.tmp 1)=vp)(hc:Calls Tryz.prog 20 #[.pointer (some ⟨m,0,none⟩),vp] w (dC (.int .i64 z) w))
  (h:∀ a' w',Ext w w'->Ag [0,1] a a'->Ev a' (.tmp 8)=.bool (decide (0<=z))->Ev a' (.tmp 9)=.int .i64 0->Q .normal a' w'):Code.wp Tryz.prog aQ2 Q a w:=by
 conv=>arg 2;whnf
 refine aA ?_
 iterate 2 refine l_v rfl rfl (by simp [execOp,go_sem, *];exact ⟨rfl,rfl⟩) ?_
 refine l_c rfl rfl rfl Tryz.func20 (by rfl) (by rfl) hc (by simp [*]) ?_;rintro e w' ⟨rfl,hx⟩;refine ⟨_,rfl,?_⟩
 iterate 3 refine l_v rfl rfl (by simp [execOp,go_sem, *];exact ⟨rfl,rfl⟩) ?_
 exact aQ (h _ _ hx (by (repeat refine .put ?_ rfl);exact .rf) (by simp [*]) (by simp [*]))
theorem aMn (hsz:a.tmps.size=38)(h:∀ a',Ag [] a a'->Ev a' (.tmp 8)=.bool false->Ev a' (.tmp 9)=.int .i64 11->Q .normal a' w):Code.wp Tryz.prog aQ7 Q a w:=by
 conv=>arg 2;whnf
 refine aA ?_
 iterate 2 refine l_v rfl rfl (by simp [execOp,go_sem, *];exact ⟨rfl,rfl⟩) ?_
 exact aQ (h _ (by (repeat refine .put ?_ rfl);exact .rf) (by simp [*]) (by simp [*]))
theorem aMk (hsz:a.tmps.size=38)(h:∀ a',Ag [] a a'->Ev a' (.tmp 8)=.bool false->Ev a' (.tmp 9)=.int .i64 0->Q .normal a' w):Code.wp Tryz.prog aQ4 Q a w:=by
 conv=>arg 2;whnf
 refine aA ?_
 iterate 2 refine l_v rfl rfl (by simp [execOp,go_sem, *];exact ⟨rfl,rfl⟩) ?_
 exact aQ (h _ (by (repeat refine .put ?_ rfl);exact .rf) (by simp [*]) (by simp [*]))
end
noncomputable abbrev aJn:Code:=.seq aRa (.seq aQ9 (.seq (.seq aQ8 (.cond (.tmp 23) (.seq aQ7 .ret) .skip)) (.seq aQ6 (.seq (.seq aQ5 (.cond (.tmp 31) (.seq aQ4 .ret) .skip)) (.seq aQ3 (.seq aQ2 .ret))))))
theorem aR3:Tryz.f14.body=some aJn:=by kernel_rfl
section
variable {t:List GN}{vn vp:Value}{b:Int}{L:List GE}{m:Nat}{P:Nat->Prop}{ve:Value}{a:Act}{w:World}{R:Exit->Act->World->Prop}{path:List Int}{k x c:Int}{f:Bool}
theorem aNi (h:MAt t vn b L m P ve w)(hd:RdT t path)(hvl:∀ x ∈ t,x.values.length<=1000000)(hp:bT w P vp path)(hk:I64 k)(hx:I64 x)(hc:I64 c)(hfew:L.length+1<=100000)(hpl:path.length<=1000)
  (hsz:a.tmps.size=38)(e0:Ev a (.tmp 0)=.pointer (some ⟨m,0,none⟩))(e1:Ev a (.tmp 1)=vp)(e2:Ev a (.tmp 2)=.agg #[.int .i64 k,.int .i64 x,.int .i64 c])(e3:Ev a (.tmp 3)=.bool f)
  (hR:∀ a' w',a'.defers=a.defers->Ev a' (.tmp 8)=.bool (sN (aU t) b L (mkE path k x c f))->Ev a' (.tmp 9)=.int .i64 (xG (aU t) (mkE path k x c f))->dK t vn b (nY (aU t) b L (mkE path k x c f)) m P ve w w'->R .ret a' w'):Code.wp Tryz.prog aJn R a w:=by
 refine wp_seq (aMp hsz e2 ?_);intro a1 g1 e6;have hB:=Blk.new w 41 #[.int .i64 k,.int .i64 x,.int .i64 c];have hX:Ext w (w.alloc (.cells #[.int .i64 k,.int .i64 x,.int .i64 c] 41)):=(Ext.refl w).alloc' _;generalize w.alloc (.cells #[.int .i64 k,.int .i64 x,.int .i64 c] 41)=W at *;have z1:a1.tmps.size=38:=g1.sz.trans hsz;refine wp_seq (aMo (vp:=vp) z1 (g1.get 0 e0) (g1.get 1 e1) (h.ext hX).cell0 (aCm t path P vn vp W hd (fun i hi=>Nat.lt_of_lt_of_le (h.lt i hi) hX.size) hvl (h.ext hX).tree (hp.ext hX)) ?_);intro a2 w2 g2 e11 hx2;have hE:=hX.trans' hx2;have z2:a2.tmps.size=38:=g2.sz.trans z1
 cases hw:aU t path with
 | false =>
  rw [hw] at e11;refine wp_seq (wp_seq (aC5 (b:=true) z2 e11 (by simp [aT6]) ?_));intro a3 g3 e23;refine wp_cond_true e23 (wp_seq (aMn (g3.sz.trans z2) ?_));intro a4 g4 e8 e9;refine wp_ret (hR a4 w2 (g4.df.trans (g3.df.trans (g2.df.trans g1.df))) ?_ ?_ ?_)
  ·rw [e8];simp [sN,mkE,hw]
  ·rw [e9];simp [xG,mkE,hw]
  ·have:nY (aU t) b L (mkE path k x c f)=L:=by simp [nY,mkE,hw]
   rw [this];exact dK.none h hE
 | true =>
  rw [hw] at e11;refine wp_seq (wp_seq (aC5 (b:=false) z2 e11 (by simp [aT6]) ?_));intro a3 g3 e23;have z3:a3.tmps.size=38:=g3.sz.trans z2;refine wp_cond_false e23 (wp_skip ?_);obtain ⟨A,cc,rfl,hp1,hp2⟩:=hp.form;have hp':=hp.ext hE;have h2:=h.ext hE;refine wp_seq (aMm z3 (g3.get 0 (g2.get 0 (g1.get 0 e0))) (g3.get 1 (g2.get 1 (g1.get 1 e1))) (g3.get 3 (g2.get 3 (g1.get 3 e3))) (g3.get 6 (g2.get 6 e6)) (hB.ext hx2) (aNa (x:=mkE path k x c f) h2 ⟨hp',hk,hx,hc,by simp [mkE,I64]⟩ hfew hpl) ?_);intro a4 w4 hA4 g4 e12;have z4:a4.tmps.size=38:=g4.sz.trans z3;have hA:=dK.of_ext hE hA4;refine wp_seq (wp_seq (aMl z4 e12 ?_));intro a5 g5 e31;have z5:a5.tmps.size=38:=g5.sz.trans z4;have d5:a5.defers=a.defers:=g5.df.trans (g4.df.trans (g3.df.trans (g2.df.trans g1.df)));have e05:=g5.get 0 (g4.get 0 (g3.get 0 (g2.get 0 (g1.get 0 e0))));have e15:=g5.get 1 (g4.get 1 (g3.get 1 (g2.get 1 (g1.get 1 e1))))
  cases hh:gX (mkE path k x c f).path L with
  | true =>
   rw [hh] at e31;refine wp_cond_true e31 (wp_seq (aMk z5 ?_));intro a6 g6 e8 e9;refine wp_ret (hR a6 w4 (g6.df.trans d5) ?_ ?_ ?_)
   ·rw [e8];simp [sN,hh]
   ·rw [e9];simp [xG,mkE,hw]
   ·have:nY (aU t) b L (mkE path k x c f)=dX L (mkE path k x c f):=by
     unfold nY;rw [if_pos (show aU t (mkE path k x c f).path=true from hw),if_pos hh]
    rw [this];exact hA
  | false =>
   rw [hh] at e31;refine wp_cond_false e31 (wp_skip ?_);obtain ⟨v4,m4,f4,b4⟩:=hA;refine wp_seq (aMj z5 e05 (aHl m4) ?_);intro a6 w6 hC g6;have z6:a6.tmps.size=38:=g6.sz.trans z5;have hF:=dK.trans (L1:=L) f4 b4 hC;obtain ⟨v6,m6,f6,b6⟩:=hF
   have hpw:bT w6 P (.slice A path.length cc) path:=hp.carry (fun i hi hP=>f6.block i hi (fun hm=>by
    have h7:=h.excl i hP;rcases hm with hm | hm
    ·exact h7.1 hm
    ·exact h7.2 hm)) (fun _ _ h=>h)
   refine wp_seq (aMi z6 (g6.get 0 e05) (g6.get 1 e15) (uH m6 hpw) ?_);intro a7 w7 hx7 g7 e8 e9
   have hE2:nY (aU t) b L (mkE path k x c f)=uW b (dX L (mkE path k x c f)):=by
    unfold nY;rw [if_pos (show aU t (mkE path k x c f).path=true from hw),if_neg (by rw [hh];simp)]
   refine wp_ret (hR a7 w7 (g7.df.trans (g6.df.trans d5)) ?_ ?_ ?_)
   ·rw [e8,qB]
    unfold sN;rw [if_pos (show aU t (mkE path k x c f).path=true from hw),if_neg (by rw [hh];simp)]
    rfl
   ·rw [e9];simp [xG,mkE,hw]
   ·rw [hE2]
    exact dK.ext ⟨v6,m6,f6,b6⟩ hx7
theorem aHm (h:MAt t vn b L m P ve w)(hd:RdT t path)(hvl:∀ x ∈ t,x.values.length<=1000000)(hp:bT w P vp path)(hk:I64 k)(hx:I64 x)(hc:I64 c)(hfew:L.length+1<=100000)(hpl:path.length<=1000) :
  Calls Tryz.prog 14 #[.pointer (some ⟨m,0,none⟩),vp,.agg #[.int .i64 k,.int .i64 x,.int .i64 c],.bool f] w fun e w'=>e=.returned (.tuple #[.bool (sN (aU t) b L (mkE path k x c f)),.int .i64 (xG (aU t) (mkE path k x c f))])∧dK t vn b (nY (aU t) b L (mkE path k x c f)) m P ve w w':=by
 refine calls_of_wp Tryz.func14 aR3 (aNi (f:=f) h hd hvl hp hk hx hc hfew hpl ?_ ?_ ?_ ?_ ?_ ?_)
 ·simp [Tryz.ntmps14]
 ·simp [Ev,Act.eval]
 ·simp [Ev,Act.eval]
 ·simp [Ev,Act.eval]
 ·simp [Ev,Act.eval]
 ·intro a' w' h1 h2 h3 h4
  refine bodyPost_ret (v:=.tuple #[.bool (sN (aU t) b L (mkE path k x c f)),.int .i64 (xG (aU t) (mkE path k x c f))]) ?_ h1 ⟨rfl,h4⟩;have h5:a'.tmps[8]?.getD undef=.bool (sN (aU t) b L (mkE path k x c f)):=by rw [<- h2];simp [Ev,Act.eval]
  have h6:a'.tmps[9]?.getD undef=.int .i64 (xG (aU t) (mkE path k x c f)):=by rw [<- h3];simp [Ev,Act.eval]
  simp [results,Tryz.results14,go_sem,h5,h6]
end
section
variable {ops:Array Oper}{Q:Exit->Act->World->Prop}{a:Act}{w w1:World}{rest:List Oper}{o:Oper}{d gd j:Nat}{v:Value}{want b:Bool}
theorem l_y (hg:o.guard=some (j,want))(hj:(ops[j]?).bind (fun x=>x.dst)=some gd)(hd:o.dst=some d)(hs:gd<a.tmps.size)(he:Ev a (.tmp gd)=.bool b)(hb:(b == want)=true)(hrun:(execOp (Ev a) o).run Tryz.prog w=.ok (.value v) w1)(h:WL ops Q rest (Pt a d v) w1):WL ops Q (o :: rest) a w:=eT d v gd hg hj hs he hb hd hrun h
theorem l_n (hg:o.guard=some (j,want))(hj:(ops[j]?).bind (fun x=>x.dst)=some gd)(hd:o.dst=some d)(hs:gd<a.tmps.size)(he:Ev a (.tmp gd)=.bool b)(hb:(b == want)=false)(h:WL ops Q rest (Pt a d undef) w):WL ops Q (o :: rest) a w:=aHq d gd hg hj hs he hb hd h
theorem l_u (hg:o.guard=some (j,want))(hj:(ops[j]?).bind (fun x=>x.dst)=some gd)(hd:o.dst=some d)(hs:gd<a.tmps.size)(he:Ev a (.tmp gd)=undef)(h:WL ops Q rest (Pt a d undef) w):WL ops Q (o :: rest) a w:=by
 have h1:a.tmps[gd]?=some undef:=by
  have h2:a.tmps.getD gd undef=undef:=he;simp only [Array.getD,hs,dite_true] at h2;rw [Array.getElem?_eq_getElem hs];exact congrArg some h2
 have h3:yielded ops a.tmps j=none:=by
  unfold yielded;rw [show ((ops[j]?).bind (fun x=>x.dst)).bind (fun x=>a.tmps[x]?)=some undef by rw [hj];exact h1]
  rfl
 refine ⟨wpList_skip (by simp [Region.wanted,hg,h3]) ?_⟩;rw [hd];exact h.out
theorem aU9 {f:FuncId}{xs:Array Operand}{ats:Array TypeId}{fn:Func}{vs:Array Value}{R:Ending->World->Prop}(hg:o.guard=some (j,want))(hj:(ops[j]?).bind (fun x=>x.dst)=some gd)(hd:o.dst=some d)(hs:gd<a.tmps.size)(he:Ev a (.tmp gd)=.bool b)(hb:(b == want)=true)(hop:o.op=Op.call { callee:=Callee.value (Operand.func f),args:=xs,argTypes:=ats })(hf:Tryz.prog.funcs[f]?=some fn)(hn:(fn.name == "runtime.NumGoroutine")=false) (hbn:fn.body.isNone=false)
  (hc:Calls Tryz.prog f vs w R)(hv:xs.map (Ev a)=vs)(h:∀ e w',R e w'->∃ v,e=.returned v∧WL ops Q rest (Pt a d v) w'):WL ops Q (o :: rest) a w :=
 mY d gd hg hj hs he hb hd f xs ats hop fn hf hn hbn vs hv (hc.mono h)
end
theorem xJ {t:List GN}{i:Nat}(h:bJ t i){j:Nat}(hj:j<i):(t.getD j default).weights.length<=256∧(t.getD j default).labels.length<=256:=by
 have hn:=(h.at_ hj).node;generalize t.getD j default=x at *;have hu:=hn.unused;unfold gP unA unB unC at hu;simp only [Bool.and_eq_true,Bool.not_eq_true',Bool.or_eq_false_iff,Bool.and_eq_false_imp,Bool.or_eq_true,decide_eq_false_iff_not,decide_eq_true_eq,Bool.not_eq_false'] at hu
 by_cases h2:x.kind=2
 ·have hc:=hn.choice h2
  rcases hc.2.2.2 with h3 | h3 <;> omega
 ·have h3:=hu.1.2.1 h2
  omega
theorem fJ.m {t:List GN}(h:fJ t):∀ x ∈ t,fH x:=by
 intro x hx;obtain ⟨j,hj,rfl⟩:=List.getElem_of_mem hx;have hg:=eX.1 h.good;have e:t.getD j default=t[j]:=by simp [hj]
 have h1:=xJ hg hj;have h2:=fE hg hj;rw [e] at h1 h2;have h3:=h.small _ (List.getElem_mem hj);exact ⟨by omega,by omega,by omega,by omega,h3.2.2.2.2.1,h3.2.2.2.2.2⟩
def sO (t:List GN)(n1 vn:Value)(b:Int)(Lc Lm:List GE)(g:CA)(m:Nat)(S:Nat->Prop)(B:Nat)(w:World):Prop :=
 ∃ P1 v1 vm,rJ t n1 b Lc g P1 v1 B w∧MAt t vn b Lm m S vm w∧(∀ k,mM m vm k->B<=k)∧(∀ k,S k∨mM m vm k->¬ g.M v1 k)∧∀ k,P1 k∨g.M v1 k->¬ mM m vm k
section
variable {t:List GN}{n1 vn:Value}{b:Int}{Lc Lm L:List GE}{g:CA}{m:Nat}{S:Nat->Prop}{B:Nat}{w w':World}
theorem sO.ext (h:sO t n1 vn b Lc Lm g m S B w)(hx:Ext w w'):sO t n1 vn b Lc Lm g m S B w':=by
 obtain ⟨P1,v1,vm,h1,h2,h3,h4,h5⟩:=h;exact ⟨P1,v1,vm,h1.ext hx,h2.ext hx,h3,h4,h5⟩
structure lK (S:Nat->Prop)(B:Nat)(w w':World):Prop where
 fr:Fr (fun k=>B<=k) w w'
 keep:aD S w w'
theorem sO.addC (h:sO t n1 vn b Lc Lm g m S B w){vp:Value}{path:List Int}(hp:bT w S vp path)(k a c:Int)(f:Bool)(hk:I64 k)(ha:I64 a)(hc:I64 c)(hfew:Lc.length+1<=100000)(hpl:path.length<=1000) :
  Calls Tryz.prog 12 #[.pointer (some ⟨g.c,0,none⟩),vp,jL k a c,.bool f] w fun e w'=>e=.returned (.tuple #[.bool (sN (aU t) b Lc (mkE path k a c f)),.int .i64 (xG (aU t) (mkE path k a c f))])∧sO t n1 vn b (nY (aU t) b Lc (mkE path k a c f)) Lm g m S B w'∧lK S B w w':=by
 obtain ⟨P1,v1,vm,h1,h2,h3,h4,h5⟩:=h;refine (aFc t n1 b Lc g P1 S v1 vp path k a c f w h1.cor hp (fun i hi hm=>h4 i (.inl hi) hm) hk ha hc hfew hpl).mono ?_;rintro e w' ⟨rfl,hA⟩;obtain ⟨P',v',q1,q2,q3,q4,q5⟩:=h1.after hA;have hs:=q2.size;refine ⟨rfl,⟨P',v',vm,q1,h2.carry (fun k hk hp=>q3.block k hk (h4 k hp)) hs,h3,?_,?_⟩,q2,fun k hk hp=>q3.block k hk (h4 k (.inl hp))⟩
 ·intro k hk hm
  rcases q5 k hm with h6 | h6
  ·exact h4 k hk h6
  ·have:k<w.heap.size:=by
    rcases hk with hk | hk
    ·exact h2.lt k hk
    ·exact h2.mlt hk
   omega
 ·intro k hk hm
  have hlt:=h2.mlt hm;rcases hk with hk | hk
  ·rcases q4 k hk with h6 | h6
   ·exact h5 k (.inl h6) hm
   ·omega
  ·rcases q5 k hk with h6 | h6
   ·exact h5 k (.inr h6) hm
   ·omega
theorem sO.addM (h:sO t n1 vn b Lc Lm g m S B w)(hd:∀ p:List Int,p.length<=1000->RdT t p)(hvl:∀ x ∈ t,x.values.length<=1000000){vp:Value}{path:List Int}(hp:bT w S vp path)(k a c:Int)(f:Bool)(hk:I64 k)(ha:I64 a)(hc:I64 c)(hfew:Lm.length+1<=100000)(hpl:path.length<=1000) :
  Calls Tryz.prog 14 #[.pointer (some ⟨m,0,none⟩),vp,.agg #[.int .i64 k,.int .i64 a,.int .i64 c],.bool f] w fun e w'=>e=.returned (.tuple #[.bool (sN (aU t) b Lm (mkE path k a c f)),.int .i64 (xG (aU t) (mkE path k a c f))])∧sO t n1 vn b Lc (nY (aU t) b Lm (mkE path k a c f)) g m S B w'∧lK S B w w':=by
 obtain ⟨P1,v1,vm,h1,h2,h3,h4,h5⟩:=h;refine (aHm (f:=f) h2 (hd path hpl) hvl hp hk ha hc hfew hpl).mono ?_;rintro e w' ⟨rfl,v',q1,q2,q3⟩;have hs:=q2.size;have hB:B<=w.heap.size:=by have:=h1.lo g.c (.inr (.inl rfl));omega
 have hM:∀ k,mM m v' k->mM m vm k∨w.heap.size<=k:=fun k hk=>by
  rcases hk with hk | hk
  ·exact .inl (.inl hk)
  ·exact (q3 k hk.symm).imp (fun h=>.inr h.symm) id
 refine ⟨rfl,⟨P1,v1,v',⟨h1.cor.carry (fun k hk hp=>q2.block k hk (h5 k hp)) (fun _ _ h=>h) h1.cor.excl,fun k hk=>⟨(h1.lo k hk).1,Nat.lt_of_lt_of_le (h1.lo k hk).2 hs⟩⟩,q1,?_,?_,?_⟩,q2.mono h3,fun k hk hp=>q2.block k hk (fun hm=>?_)⟩
 ·intro k hk
  rcases hM k hk with h6 | h6
  ·exact h3 k h6
  ·omega
 ·intro k hk hm
  have hlt:=(h1.lo k (.inr hm)).2;rcases hk with hk | hk
  ·exact h4 k (.inl hk) hm
  ·rcases hM k hk with h6 | h6
   ·exact h4 k (.inr h6) hm
   ·omega
 ·intro k hk hm
  have hlt:=(h1.lo k hk).2;rcases hM k hm with h6 | h6
  ·exact h5 k hk h6
  ·omega
 ·have:=h2.excl k hp
  rcases hm with hm | hm
  ·exact this.1 hm
  ·exact this.2 hm
end
end Go.Proofs.YtkoeecdjijfjnaaGreat
