/- Contracts of functions, plain laws. Conditions: none. -/
import Derived.Test.YtkoeecdjijfjnaaGreatTA
import Derived.Test.YtkoeecdjijfjnaaGreatSH
set_option maxRecDepth 100000
set_option maxHeartbeats 8000000
namespace Go.Proofs.YtkoeecdjijfjnaaGreat
open Go.RowKit
noncomputable def aWb:=RG Tryz.f17 0
noncomputable def aSb:=RG Tryz.f17 1
noncomputable def aWa:=RG Tryz.f17 2
noncomputable def aV9:=RG Tryz.f17 3
noncomputable def aSa:=RG Tryz.f17 4
noncomputable def aR9:=RG Tryz.f17 5
noncomputable def aR8:=RG Tryz.f17 6
noncomputable def aV8:=RG Tryz.f17 7
noncomputable def aV7:=RG Tryz.f17 8
variable {Q:Exit->Act->World->Prop}{a:Act}{w:World}
theorem aNt {bx ox n c n' c' k by_ oy:Nat}{A1 A2:Option Addr}{n1 d1 n2 d2:Nat}{x1 x2 x3 x5:Int}{x4:Bool}(hsz:a.tmps.size=68)(e0:Ev a (.tmp 0)=.slice (some ⟨bx,ox,none⟩) n c)(e1:Ev a (.tmp 1)=.slice (some ⟨by_,oy,none⟩) n' c')(e5:Ev a (.tmp 5)=↑(k:Int))(hk:(k:Int)<(n:Int))(hk':(k:Int)<(n':Int))
  (hx:∀ w',Ext w w'->w'.cell? ⟨bx,ox+k*6,none⟩=some (.slice A1 n1 d1)∧w'.cell? ⟨bx,ox+k*6+1,none⟩=some (↑x1)∧w'.cell? ⟨bx,ox+k*6+2,none⟩=some (↑x2)∧w'.cell? ⟨bx,ox+k*6+3,none⟩=some (↑x3)∧w'.cell? ⟨bx,ox+k*6+4,none⟩=some (.bool x4)∧w'.cell? ⟨bx,ox+k*6+5,none⟩=some (↑x5))
  (hy:∀ w',Ext w w'->w'.cell? ⟨by_,oy+k*6,none⟩=some (.slice A2 n2 d2)∧w'.cell? ⟨by_,oy+k*6+1,none⟩=some (↑x1)∧w'.cell? ⟨by_,oy+k*6+2,none⟩=some (↑x2)∧w'.cell? ⟨by_,oy+k*6+3,none⟩=some (↑x3)∧w'.cell? ⟨by_,oy+k*6+4,none⟩=some (.bool x4)∧w'.cell? ⟨by_,oy+k*6+5,none⟩=some (↑x5))
  (hc:∀ w1,Ext w w1->Calls Tryz.prog 24 #[.slice A1 n1 d1,.slice A2 n2 d2] w1 fun e w'=>e=.returned (.bool true)∧Ext w w')
  (h:∀ a' w',Ext w w'->Ag [0,1,4,5] a a'->Ev a' (.tmp 67)=.bool false->Q .normal a' w'):Code.wp Tryz.prog aR8 Q a w:=by
 conv=>arg 2;whnf
 refine cM (fun w'=>Ext w w') Y Y (Ext.refl w).drew' ?_
 iterate 10 refine q_v rfl rfl (fun w hw=>by simp [execOp,go_sem,hx w hw,hy w hw, *];rfl) ?_
 refine q_c rfl rfl rfl Tryz.func24 ac ac hc O ?_
 iterate 2 refine q_v rfl rfl (fun w hw=>by simp [execOp,go_sem, *];rfl) ?_
 iterate 11 refine q_y rfl rfl rfl O ab rfl (fun w hw=>by simp [execOp,go_sem,hx w hw,hy w hw, *];rfl) ?_
 iterate 2 refine q_v rfl rfl (fun w hw=>by simp [execOp,go_sem, *];rfl) ?_
 iterate 11 refine q_y rfl rfl rfl O ab rfl (fun w hw=>by simp [execOp,go_sem,hx w hw,hy w hw, *];rfl) ?_
 iterate 2 refine q_v rfl rfl (fun w hw=>by simp [execOp,go_sem, *];rfl) ?_
 iterate 11 refine q_y rfl rfl rfl O ab rfl (fun w hw=>by simp [execOp,go_sem,hx w hw,hy w hw, *];rfl) ?_
 iterate 1 refine q_v rfl rfl (fun w hw=>by simp [execOp,go_sem, *];rfl) ?_
 exact nD (fun w' hw=>h _ w' hw I O)
theorem aNv {A:Option Addr}{n c k:Nat}(hsz:a.tmps.size=68)(e0:Ev a (.tmp 0)=.slice A n c)(e5:Ev a (.tmp 5)=↑(k:Int))
  (h:∀ a',Ag [0,1,4,5] a a'->Ev a' (.tmp 14)=.bool (decide (k<n))->Q .normal a' w):Code.wp Tryz.prog aSa Q a w:=by
 refine rW ?_
 iterate 4 refine lV ?_
 exact aJ (h _ I O)
theorem aNw {A B:Option Addr}{n c c':Nat}(hsz:a.tmps.size=68)(e0:Ev a (.tmp 0)=.slice A n c)(e1:Ev a (.tmp 1)=.slice B n c')
  (h:∀ a',Ag [0,1,4,5] a a'->Ev a' (.tmp 10)=.bool false->Q .normal a' w):Code.wp Tryz.prog aSb Q a w:=by
 refine rW ?_
 iterate 5 refine lV ?_
 exact aJ (h _ I O)
theorem aNu {k:Nat}(hsz:a.tmps.size=68)(e5:Ev a (.tmp 5)=↑(k:Int))(hw:IntKind.i64.wrap ((k:Int)+1)=(k:Int)+1)
  (h:∀ a',Ag [0,1,4] a a'->Ev a' (.tmp 5)=.int .i64 ((k+1:Nat):Int)->Q .normal a' w):Code.wp Tryz.prog aR9 Q a w:=by
 refine rW ?_
 iterate 3 refine lV ?_
 exact aJ (h _ I O)
noncomputable abbrev aZb:Code:=.seq (.seq aSa (.cond (.tmp 14) .skip (.exit 0))) (.seq (.block 1 (.seq aR8 (.cond (.tmp 67) (.seq aV8 .ret) .skip))) aR9)
noncomputable abbrev aK8:Code:=.seq aWb (.seq (.seq aSb (.cond (.tmp 10) (.seq aWa .ret) .skip)) (.seq (.seq aV9 (.block 0 (.loop aZb))) (.seq aV7 .ret)))
theorem aTz:Tryz.f17.body=some aK8:=Y
def I17 (L:List GE)(a0:Act)(ws:World)(k:Nat)(a:Act)(w:World):Prop:=Ag [0,1] a0 a∧k<=L.length∧Ev a (.tmp 5)=↑(k:Int)∧Ext ws w
theorem aLy {L:List GE}{P1 P2:Nat->Prop}{A B:Option Addr}{c d:Nat}{R:Exit->Act->World->Prop}(hfew:L.length<=100000)(hx:Ens w P1 (.slice A L.length c) L)(hy:Ens w P2 (.slice B L.length d) L)(hsz:a.tmps.size=68)(e0:Ev a (.tmp 0)=.slice A L.length c)(e1:Ev a (.tmp 1)=.slice B L.length d)
  (hR:∀ a' w',a'.defers=a.defers->Ev a' (.tmp 4)=.bool true->Ext w w'->R .ret a' w'):Code.wp Tryz.prog aK8 R a w:=by
 refine wp_seq ?_;refine rW ?_
 iterate 1 refine lV ?_
 refine aJ ?_;refine wp_seq (wp_seq (aNw (A:=A) (B:=B) (n:=L.length) (c:=c) (c':=d) O O O ?_));intro a1 g1 e10;refine wp_cond_false e10 (wp_skip ?_);refine wp_seq (wp_seq ?_);have z1:a1.tmps.size=68:=by rw [g1.sz];simp [*]
 refine rW ?_
 iterate 1 refine l_v rfl rfl (by simp [execOp,go_sem,z1];exact ⟨rfl,rfl⟩) ?_
 refine aJ ?_;have g2:Ag [0,1] a (Pt a1 5 (.int .i64 0)):=(((Ag.rf.put rfl).trans (g1.mono rfl)).put rfl);refine wp_block (wp_loop (fun a' w'=>∃ k,I17 L a w k a' w') (fun a' _=>L.length - (intOf (Ev a' (.tmp 5))).toNat) ⟨0,g2,Nat.zero_le _,gh,Ext.refl _⟩ ?_);clear g2 z1 e10 g1 a1;rintro a1 w1 ⟨k,hG,hk,e5,hE⟩;have f0:=hG.get 0 e0;have f1:=hG.get 1 e1;have z1:a1.tmps.size=68:=by rw [hG.sz];exact hsz
 refine wp_seq (wp_seq (aNv z1 f0 e5 ?_));intro a2 g2 e14;have z2:a2.tmps.size=68:=by rw [g2.sz];exact z1
 by_cases hlt:k<L.length
 ·refine wp_cond_true (e14.trans eq) (wp_skip ?_)
  obtain ⟨bx,ox,A1,d1,rfl,-,ea1,gc1⟩:=(hx.ext hE).get hlt;obtain ⟨by_,oy,A2,d2,rfl,-,ea2,gc2⟩:=(hy.ext hE).get hlt
  refine wp_seq (wp_block (wp_seq (aNt z2 (g2.get 0 f0) (g2.get 1 f1) (g2.get 5 e5) D D
   (fun w' h=>⟨aA h (gc1 0 _ rfl),aA h (gc1 1 _ rfl),aA h (gc1 2 _ rfl),aA h (gc1 3 _ rfl),aA h (gc1 4 _ rfl),aA h (gc1 5 _ rfl)⟩)
   (fun w' h=>⟨aA h (gc2 0 _ rfl),aA h (gc2 1 _ rfl),aA h (gc2 2 _ rfl),aA h (gc2 3 _ rfl),aA h (gc2 4 _ rfl),aA h (gc2 5 _ rfl)⟩)
   (fun w2 h2=>((fQ _ _ _ _ _ _ w2 (ea1.ext h2).path (ea2.ext h2).path).mono ?_)) ?_)))
  ·rintro e w' ⟨rfl,n,rfl⟩
   exact ⟨U,h2.drewN' n⟩
  ·intro a3 w3 hx3 g3 e67
   refine wp_cond_false e67 (wp_skip ?_);refine aNu (k:=k) (by rw [g3.sz];exact z2) (g3.get 5 (g2.get 5 e5)) (uH D) ?_;intro a4 g4 e5';refine ⟨⟨k+1,((hG.trans (g2.mono rfl)).trans (g3.mono rfl)).trans (g4.mono rfl),hlt,e5',hE.trans' hx3⟩,?_⟩;rw [e5',e5];simp [intOf];omega
 ·refine wp_cond_false (e14.trans eq) (wp_exit ?_)
  refine wp_seq ?_;refine rW ?_
  iterate 1 refine l_v rfl rfl (by simp [execOp,go_sem,z2];exact ⟨rfl,rfl⟩) ?_
  refine aJ (wp_ret (hR _ _ ?_ gv hE));exact g2.df.trans hG.df
theorem zF {L:List GE}{P1 P2:Nat->Prop}{v1 v2:Value}(hfew:L.length<=100000)(hx:Ens w P1 v1 L)(hy:Ens w P2 v2 L):Calls Tryz.prog 17 #[v1,v2] w (cT (.bool true) w):=by
 obtain ⟨A,c,rfl,-,-⟩:=Lst.form hx;obtain ⟨B,d,rfl,-,-⟩:=Lst.form hy;refine calls_of_wp Tryz.func17 aTz (aLy hfew hx hy ?_ ?_ ?_ ?_)
 ·simp [Tryz.ntmps17]
 ·simp [Ev,Act.eval]
 ·simp [Ev,Act.eval]
 ·intro a' w' h1 h2 h3
  refine bodyPost_ret (v:=.bool true) ?_ h1 ⟨rfl,h3⟩;have h5:a'.tmps[4]?.getD undef=.bool true:=by rw [<- h2];simp [Ev,Act.eval]
  simp [results,Tryz.results17,go_sem,h5]
theorem aA4 {t:List GN}{path:List Int}(h:bD t t.length)(hpl:path.length<=1000000)(h0:0<t.length):aQ t path=decide ((bH t path).stop=-1):=by
 have hf:=aEw h path hpl t.length (t.length - 1) 0 true D D D D;have hr:=sY h path hpl t.length (t.length - 1) 0 D D D D;rw [show (((t.length - 1:Nat)):Int)=(t.length:Int) - 1 by omega] at hf hr;unfold aQ bH;generalize aS t path t.length ((t.length:Int) - 1) 0=s at *;generalize iM t path t.length ((t.length:Int) - 1) 0 true=r at *;have hu:=hr.usedP;rw [show decide (0<t.length)=true from aZy h0,Bool.true_and]
 by_cases hs:s.stop=-1
 ·obtain ⟨-,y2,y3⟩:=hf.yes rfl hs
  rw [y3,y2,Bool.true_and]
  by_cases hl:s.used<path.length
  ·rw [if_pos ⟨hs,hl⟩]
   simp;omega
  ·rw [if_neg (fun h=>hl h.2),hs]
   simp;omega
 ·rw [hf.no rfl hs,if_neg (fun h=>hs h.1)]
  simp [hs]
def aUb (n:Int)(w:World)(e:Ending)(w':World):Prop:=∃ k z s A m c,e=.returned (.tuple #[.agg #[.int .i64 k,.int .i64 z,.string s,.slice A m c],↑n])∧Ext w w'
def aWz (b:Bool):Int:=if b then 0 else 11
theorem aCo (t:List GN)(path:List Int)(P:Nat->Prop)(vn vp:Value)(w:World)(hd:RdT t path)(hP:∀ b,P b->b<w.heap.size)(hvl:∀ x ∈ t,x.values.length<=1000000)(ht:Nds w P vn t)(hvp:bM w P vp path) :
  Calls Tryz.prog 50 #[.agg #[vn],vp] w (aUb (aWz (aQ t path)) w):=by
 have HVA:=aZv (fun (W:World) (hx:Ext w W)=>(dW.2 hd.good) ▸ gS t P vn W (ht.ext hx) hvl);have HRD:=aZv (fun (W:World) (hx:Ext w W) (h0:0<t.length)=>nY t path P vn vp W hd h0 (fun b hb=>Nat.lt_of_lt_of_le (hP b hb) hx.size) (ht.ext hx) (hvp.ext hx));have HWR:=aZv (fun h0=>aA4 hd.good hd.path h0);have HW0:=aZv (show t.length=0->aQ t path=false from fun h=>by unfold aQ;simp [h]);obtain ⟨An,cn,en,hn1,hn2⟩:=ht.form;subst en;obtain ⟨Ap,cp,ep,hp1,hp2⟩:=hvp.form;subst ep;clear hd hP hvl ht hvp;generalize aQ t path=wb at *;generalize bH t path=r at *;go_enter Tryz.func50,Tryz.ntmps50;go_upto_region 1 with fail;have HE:=aZv (show Ext w ((w.alloc (.cells #[.slice An t.length cn] 25)).alloc (.cells #[.int .i64 0,.int .i64 0,.string ⟨#[]⟩,.slice none 0 0] 85)) from ((Ext.refl w).alloc' _).alloc' _);have HB:=aZv ((Blk.new w 25 #[.slice An t.length cn]).alloc (.cells #[.int .i64 0,.int .i64 0,.string ⟨#[]⟩,.slice none 0 0] 85));have HRES:=aZv (Blk.new' (w.alloc (.cells #[.slice An t.length cn] 25)) 85 #[.int .i64 0,.int .i64 0,.string ⟨#[]⟩,.slice none 0 0] (g:=w.heap.size+1) U);generalize hW:(w.alloc (.cells #[.slice An t.length cn] 25)).alloc (.cells #[.int .i64 0,.int .i64 0,.string ⟨#[]⟩,.slice none 0 0] 85)=W at *
 clear hW;have y0:=HB.out.cell' (u:=.slice An t.length cn) 0 rfl;go_wp2_with fail;refine (HVA.out W HE.out).mono ?_;rintro e w1 ⟨rfl,hx1⟩;have HX1:=aZv (HE.out.trans' hx1);have HB1:=aZv (HB.out.ext hx1);have HR1:=aZv (HRES.out.ext hx1);have y1:=HB1.out.cell' (u:=.slice An t.length cn) 0 rfl;clear hx1 y0
 by_cases hne:0<t.length
 ·have hl0:((t.length:Int) == 0)=false:=aZw D
  have HWW:=aZv (HWR.out hne);go_wp2_with fail;refine (HRD.out w1 HX1.out hne).mono ?_;rintro e w2 ⟨A2,d2,sv,rfl,-,⟨A3,m3,c3,rfl⟩,hx2⟩;have HX2:=aZv (HX1.out.trans' hx2);have HR2:=aZv ((HR1.out.ext hx2).alloc (.cells (cR r A2 d2 (.slice A3 m3 c3)) 154));have HBR:=aZv (Blk.new w2 154 (cR r A2 d2 (.slice A3 m3 c3)));have HX3:=aZv (HX2.out.alloc' (.cells (cR r A2 d2 (.slice A3 m3 c3)) 154));have hlt:=(HR1.out.ext hx2).lt;clear hx2 y1;go_upto_region 7 with fail;generalize hW:w2.alloc (.cells (cR r A2 d2 (.slice A3 m3 c3)) 154)=W2 at *;clear hW;have r0:=HR2.out.cell' (u:=.int .i64 0) 0 rfl;have f0:=HR2.out.frozen 0;have r1:=HR2.out.cell' (u:=.int .i64 0) 1 rfl;have f1:=HR2.out.frozen 1;have r2:=HR2.out.cell' (u:=.string ⟨#[]⟩) 2 rfl;have f2:=HR2.out.frozen 2;have r3:=HR2.out.cell' (u:=.slice none 0 0) 3 rfl;have f3:=HR2.out.frozen 3;have b0:=HBR.out.cell' (u:=↑r.val.kind) 0 rfl;have b1:=HBR.out.cell' (u:=↑r.val.n) 1 rfl;have b2:=HBR.out.cell' (u:=.string r.val.s) 2 rfl;have b3:=HBR.out.cell' (u:=.slice A2 r.val.kids.length d2) 3 rfl;have b5:=HBR.out.cell' (u:=↑r.stop) 5 rfl;have hnn:¬ w.heap.size+1=w2.heap.size:=by omega
  by_cases hs:r.stop=-1
  ·have hd:(r.stop == -1)=true:=aZx hs
   have HF:=aZv (show wb=true by rw [HWW.out];exact aZy hs);clear hs;have q:=(((HR2.out.set_ 0 (↑r.val.kind)).set_ 1 (↑r.val.n)).set_ 2 (.string r.val.s)).set_ 3 (.slice A2 r.val.kids.length d2);have HQ:=aZv q;clear q;have HXQ:=aZv ((((HX3.out.setCell' (p:=⟨w.heap.size+1,0,none⟩) ae (↑r.val.kind)).setCell' (p:=⟨w.heap.size+1,1,none⟩) ae (↑r.val.n)).setCell' (p:=⟨w.heap.size+1,2,none⟩) ae (.string r.val.s)).setCell' (p:=⟨w.heap.size+1,3,none⟩) ae (.slice A2 r.val.kids.length d2));go_wp2_with fail;generalize (((W2.setCell ⟨w.heap.size+1,0,none⟩ (↑r.val.kind)).setCell ⟨w.heap.size+1,1,none⟩ (↑r.val.n)).setCell ⟨w.heap.size+1,2,none⟩ (.string r.val.s)).setCell ⟨w.heap.size+1,3,none⟩ (.slice A2 r.val.kids.length d2)=W3 at *;have q0:=HQ.out.cell' (u:=↑r.val.kind) 0 rfl;have q1:=HQ.out.cell' (u:=↑r.val.n) 1 rfl;have q2:=HQ.out.cell' (u:=.string r.val.s) 2 rfl;have q3:=HQ.out.cell' (u:=.slice A2 r.val.kids.length d2) 3 rfl;rw [HF.out];exact bodyPost_ret (v:=.tuple #[.agg #[↑r.val.kind,↑r.val.n,.string r.val.s,.slice A2 r.val.kids.length d2],.int .i64 0]) (by simp [results,Tryz.results50,go_sem,q0,q1,q2,q3]) rfl ⟨_,_,_,_,_,_,rfl,HXQ.out⟩
  ·have hd:(r.stop == -1)=false:=aZw hs
   have HF:=aZv (show wb=false by rw [HWW.out];exact aZz hs);clear hs;have HQ:=aZv ((((HR2.out.set_ 0 (.int .i64 0)).set_ 1 (.int .i64 0)).set_ 2 (.string ⟨#[]⟩)).set_ 3 (.slice none 0 0));have HXQ:=aZv ((((HX3.out.setCell' (p:=⟨w.heap.size+1,0,none⟩) ae (.int .i64 0)).setCell' (p:=⟨w.heap.size+1,1,none⟩) ae (.int .i64 0)).setCell' (p:=⟨w.heap.size+1,2,none⟩) ae (.string ⟨#[]⟩)).setCell' (p:=⟨w.heap.size+1,3,none⟩) ae (.slice none 0 0));go_wp2_with fail;generalize (((W2.setCell ⟨w.heap.size+1,0,none⟩ (.int .i64 0)).setCell ⟨w.heap.size+1,1,none⟩ (.int .i64 0)).setCell ⟨w.heap.size+1,2,none⟩ (.string ⟨#[]⟩)).setCell ⟨w.heap.size+1,3,none⟩ (.slice none 0 0)=W3 at *;have q0:=HQ.out.cell' (u:=.int .i64 0) 0 rfl;have q1:=HQ.out.cell' (u:=.int .i64 0) 1 rfl;have q2:=HQ.out.cell' (u:=.string ⟨#[]⟩) 2 rfl;have q3:=HQ.out.cell' (u:=.slice none 0 0) 3 rfl;rw [HF.out];exact bodyPost_ret (v:=.tuple #[.agg #[.int .i64 0,.int .i64 0,.string ⟨#[]⟩,.slice none 0 0],.int .i64 11]) (by simp [results,Tryz.results50,go_sem,q0,q1,q2,q3]) rfl ⟨_,_,_,_,_,_,rfl,HXQ.out⟩
 ·have hl0:((t.length:Int) == 0)=true:=aZx D
  have HF:=aZv (HW0.out D);have r0:=HR1.out.cell' (u:=.int .i64 0) 0 rfl;have f0:=HR1.out.frozen 0;have r1:=HR1.out.cell' (u:=.int .i64 0) 1 rfl;have f1:=HR1.out.frozen 1;have r2:=HR1.out.cell' (u:=.string ⟨#[]⟩) 2 rfl;have f2:=HR1.out.frozen 2;have r3:=HR1.out.cell' (u:=.slice none 0 0) 3 rfl;have f3:=HR1.out.frozen 3;have HQ:=aZv ((((HR1.out.set_ 0 (.int .i64 0)).set_ 1 (.int .i64 0)).set_ 2 (.string ⟨#[]⟩)).set_ 3 (.slice none 0 0));have HXQ:=aZv ((((HX1.out.setCell' (p:=⟨w.heap.size+1,0,none⟩) ae (.int .i64 0)).setCell' (p:=⟨w.heap.size+1,1,none⟩) ae (.int .i64 0)).setCell' (p:=⟨w.heap.size+1,2,none⟩) ae (.string ⟨#[]⟩)).setCell' (p:=⟨w.heap.size+1,3,none⟩) ae (.slice none 0 0));go_wp2_with fail;generalize (((w1.setCell ⟨w.heap.size+1,0,none⟩ (.int .i64 0)).setCell ⟨w.heap.size+1,1,none⟩ (.int .i64 0)).setCell ⟨w.heap.size+1,2,none⟩ (.string ⟨#[]⟩)).setCell ⟨w.heap.size+1,3,none⟩ (.slice none 0 0)=W3 at *;have q0:=HQ.out.cell' (u:=.int .i64 0) 0 rfl;have q1:=HQ.out.cell' (u:=.int .i64 0) 1 rfl;have q2:=HQ.out.cell' (u:=.string ⟨#[]⟩) 2 rfl
  have q3:=HQ.out.cell' (u:=.slice none 0 0) 3 rfl;rw [HF.out];exact bodyPost_ret (v:=.tuple #[.agg #[.int .i64 0,.int .i64 0,.string ⟨#[]⟩,.slice none 0 0],.int .i64 11]) (by simp [results,Tryz.results50,go_sem,q0,q1,q2,q3]) rfl ⟨_,_,_,_,_,_,rfl,HXQ.out⟩
noncomputable def aN9:=RG Tryz.f52 0
noncomputable def aQ6:=RG Tryz.f52 1
noncomputable def aQ5:=RG Tryz.f52 2
noncomputable def aQ4:=RG Tryz.f52 3
noncomputable def aQ3:=RG Tryz.f52 4
noncomputable def aQ2:=RG Tryz.f52 5
noncomputable def aQ1:=RG Tryz.f52 6
noncomputable def aN8:=RG Tryz.f52 7
noncomputable def aN7:=RG Tryz.f52 8
noncomputable def aVj:=RG Tryz.f52 9
noncomputable def aJq:=RG Tryz.f52 10
noncomputable def aJp:=RG Tryz.f52 11
section
variable {Q:Exit->Act->World->Prop}{a:Act}{w:World}{m k i:Nat}{G n c:Nat}{Al:Option Addr}{vn:Value}{b s kk:Int}
theorem aGv (hsz:a.tmps.size=67)(e0:Ev a (.tmp 0)=.pointer (some ⟨m,0,none⟩))(h1:∀ w',Ext w w'->w'.cell? ⟨m,1,none⟩=some (↑b))(hd:b<s)(hc:∀ w1,Ext w w1->Calls Tryz.prog 16 #[.pointer (some ⟨m,0,none⟩)] w1 fun e w'=>e=.returned (↑s)∧Ext w w')
  (h:∀ a' w',Ext w w'->Ag [0] a a'->Ev a' (.tmp 19)=.bool true->Q .normal a' w'):Code.wp Tryz.prog aN9 Q a w:=by
 conv=>arg 2;whnf
 refine cM (fun w'=>Ext w w') Y Y (Ext.refl w).drew' ?_
 iterate 1 refine q_v rfl rfl (fun w hw=>by simp [execOp,go_sem, *];rfl) ?_
 refine q_c rfl rfl rfl Tryz.func16 ac ac hc O ?_
 iterate 6 refine q_v rfl rfl (fun w hw=>by simp [execOp,go_sem, *];rfl) ?_
 iterate 6 refine q_n rfl rfl rfl O ab rfl ?_
 iterate 1 refine q_v rfl rfl (fun w hw=>by simp [execOp,go_sem, *];rfl) ?_
 exact nD (fun w' hw=>h _ w' hw I O)
theorem aGw (hsz:a.tmps.size=67)(e0:Ev a (.tmp 0)=.pointer (some ⟨m,0,none⟩))(h1:∀ w',Ext w w'->w'.cell? ⟨m,1,none⟩=some (↑b)∧w'.cell? ⟨m,2,none⟩=some (.slice Al n c))(hd:¬ b<s)(hc:∀ w1,Ext w w1->Calls Tryz.prog 16 #[.pointer (some ⟨m,0,none⟩)] w1 fun e w'=>e=.returned (↑s)∧Ext w w')
  (h:∀ a' w',Ext w w'->Ag [0] a a'->Ev a' (.tmp 19)=.bool (decide (256<n))->Q .normal a' w'):Code.wp Tryz.prog aN9 Q a w:=by
 have hd':s<=b:=D
 conv=>arg 2;whnf
 refine cM (fun w'=>Ext w w') Y Y (Ext.refl w).drew' ?_
 iterate 1 refine q_v rfl rfl (fun w hw=>by simp [execOp,go_sem, *];rfl) ?_
 refine q_c rfl rfl rfl Tryz.func16 ac ac hc O ?_
 iterate 6 refine q_v rfl rfl (fun w hw=>by simp [execOp,go_sem,h1 w hw, *];rfl) ?_
 iterate 6 refine q_y rfl rfl rfl O ab rfl (fun w hw=>by simp [execOp,go_sem,h1 w hw, *];rfl) ?_
 iterate 1 refine q_v rfl rfl (fun w hw=>by simp [execOp,go_sem, *];rfl) ?_
 exact nD (fun w' hw=>h _ w' hw I (by simp [*];try omega))
theorem aMn (hsz:a.tmps.size=67)(e0:Ev a (.tmp 0)=.pointer (some ⟨m,0,none⟩))(e3:Ev a (.tmp 3)=↑(i:Int))(h2:w.cell? ⟨m,2,none⟩=some (.slice Al n c))
  (h:∀ a',Ag [0,2,3] a a'->Ev a' (.tmp 26)=.bool (decide (i<n))->Q .normal a' w):Code.wp Tryz.prog aQ4 Q a w:=by
 refine rW ?_
 iterate 7 refine lV ?_
 exact aJ (h _ I O)
theorem aMm {f:Bool}(hsz:a.tmps.size=67)(e0:Ev a (.tmp 0)=.pointer (some ⟨m,0,none⟩))(e3:Ev a (.tmp 3)=↑(i:Int))(hi:i<n)(h2:w.cell? ⟨m,2,none⟩=some (.slice (some ⟨G,0,none⟩) n c))(h3:w.cell? ⟨G,i*6+4,none⟩=some (.bool f))
  (h:∀ a',Ag [0,2,3] a a'->Ev a' (.tmp 37)=.bool (!f)->Q .normal a' w):Code.wp Tryz.prog aQ2 Q a w:=by
 refine rW ?_
 iterate 9 refine lV ?_
 exact aJ (h _ I O)
theorem aMl (hsz:a.tmps.size=67)(e3:Ev a (.tmp 3)=↑(i:Int))(h:∀ a',Ag [0,3] a a'->Ev a' (.tmp 2)=↑(i:Int)->Q .normal a' w):Code.wp Tryz.prog aQ1 Q a w:=by
 refine rW ?_
 iterate 2 refine lV ?_
 exact aJ (h _ I O)
theorem aC6 (hsz:a.tmps.size=67)(e3:Ev a (.tmp 3)=↑(i:Int))(hw:IntKind.i64.wrap ((i:Int)+1)=(i:Int)+1)(h:∀ a',Ag [0,2] a a'->Ev a' (.tmp 3)=.int .i64 ((i+1:Nat):Int)->Q .normal a' w):Code.wp Tryz.prog aQ3 Q a w:=by
 refine rW ?_
 iterate 3 refine lV ?_
 exact aJ (h _ I O)
theorem aMk (hsz:a.tmps.size=67)(e2:Ev a (.tmp 2)=↑kk)(h:∀ a',Ag [0,2] a a'->Ev a' (.tmp 40)=.bool (decide (kk<0))->Q .normal a' w):Code.wp Tryz.prog aN8 Q a w:=by
 refine rW ?_
 iterate 2 refine lV ?_
 exact aJ (h _ I O)
theorem aMj (hsz:a.tmps.size=67)(e0:Ev a (.tmp 0)=.pointer (some ⟨m,0,none⟩))(h2:w.cell? ⟨m,2,none⟩=some (.slice Al n c))(hw:IntKind.i64.wrap ((n:Int) - 1)=(n:Int) - 1)
  (h:∀ a',Ag [0] a a'->Ev a' (.tmp 2)=.int .i64 ((n:Int) - 1)->Q .normal a' w):Code.wp Tryz.prog aN7 Q a w:=by
 refine rW ?_
 iterate 7 refine lV ?_
 exact aJ (h _ I O)
theorem aGu {A1:Option Addr}{c1:Nat}{ve:Value}{xs:List Value}{S:Nat->Prop}(hsz:a.tmps.size=67)(e0:Ev a (.tmp 0)=.pointer (some ⟨m,0,none⟩))(e2:Ev a (.tmp 2)=↑(k:Int))(e4:Ev a (.tmp 4)=.slice none 0 0)(hk:k<=100000)(h1:w.cell? ⟨m,2,none⟩=some ve)(hc:aP6 ve k A1 c1)(hs:Sl w S 6 A1 k xs)(hone:∀ u ∈ xs,u.oneCell'=true)
  (h:∀ a' v5 w5,w5.ownsRow w.heap.size 60 6 v5 k xs->Ext w w5->Ag [0,2] a a'->Ev a' (.tmp 4)=v5->Q .normal a' w5):Code.wp Tryz.prog aJq Q a w:=by
 refine rW ?_
 iterate 6 refine lV ?_
 refine l_v rfl rfl (hc _ _ _ _ _ rfl O O) ?_;refine l_a rfl rfl rfl Tryz.underlying33 Tryz.info60 rfl D (aT w w.heap.size 60 6) hs O ab hone D D (Nat.le_refl _) ?_;intro v5 w5 ho hf hb
 iterate 1 refine lV ?_
 exact aJ (h _ v5 w5 (by simpa using ho) (Fr.none_ext hf) I O)
theorem aGt {A1:Option Addr}{c1 p n base:Nat}{v4 ve:Value}{xs ys:List Value}{S:Nat->Prop}(hsz:a.tmps.size=67)(e0:Ev a (.tmp 0)=.pointer (some ⟨m,0,none⟩))(e2:Ev a (.tmp 2)=↑(k:Int))(e4:Ev a (.tmp 4)=v4)(hw:IntKind.i64.wrap ((k:Int)+1)=(k:Int)+1)(hp:p<=100001)(hn:n<=100000)(hB:base<=w.heap.size)(hm:m<base)(hb0:Blk w m 35 #[vn,↑b,ve])(hc:aP7 ve (k+1) n A1 c1)(hs:Sl w S 6 A1 n ys)(hone:∀ u ∈ ys,u.oneCell'=true)(hown:w.ownsRow base 60 6 v4 p xs)
  (h:∀ a' v5 w5,w5.ownsRow base 60 6 v5 (p+n) (xs ++ ys)->Fr (fun b=>base<=b) w w5->Ag [0] a a'->Q .normal a' (w5.setCell ⟨m,2,none⟩ v5)):Code.wp Tryz.prog aJp Q a w:=by
 have h1:=hb0.cell' (u:=ve) 2 rfl;refine rW ?_
 iterate 8 refine lV ?_
 refine l_v rfl rfl (hc _ _ _ _ _ rfl O O) ?_;refine l_a rfl rfl rfl Tryz.underlying33 Tryz.info60 rfl D hown hs O ab hone D D hB ?_;intro v5 w5 ho hf hb5;have hF:Fr (fun b=>base<=b) w w5:=hf.mono (fun b hb=>hown.block_ge hb.symm);have hb6:=hb0.fr hF D;have q2:=hb6.cell' (u:=ve) 2 rfl;have f2:=hb6.frozen 2;obtain ⟨A5,c5,rfl,-,-,-⟩:=Sl.of_own ho
 iterate 2 refine lV ?_
 refine l_s rfl rfl (by simp [execOp,go_sem, *];rfl) ?_;exact aJ (h _ _ w5 ho hF I)
end
noncomputable abbrev aWy:Code:=.seq (.seq aQ4 (.cond (.tmp 26) .skip (.exit 2))) (.seq (.block 3 (.seq aQ2 (.cond (.tmp 37) aQ1 .skip))) aQ3)
noncomputable abbrev aUr:Code:=.seq aVj (.seq aJq aJp)
noncomputable abbrev aX5:Code:=.seq (.seq aN9 (.cond (.tmp 19) .skip (.exit 0))) (.block 1 (.seq aQ6 (.seq (.seq aQ5 (.block 2 (.loop aWy))) (.seq (.seq aN8 (.cond (.tmp 40) aN7 .skip)) aUr))))
theorem aTr:Tryz.f52.body=some (.block 0 (.loop aX5)):=Y
section
variable {t:List GN}{vn:Value}{b:Int}{L:List GE}{m:Nat}{P:Nat->Prop}{ve:Value}{a a0:Act}{w ws:World}{R:Exit->Act->World->Prop}
def J52 (L:List GE)(a0:Act)(ws:World)(i:Nat)(a:Act)(w:World):Prop :=
 Ag [0] a0 a∧i<=L.length∧Ev a (.tmp 3)=↑(i:Int)∧Ext ws w∧∃ kk:Int,Ev a (.tmp 2)=↑kk∧-1<=kk∧kk<(L.length:Int)∧iS i (if kk<0 then L.length - 1 else kk.toNat) (L.drop i)=nG L
theorem MAt.row (h:MAt t vn b L m P ve w)(h0:0<L.length):∃ G c,ve=.slice (some ⟨G,0,none⟩) L.length c:=by
 obtain ⟨xs,ho,-⟩:=h.own;rcases ho.2 with ⟨_,e2⟩ | ⟨G,cap,cur,e,-⟩
 ·omega
 ·exact ⟨G,cap,e⟩
theorem aTm (h:MAt t vn b L m P ve ws)(hpos:0<L.length)(hsz:a0.tmps.size=67)(e0:Ev a0 (.tmp 0)=.pointer (some ⟨m,0,none⟩))(hI:J52 L a0 ws 0 a w)(hR:∀ a' w',J52 L a0 ws L.length a' w'->R .normal a' w'):Code.wp Tryz.prog (.block 2 (.loop aWy)) R a w:=by
 have hfew:=h.few;refine wp_block (wp_loop (fun a' w'=>∃ i,J52 L a0 ws i a' w') (fun a' _=>L.length - (intOf (Ev a' (.tmp 3))).toNat) ⟨0,hI⟩ ?_);clear hI;rintro a w ⟨i,hG,hi,e3,hE,kk,e2,hk0,hk1,hcf⟩;obtain ⟨G,c,rfl⟩:=h.row hpos;have c2:=aA hE h.cell2;have z1:a.tmps.size=67:=hG.sz.trans hsz;have f0:=hG.get 0 e0;refine wp_seq (wp_seq (aMn z1 f0 e3 c2 ?_));intro a1 g1 e26;have z2:a1.tmps.size=67:=g1.sz.trans z1
 by_cases hlt:i<L.length
 ·obtain ⟨b1,o1,A1,d1,eA,-,-,hgc⟩:=(h.ens.ext hE).get hlt
  injection eA with eA;injection eA with e1 eo _;subst e1 eo;have g4:=hgc 4 _ rfl;rw [Nat.zero_add] at g4;have hD:iS (i+1) (if (L.getD i default).fresh then (if kk<0 then L.length - 1 else kk.toNat) else i) (L.drop (i+1))=nG L:=by rw [<- hcf,aF default hlt];rfl
  have hms:∀ a':Act,Ev a' (.tmp 3)=.int .i64 ((i+1:Nat):Int)->L.length - (intOf (Ev a' (.tmp 3))).toNat<L.length - (intOf (Ev a (.tmp 3))).toNat:=fun a' e=>by
   rw [e,e3];simp [intOf];omega
  generalize (L.getD i default).fresh=yf at *;refine wp_cond_true (e26.trans eq) (wp_skip ?_);refine wp_seq (wp_block (wp_seq (aMm z2 (g1.get 0 f0) (g1.get 3 e3) hlt c2 g4 ?_)));intro a2 g2 e37;have z3:a2.tmps.size=67:=g2.sz.trans z2
  cases yf
  ·refine wp_cond_true e37 (aMl z3 (g2.get 3 (g1.get 3 e3)) ?_)
   intro a3 g3 e2';refine aC6 (g3.sz.trans z3) (g3.get 3 (g2.get 3 (g1.get 3 e3))) (uH D) ?_;intro a4 g4' e3';refine ⟨⟨i+1,((hG.trans (g1.mono rfl)).trans (g2.mono rfl)).trans ((g3.mono rfl).trans (g4'.mono rfl)),hlt,e3',hE,(i:Int),g4'.get 2 e2',D,D,?_⟩,hms _ e3'⟩;rw [if_neg D,Int.toNat_natCast];exact hD
  ·refine wp_cond_false e37 (wp_skip ?_)
   refine aC6 z3 (g2.get 3 (g1.get 3 e3)) (uH D) ?_;intro a4 g4' e3';exact ⟨⟨i+1,(hG.trans (g1.mono rfl)).trans ((g2.mono rfl).trans (g4'.mono rfl)),hlt,e3',hE,kk,g4'.get 2 (g2.get 2 (g1.get 2 e2)),D,D,hD⟩,hms _ e3'⟩
 ·obtain rfl:i=L.length:=by omega
  refine wp_cond_false (e26.trans U) (wp_exit ?_);exact hR _ _ ⟨hG.trans (g1.mono rfl),hi,g1.get 3 e3,hE,kk,g1.get 2 e2,hk0,hk1,hcf⟩
theorem aI5 {k:Nat}(h:MAt t vn b L m P ve w)(hk:k<L.length)(hsz:a.tmps.size=67)(e0:Ev a (.tmp 0)=.pointer (some ⟨m,0,none⟩))(e2:Ev a (.tmp 2)=↑(k:Int))(hR:∀ a' w',Ag [0] a a'->cZ t vn b (L.eraseIdx k) m P ve w w'->R .normal a' w'):Code.wp Tryz.prog aUr R a w:=by
 have hfew:=h.few;obtain ⟨xs,ho,hr⟩:=h.own;have hone:=REn.one hr;obtain ⟨A1,c1,hc1,hs1⟩:=aKz ho (Nat.le_of_lt hk) h.few;obtain ⟨A2,c2,hc2,hs2⟩:=aAi ho (show k+1<=L.length from hk) h.few;refine wp_seq ?_;refine rW ?_
 iterate 1 refine l_v rfl rfl (by simp [execOp,go_sem,hsz];exact ⟨rfl,rfl⟩) ?_
 refine aJ ?_;refine wp_seq (aGu ah (by simp [e0]) (by simp [e2]) ah D h.cell2 hc1 hs1 (fun u hu=>hone u (List.mem_of_mem_take hu)) ?_);intro a5 v5 w5 ho5 hx5 g5 e4;have k5:Ag [0,2] a a5:=Ag.trans I g5;refine aGt (k5.sz.trans hsz) (k5.get 0 e0) (k5.get 2 e2) e4 (uH D) D D hx5.size h.box.lt (h.box.ext hx5) hc2 (hs2.ext hx5) (fun u hu=>hone u (List.mem_of_mem_drop hu)) ho5 ?_;intro a7 v7 w7 ho7 hf7 g7;have hE7:Ext w w7:=((Fr.of_ext hx5).trans hf7).new_ext (fun _ hb=>hb);have hll:(L.eraseIdx k).length=k+(L.length - (k+1)):=by rw [List.length_eraseIdx,if_pos hk];omega
 have hsub:(L.eraseIdx k).Sublist L:=List.eraseIdx_sublist L k;refine hR _ _ ((k5.mono rfl).trans g7) (h.replace hE7 (ho7.len_cast hll.symm rfl) ?_ (List.Pairwise.sublist (hsub.map GE.path) h.inc) D (fun e he=>h.short e (hsub.subset he)));rw [List.eraseIdx_eq_take_drop_succ];have hr':=hr.move fB (aB.of_ext hE7) (fun _ _ h=>h);exact (hr'.take (fB.len w7 P) k).append (hr'.drop (fB.len w7 P) (k+1))
def O52 (t:List GN)(vn:Value)(b:Int)(L:List GE)(m:Nat)(P:Nat->Prop)(ve:Value)(a0:Act)(w:World)(a':Act)(w':World):Prop :=
 Ag [0] a0 a'∧∃ L' v1,MAt t vn b L' m P v1 w'∧Fr (mM m ve) w w'∧(∀ k,v1.ownBlock=some k->ve.ownBlock=some k∨w.heap.size<=k)∧tO b L'=tO b L
theorem aEo (h:MAt t vn b L m P ve w):oZ w ⟨m,2,none⟩=L.length:=by
 obtain ⟨A,c,rfl,-,-⟩:=Lst.form h.ens;unfold oZ;rw [h.cell2]
theorem aTl (h:MAt t vn b L m P ve w)(hsz:a.tmps.size=67)(e0:Ev a (.tmp 0)=.pointer (some ⟨m,0,none⟩))(hQ:∀ a' w',a'.defers=a.defers->cZ t vn b (tO b L) m P ve w w'->R .normal a' w'):Code.wp Tryz.prog (.block 0 (.loop aX5)) R a w:=by
 refine wp_block (wp_loop (O52 t vn b L m P ve a w) (fun _ w'=>oZ w' ⟨m,2,none⟩) ⟨.rf,L,ve,h,Fr.refl _ w,fun _ h=>.inl h,rfl⟩ ?_);clear h;rintro a1 w1 ⟨hG,L1,v1,h,hF,hob,hcu⟩;have hfew:=h.few;have hbI:=h.bI;have z1:a1.tmps.size=67:=hG.sz.trans hsz;have f0:=hG.get 0 e0;obtain ⟨Al,cl,eA,-,-⟩:=Lst.form h.ens;have c2:=h.cell2;rw [eA] at c2;have hby:∀ W,Ext w1 W->Calls Tryz.prog 16 #[.pointer (some ⟨m,0,none⟩)] W fun e w'=>e=.returned (.int .i64 (dF L1))∧Ext w1 w':=fun W hx=>(aBu (h.ext hx)).mono (fun _ _ ⟨q1,q2⟩=>⟨q1,hx.trans' q2⟩)
 have key:∀ a2 w2,Ag [0] a1 a2->Ext w1 w2->(b<dF L1∨256<L1.length)->Code.wp Tryz.prog (.block 1 (.seq aQ6 (.seq (.seq aQ5 (.block 2 (.loop aWy))) (.seq (.seq aN8 (.cond (.tmp 40) aN7 .skip)) aUr)))) (Exit.then (fun a' w'=>O52 t vn b L m P ve a w a' w'∧oZ w' ⟨m,2,none⟩<oZ w1 ⟨m,2,none⟩) (Exit.inBlock 0 R)) a2 w2:=by
  intro a2 w2 g2 hx2 hc;have z2:a2.tmps.size=67:=g2.sz.trans z1
  have hpos:0<L1.length:=by
   rcases hc with h1 | h1
   ·cases L1 with
    | nil=>simp [dF] at h1;omega
    | cons _ _=>simp
   ·omega
  have h2:=h.ext hx2;have hkl:=aAl hpos
  have fin:∀ a3 w3,Ag [0] a2 a3->Ext w2 w3->Ev a3 (.tmp 2)=.int .i64 ((nG L1:Nat):Int)->Code.wp Tryz.prog aUr (Exit.inBlock 1 (Exit.then (fun a' w'=>O52 t vn b L m P ve a w a' w'∧oZ w' ⟨m,2,none⟩<oZ w1 ⟨m,2,none⟩) (Exit.inBlock 0 R))) a3 w3:=by
   intro a3 w3 g3 hx3 e2;refine aI5 (h2.ext hx3) hkl (g3.sz.trans z2) (g3.get 0 (g2.get 0 f0)) e2 ?_;intro a4 w4 g4 hA;obtain ⟨v4,q1,q2,q3⟩:=cZ.trans (L1:=L1) (hF.trans (Fr.of_ext (hx2.trans' hx3))) (fun k hk=>(hob k hk)) hA;refine ⟨⟨(hG.trans g2).trans (g3.trans g4),_,v4,q1,q2,q3,?_⟩,?_⟩
   ·rw [<- hcu,<- wP hc hpos]
   ·rw [aEo q1,aEo h,List.length_eraseIdx,if_pos hkl]
    omega
  refine wp_block (wp_seq ?_);refine rW ?_
  iterate 1 refine l_v rfl rfl (by simp [execOp,go_sem,z2];exact ⟨rfl,rfl⟩) ?_
  refine aJ (wp_seq (wp_seq ?_));refine rW ?_
  iterate 1 refine l_v rfl rfl (by simp [execOp,go_sem,z2];exact ⟨rfl,rfl⟩) ?_
  refine aJ ?_;refine aTm (a0:=a2) h2 hpos z2 (g2.get 0 f0) ⟨I,Nat.zero_le _,gv,Ext.refl _,-1,gv,D,D,rfl⟩ ?_;rintro a3 w3 ⟨g3,-,-,hx3,kk,e2,hk0,hk1,hcf⟩;rw [drop_nil (Nat.le_refl _)] at hcf;have z3:a3.tmps.size=67:=g3.sz.trans z2;refine wp_seq (wp_seq (aMk z3 e2 ?_));intro a4 g4 e40;have z4:a4.tmps.size=67:=g4.sz.trans z3
  by_cases hneg:kk<0
  ·rw [if_pos hneg] at hcf
   have hcf:L1.length - 1=nG L1:=hcf;refine wp_cond_true (e40.trans (by rw [aZy hneg])) (aMj z4 (g4.get 0 (g3.get 0 (g2.get 0 f0))) (aA hx3 (aA hx2 c2)) (IntWalk.i64_in _ D) ?_);intro a5 g5 e2';exact fin _ _ (g3.trans ((g4.mono rfl).trans g5)) hx3 (e2'.trans (by rw [<- hcf];congr 1;omega))
  ·rw [if_neg hneg] at hcf
   have hcf:kk.toNat=nG L1:=hcf;refine wp_cond_false (e40.trans (by rw [aZz hneg])) (wp_skip ?_);exact fin _ _ (g3.trans (g4.mono rfl)) hx3 ((g4.get 2 e2).trans (by rw [<- hcf];congr 1;omega))
 by_cases hb:b<dF L1
 ·refine wp_seq (wp_seq (aGv z1 f0 (fun w' hw=>aA hw h.cell1) hb hby ?_))
  intro a2 w2 hx2 g2 e19;exact wp_cond_true e19 (wp_skip (key _ _ g2 hx2 (.inl hb)))
 ·refine wp_seq (wp_seq (aGw z1 f0 (fun w' hw=>⟨aA hw h.cell1,aA hw c2⟩) hb hby ?_))
  intro a2 w2 hx2 g2 e19
  by_cases hl:256<L1.length
  ·exact wp_cond_true (e19.trans (by rw [aZy hl])) (wp_skip (key _ _ g2 hx2 (.inr hl)))
  ·refine wp_cond_false (e19.trans (by rw [aZz hl])) (wp_exit ?_)
   refine hQ _ _ (g2.df.trans hG.df) ⟨v1,?_,hF.trans (Fr.of_ext hx2),hob⟩;rw [<- hcu];unfold tO;rw [aAk D];exact h.ext hx2
theorem zU (h:MAt t vn b L m P ve w):Calls Tryz.prog 52 #[.pointer (some ⟨m,0,none⟩)] w fun e w'=>e=.returned (.tuple #[])∧cZ t vn b (tO b L) m P ve w w':=by
 refine calls_of_wp Tryz.func52 aTr (aTl h ?_ ?_ ?_)
 ·simp [Tryz.ntmps52]
 ·simp [Ev,Act.eval]
 ·intro a' w' h1 h3
  exact ⟨h1,.tuple #[],by simp [results,Tryz.results52,go_sem],rfl,h3⟩
end
noncomputable def aSo:=RG Tryz.f14 0
noncomputable def aSn:=RG Tryz.f14 1
noncomputable def aSm:=RG Tryz.f14 2
noncomputable def aSl:=RG Tryz.f14 3
noncomputable def aSk:=RG Tryz.f14 4
noncomputable def aSj:=RG Tryz.f14 5
noncomputable def aSi:=RG Tryz.f14 6
noncomputable def aSh:=RG Tryz.f14 7
noncomputable def aSg:=RG Tryz.f14 8
section
variable {Q:Exit->Act->World->Prop}{a:Act}{w:World}{m:Nat}{vn vp:Value}{R:World->Prop}
theorem aN4 {k x c:Int}(hsz:a.tmps.size=38)(e2:Ev a (.tmp 2)=.agg #[↑k,↑x,↑c])
  (h:∀ a',Ag [0,1,3] a a'->Ev a' (.tmp 6)=.pointer (some ⟨w.heap.size,0,none⟩)->Q .normal a' (w.alloc (.cells #[↑k,↑x,↑c] 41))):Code.wp Tryz.prog aSo Q a w:=by
 refine rW ?_
 iterate 3 refine lV ?_
 exact aJ (h _ I O)
theorem aN3 {n:Int}(hsz:a.tmps.size=38)(e0:Ev a (.tmp 0)=.pointer (some ⟨m,0,none⟩))(e1:Ev a (.tmp 1)=vp)(c0:w.cell? ⟨m,0,none⟩=some vn)(hc:Calls Tryz.prog 50 #[.agg #[vn],vp] w (aUb n w))
  (h:∀ a' w',Ag [0,1,3,6] a a'->Ev a' (.tmp 11)=↑n->Ext w w'->Q .normal a' w'):Code.wp Tryz.prog aSn Q a w:=by
 refine rW ?_
 iterate 5 refine lV ?_
 refine l_c rfl rfl rfl Tryz.func50 ac ac hc O ?_;rintro e w1 ⟨k,z,s,A,m,c,rfl,hx⟩;refine ⟨_,rfl,?_⟩
 iterate 4 refine lV ?_
 have hB:=Blk.new w1 85 #[.int .i64 0,.int .i64 0,.string ⟨#[]⟩,.slice none 0 0];have hX:Ext w1 (w1.alloc (.cells #[.int .i64 0,.int .i64 0,.string ⟨#[]⟩,.slice none 0 0] 85)):=(Ext.refl w1).alloc' _;generalize w1.alloc (.cells #[.int .i64 0,.int .i64 0,.string ⟨#[]⟩,.slice none 0 0] 85)=W at *;obtain ⟨q0,q1,q2,q3⟩:=aU hB;have f0:=hB.frozen 0;have f1:=hB.frozen 1;have f2:=hB.frozen 2;have f3:=hB.frozen 3;refine l_s rfl rfl (by simp [execOp,go_sem, *];rfl) ?_
 iterate 1 refine lV ?_
 refine aJ (h _ _ I O ?_);exact hx.trans' ((((hX.setCell' (p:=⟨w1.heap.size,0,none⟩) (Nat.le_refl _) _).setCell' (p:=⟨w1.heap.size,1,none⟩) (Nat.le_refl _) _).setCell' (p:=⟨w1.heap.size,2,none⟩) (Nat.le_refl _) _).setCell' (p:=⟨w1.heap.size,3,none⟩) (Nat.le_refl _) _)
theorem aDa {n:Int}{b:Bool}(hsz:a.tmps.size=38)(e11:Ev a (.tmp 11)=↑n)(hn:(n != 0)=b)
  (h:∀ a',Ag [0,1,3,6] a a'->Ev a' (.tmp 23)=.bool b->Q .normal a' w):Code.wp Tryz.prog aSm Q a w:=by
 refine rW ?_
 iterate 2 refine lV ?_
 exact aJ (h _ I (by simp [<- hn,hsz,bne]))
theorem aN1 {A:Option Addr}{n c g:Nat}{k x cc:Int}{f b:Bool}(hsz:a.tmps.size=38)(e0:Ev a (.tmp 0)=.pointer (some ⟨m,0,none⟩))(e1:Ev a (.tmp 1)=.slice A n c)(e3:Ev a (.tmp 3)=.bool f)(e6:Ev a (.tmp 6)=.pointer (some ⟨g,0,none⟩))
  (hB:Blk w g 41 #[↑k,↑x,↑cc])(hc:Calls Tryz.prog 51 #[.pointer (some ⟨m,0,none⟩),.agg #[.slice A n c,↑k,↑x,↑cc,.bool f,.int .i64 1]] w (fun e w'=>e=.returned (.bool b)∧R w'))
  (h:∀ a' w',R w'->Ag [0,1] a a'->Ev a' (.tmp 12)=.bool b->Q .normal a' w'):Code.wp Tryz.prog aSk Q a w:=by
 have c0:=hB.cell' 0 rfl;have c1:=hB.cell' 1 rfl;have c2:=hB.cell' 2 rfl;refine rW ?_
 iterate 5 refine lV ?_
 refine l_c rfl rfl rfl Tryz.func51 ac ac hc O ?_;rintro e w' ⟨rfl,hR⟩;refine ⟨_,rfl,?_⟩
 iterate 1 refine lV ?_
 exact aJ (h _ _ hR I O)
theorem aN0 {b:Bool}(hsz:a.tmps.size=38)(e12:Ev a (.tmp 12)=.bool b)
  (h:∀ a',Ag [0,1] a a'->Ev a' (.tmp 31)=.bool (!b)->Q .normal a' w):Code.wp Tryz.prog aSj Q a w:=by
 refine rW ?_
 iterate 2 refine lV ?_
 exact aJ (h _ I O)
theorem aNy {v:Value}(hsz:a.tmps.size=38)(e0:Ev a (.tmp 0)=.pointer (some ⟨m,0,none⟩))(hc:Calls Tryz.prog 52 #[.pointer (some ⟨m,0,none⟩)] w (fun e w'=>e=.returned v∧R w'))
  (h:∀ a' w',R w'->Ag [0,1] a a'->Q .normal a' w'):Code.wp Tryz.prog aSh Q a w:=by
 refine rW ?_
 iterate 1 refine lV ?_
 refine l_c rfl rfl rfl Tryz.func52 ac ac hc O ?_;rintro e w' ⟨rfl,hR⟩;exact ⟨_,rfl,aJ (h _ _ hR I)⟩
theorem aNx {z:Int}(hsz:a.tmps.size=38)(e0:Ev a (.tmp 0)=.pointer (some ⟨m,0,none⟩))(e1:Ev a (.tmp 1)=vp)(hc:Calls Tryz.prog 20 #[.pointer (some ⟨m,0,none⟩),vp] w (cT (↑z) w))
  (h:∀ a' w',Ext w w'->Ag [0,1] a a'->Ev a' (.tmp 8)=.bool (decide (0<=z))->Ev a' (.tmp 9)=.int .i64 0->Q .normal a' w'):Code.wp Tryz.prog aSg Q a w:=by
 refine rW ?_
 iterate 2 refine lV ?_
 refine l_c rfl rfl rfl Tryz.func20 ac ac hc O ?_;rintro e w' ⟨rfl,hx⟩;refine ⟨_,rfl,?_⟩
 iterate 3 refine lV ?_
 exact aJ (h _ _ hx I O O)
theorem aN2 (hsz:a.tmps.size=38)(h:∀ a',Ag [] a a'->Ev a' (.tmp 8)=.bool false->Ev a' (.tmp 9)=.int .i64 11->Q .normal a' w):Code.wp Tryz.prog aSl Q a w:=by
 refine rW ?_
 iterate 2 refine lV ?_
 exact aJ (h _ I O O)
theorem aNz (hsz:a.tmps.size=38)(h:∀ a',Ag [] a a'->Ev a' (.tmp 8)=.bool false->Ev a' (.tmp 9)=.int .i64 0->Q .normal a' w):Code.wp Tryz.prog aSi Q a w:=by
 refine rW ?_
 iterate 2 refine lV ?_
 exact aJ (h _ I O O)
end
noncomputable abbrev aK9:Code:=.seq aSo (.seq aSn (.seq (.seq aSm (.cond (.tmp 23) (.seq aSl .ret) .skip)) (.seq aSk (.seq (.seq aSj (.cond (.tmp 31) (.seq aSi .ret) .skip)) (.seq aSh (.seq aSg .ret))))))
theorem aT0:Tryz.f14.body=some aK9:=Y
section
variable {t:List GN}{vn vp:Value}{b:Int}{L:List GE}{m:Nat}{P:Nat->Prop}{ve:Value}{a:Act}{w:World}{R:Exit->Act->World->Prop}{path:List Int}{k x c:Int}{f:Bool}
theorem aOx (h:MAt t vn b L m P ve w)(hd:RdT t path)(hvl:∀ x ∈ t,x.values.length<=1000000)(hp:bM w P vp path)(hk:I64 k)(hx:I64 x)(hc:I64 c)(hfew:L.length+1<=100000)(hpl:path.length<=1000)
  (hsz:a.tmps.size=38)(e0:Ev a (.tmp 0)=.pointer (some ⟨m,0,none⟩))(e1:Ev a (.tmp 1)=vp)(e2:Ev a (.tmp 2)=.agg #[↑k,↑x,↑c])(e3:Ev a (.tmp 3)=.bool f)
  (hR:∀ a' w',a'.defers=a.defers->Ev a' (.tmp 8)=.bool (uF (aQ t) b L (mkE path k x c f))->Ev a' (.tmp 9)=.int .i64 (aAt (aQ t) (mkE path k x c f))->cZ t vn b (pX (aQ t) b L (mkE path k x c f)) m P ve w w'->R .ret a' w'):Code.wp Tryz.prog aK9 R a w:=by
 refine wp_seq (aN4 hsz e2 ?_);intro a1 g1 e6;have hB:=Blk.new w 41 #[↑k,↑x,↑c];have hX:Ext w (w.alloc (.cells #[↑k,↑x,↑c] 41)):=(Ext.refl w).alloc' _;generalize w.alloc (.cells #[↑k,↑x,↑c] 41)=W at *;have z1:a1.tmps.size=38:=g1.sz.trans hsz;refine wp_seq (aN3 (vp:=vp) z1 (g1.get 0 e0) (g1.get 1 e1) (h.ext hX).cell0 (aCo t path P vn vp W hd (fun i hi=>Nat.lt_of_lt_of_le (h.lt i hi) hX.size) hvl (h.ext hX).tree (hp.ext hX)) ?_);intro a2 w2 g2 e11 hx2;have hE:=hX.trans' hx2;have z2:a2.tmps.size=38:=g2.sz.trans z1
 cases hw:aQ t path with
 | false =>
  rw [hw] at e11;refine wp_seq (wp_seq (aDa (b:=true) z2 e11 (by simp [aWz]) ?_));intro a3 g3 e23;refine wp_cond_true e23 (wp_seq (aN2 (g3.sz.trans z2) ?_));intro a4 g4 e8 e9;refine wp_ret (hR a4 w2 (g4.df.trans (g3.df.trans (g2.df.trans g1.df))) ?_ ?_ ?_)
  ·rw [e8];simp [uF,mkE,hw]
  ·rw [e9];simp [aAt,mkE,hw]
  ·have:pX (aQ t) b L (mkE path k x c f)=L:=by simp [pX,mkE,hw]
   rw [this];exact cZ.none h hE
 | true =>
  rw [hw] at e11;refine wp_seq (wp_seq (aDa (b:=false) z2 e11 (by simp [aWz]) ?_));intro a3 g3 e23;have z3:a3.tmps.size=38:=g3.sz.trans z2;refine wp_cond_false e23 (wp_skip ?_);obtain ⟨A,cc,rfl,hp1,hp2⟩:=hp.form;have hp':=hp.ext hE;have h2:=h.ext hE;refine wp_seq (aN1 z3 (g3.get 0 (g2.get 0 (g1.get 0 e0))) (g3.get 1 (g2.get 1 (g1.get 1 e1))) (g3.get 3 (g2.get 3 (g1.get 3 e3))) (g3.get 6 (g2.get 6 e6)) (hB.ext hx2) (aD6 (x:=mkE path k x c f) h2 ⟨hp',hk,hx,hc,by simp [mkE,I64]⟩ hfew hpl) ?_);intro a4 w4 hA4 g4 e12;have z4:a4.tmps.size=38:=g4.sz.trans z3;have hA:=cZ.of_ext hE hA4;refine wp_seq (wp_seq (aN0 z4 e12 ?_));intro a5 g5 e31;have z5:a5.tmps.size=38:=g5.sz.trans z4;have d5:a5.defers=a.defers:=g5.df.trans (g4.df.trans (g3.df.trans (g2.df.trans g1.df)));have e05:=g5.get 0 (g4.get 0 (g3.get 0 (g2.get 0 (g1.get 0 e0))));have e15:=g5.get 1 (g4.get 1 (g3.get 1 (g2.get 1 (g1.get 1 e1))))
  cases hh:fG (mkE path k x c f).path L with
  | true =>
   rw [hh] at e31;refine wp_cond_true e31 (wp_seq (aNz z5 ?_));intro a6 g6 e8 e9;refine wp_ret (hR a6 w4 (g6.df.trans d5) ?_ ?_ ?_)
   ·rw [e8];simp [uF,hh]
   ·rw [e9];simp [aAt,mkE,hw]
   ·have:pX (aQ t) b L (mkE path k x c f)=dE L (mkE path k x c f):=by
     unfold pX;rw [if_pos (show aQ t (mkE path k x c f).path=true from hw),if_pos hh]
    rw [this];exact hA
  | false =>
   rw [hh] at e31;refine wp_cond_false e31 (wp_skip ?_);obtain ⟨v4,m4,f4,b4⟩:=hA;refine wp_seq (aNy z5 e05 (zU m4) ?_);intro a6 w6 hC g6;have z6:a6.tmps.size=38:=g6.sz.trans z5;have hF:=cZ.trans (L1:=L) f4 b4 hC;obtain ⟨v6,m6,f6,b6⟩:=hF
   have hpw:bM w6 P (.slice A path.length cc) path:=hp.carry (fun i hi hP=>f6.block i hi (fun hm=>by
    have h7:=h.excl i hP;rcases hm with hm | hm
    ·exact h7.1 hm
    ·exact h7.2 hm)) (fun _ _ h=>h)
   refine wp_seq (aNx z6 (g6.get 0 e05) (g6.get 1 e15) (tJ m6 hpw) ?_);intro a7 w7 hx7 g7 e8 e9
   have hE2:pX (aQ t) b L (mkE path k x c f)=tO b (dE L (mkE path k x c f)):=by
    unfold pX;rw [if_pos (show aQ t (mkE path k x c f).path=true from hw),if_neg (by rw [hh];simp)]
   refine wp_ret (hR a7 w7 (g7.df.trans (g6.df.trans d5)) ?_ ?_ ?_)
   ·rw [e8,wJ]
    unfold uF;rw [if_pos (show aQ t (mkE path k x c f).path=true from hw),if_neg (by rw [hh];simp)]
    rfl
   ·rw [e9];simp [aAt,mkE,hw]
   ·rw [hE2]
    exact cZ.ext ⟨v6,m6,f6,b6⟩ hx7
theorem aId (h:MAt t vn b L m P ve w)(hd:RdT t path)(hvl:∀ x ∈ t,x.values.length<=1000000)(hp:bM w P vp path)(hk:I64 k)(hx:I64 x)(hc:I64 c)(hfew:L.length+1<=100000)(hpl:path.length<=1000) :
  Calls Tryz.prog 14 #[.pointer (some ⟨m,0,none⟩),vp,.agg #[↑k,↑x,↑c],.bool f] w fun e w'=>e=.returned (.tuple #[.bool (uF (aQ t) b L (mkE path k x c f)),.int .i64 (aAt (aQ t) (mkE path k x c f))])∧cZ t vn b (pX (aQ t) b L (mkE path k x c f)) m P ve w w':=by
 refine calls_of_wp Tryz.func14 aT0 (aOx (f:=f) h hd hvl hp hk hx hc hfew hpl ?_ ?_ ?_ ?_ ?_ ?_)
 ·simp [Tryz.ntmps14]
 ·simp [Ev,Act.eval]
 ·simp [Ev,Act.eval]
 ·simp [Ev,Act.eval]
 ·simp [Ev,Act.eval]
 ·intro a' w' h1 h2 h3 h4
  refine bodyPost_ret (v:=.tuple #[.bool (uF (aQ t) b L (mkE path k x c f)),.int .i64 (aAt (aQ t) (mkE path k x c f))]) ?_ h1 ⟨rfl,h4⟩;have h5:a'.tmps[8]?.getD undef=.bool (uF (aQ t) b L (mkE path k x c f)):=by rw [<- h2];simp [Ev,Act.eval]
  have h6:a'.tmps[9]?.getD undef=.int .i64 (aAt (aQ t) (mkE path k x c f)):=ey
  simp [results,Tryz.results14,go_sem,h5,h6]
end
section
variable {ops:Array Oper}{Q:Exit->Act->World->Prop}{a:Act}{w w1:World}{rest:List Oper}{o:Oper}{d gd j:Nat}{v:Value}{want b:Bool}
theorem l_y (hg:o.guard=some (j,want))(hj:(ops[j]?).bind (fun x=>x.dst)=some gd)(hd:o.dst=some d)(hs:gd<a.tmps.size)(he:Ev a (.tmp gd)=.bool b)(hb:(b == want)=true)(hrun:(execOp (Ev a) o).run Tryz.prog w=.ok (.value v) w1)(h:WL ops Q rest (Pt a d v) w1):WL ops Q (o :: rest) a w:=aO0 d v gd hg hj hs he hb hd hrun h
theorem l_n (hg:o.guard=some (j,want))(hj:(ops[j]?).bind (fun x=>x.dst)=some gd)(hd:o.dst=some d)(hs:gd<a.tmps.size)(he:Ev a (.tmp gd)=.bool b)(hb:(b == want)=false)(h:WL ops Q rest (Pt a d undef) w):WL ops Q (o :: rest) a w:=aTb d gd hg hj hs he hb hd h
theorem aY5 {f:FuncId}{xs:Array Operand}{ats:Array TypeId}{fn:Func}{vs:Array Value}{R:Ending->World->Prop}(hg:o.guard=some (j,want))(hj:(ops[j]?).bind (fun x=>x.dst)=some gd)(hd:o.dst=some d)(hs:gd<a.tmps.size)(he:Ev a (.tmp gd)=.bool b)(hb:(b == want)=true)(hop:o.op=Op.call { callee:=Callee.value (Operand.func f),args:=xs,argTypes:=ats })(hf:Tryz.prog.funcs[f]?=some fn)(hn:(fn.name == "runtime.NumGoroutine")=false) (hbn:fn.body.isNone=false)
  (hc:Calls Tryz.prog f vs w R)(hv:xs.map (Ev a)=vs)(h:∀ e w',R e w'->∃ v,e=.returned v∧WL ops Q rest (Pt a d v) w'):WL ops Q (o :: rest) a w :=
 aEq d gd hg hj hs he hb hd f xs ats hop fn hf hn hbn vs hv (hc.mono h)
end
theorem xJ {t:List GN}{i:Nat}(h:bD t i){j:Nat}(hj:j<i):(t.getD j default).weights.length<=256∧(t.getD j default).labels.length<=256:=by
 have hn:=(h.at_ hj).node;generalize t.getD j default=x at *;have hu:=hn.unused;unfold fW unA unB unC at hu;simp only [Bool.and_eq_true,Bool.not_eq_true',Bool.or_eq_false_iff,Bool.and_eq_false_imp,Bool.or_eq_true,decide_eq_false_iff_not,decide_eq_true_eq,Bool.not_eq_false'] at hu
 by_cases h2:x.kind=2
 ·have hc:=hn.choice h2
  rcases hc.2.2.2 with h3 | h3 <;> omega
 ·have h3:=hu.1.2.1 h2
  omega
theorem fL.m {t:List GN}(h:fL t):∀ x ∈ t,fH x:=by
 intro x hx;obtain ⟨j,hj,rfl⟩:=List.getElem_of_mem hx;have hg:=dW.1 h.good;have e:t.getD j default=t[j]:=by simp [hj]
 have h1:=xJ hg hj;have h2:=eZ hg hj;rw [e] at h1 h2;have h3:=h.small _ (List.getElem_mem hj);exact ⟨D,D,D,D,h3.2.2.2.2.1,h3.2.2.2.2.2⟩
def aZs (t:List GN)(n1 vn:Value)(b:Int)(Lc Lm:List GE)(g:CA)(m:Nat)(S:Nat->Prop)(B:Nat)(w:World):Prop :=
 ∃ P1 v1 vm,nZ t n1 b Lc g P1 v1 B w∧MAt t vn b Lm m S vm w∧(∀ k,mM m vm k->B<=k)∧(∀ k,S k∨mM m vm k->¬ g.M v1 k)∧∀ k,P1 k∨g.M v1 k->¬ mM m vm k
section
variable {t:List GN}{n1 vn:Value}{b:Int}{Lc Lm L:List GE}{g:CA}{m:Nat}{S:Nat->Prop}{B:Nat}{w w':World}
structure aZc (S:Nat->Prop)(B:Nat)(w w':World):Prop where
 fr:Fr (fun k=>B<=k) w w'
 keep:aB S w w'
end
end Go.Proofs.YtkoeecdjijfjnaaGreat
