/- Contracts of functions. Conditions: none. -/
import Derived.Test.YtkoeecdjijfjnaaGreatTA
import Derived.Test.YtkoeecdjijfjnaaGreatSH
import Derived.Test.YtkoeecdjijfjnaaGreatL4
set_option maxRecDepth 100000
set_option maxHeartbeats 8000000
namespace Go.Proofs.YtkoeecdjijfjnaaGreat
open Go.RowKit
noncomputable def aS3:=RG Tryz.f17 0
noncomputable def aS2:=RG Tryz.f17 1
noncomputable def aS1:=RG Tryz.f17 2
noncomputable def aS0:=RG Tryz.f17 3
noncomputable def aSz:=RG Tryz.f17 4
noncomputable def aSy:=RG Tryz.f17 5
noncomputable def aSx:=RG Tryz.f17 6
noncomputable def aSw:=RG Tryz.f17 7
noncomputable def aSv:=RG Tryz.f17 8
variable {Q:Exit->Act->World->Prop}{a:Act}{w:World}
noncomputable abbrev aW8:Code:=.seq (.seq aSz (.cond (.tmp 14) .skip (.exit 0))) (.seq (.block 1 (.seq aSx (.cond (.tmp 67) (.seq aSw .ret) .skip))) aSy)
noncomputable abbrev aU4:Code:=.seq aS3 (.seq (.seq aS2 (.cond (.tmp 10) (.seq aS1 .ret) .skip)) (.seq (.seq aS0 (.block 0 (.loop aW8))) (.seq aSv .ret)))
def I17 (L:List GE)(a0:Act)(ws:World)(k:Nat)(a:Act)(w:World):Prop:=Ag [0,1] a0 a∧k<=L.length∧Ev a (.tmp 5)=↑(k:Int)∧Ext ws w
theorem aBo {t:List GN}{path:List Int}(h:bD t t.length)(hpl:path.length<=1000000)(h0:0<t.length):aO t path=decide ((bE t path).stop=-1):=by
 have hf:=aEk h path hpl t.length (t.length - 1) 0 true U U U U;have hr:=tM h path hpl t.length (t.length - 1) 0 U U U U;rw [show (((t.length - 1:Nat)):Int)=(t.length:Int) - 1 by omega] at hf hr;unfold aO bE;generalize aR t path t.length ((t.length:Int) - 1) 0=s at *;generalize iM t path t.length ((t.length:Int) - 1) 0 true=r at *;have hu:=hr.usedP;rw [show decide (0<t.length)=true from aYo h0,Bool.true_and]
 by_cases hs:s.stop=-1
 ·obtain ⟨-,y2,y3⟩:=hf.yes rfl hs
  rw [y3,y2,Bool.true_and]
  by_cases hl:s.used<path.length
  ·rw [if_pos ⟨hs,hl⟩]
   simp;omega
  ·rw [if_neg (fun h=>hl h.2),hs]
   simp;omega
 ·rw [hf.no rfl hs,if_neg (fun h=>hs h.1)]
  simp [hs]
def aQq (n:Int)(w:World)(e:Ending)(w':World):Prop:=∃ k z s A m c,e=.returned (.tuple #[.agg #[.int .i64 k,.int .i64 z,.string s,.slice A m c],↑n])∧Ext w w'
def aTe (b:Bool):Int:=if b then 0 else 11
theorem aC7 (t:List GN)(path:List Int)(P:Nat->Prop)(vn vp:Value)(w:World)(hd:RdT t path)(hP:∀ b,P b->b<w.heap.size)(hvl:∀ x ∈ t,x.values.length<=1000000)(ht:Nds w P vn t)(hvp:aU w P vp path) :
  Calls Tryz.prog 50 #[.agg #[vn],vp] w (aQq (aTe (aO t path)) w):=by
 have HVA:=aYl (fun (W:World) (hx:Ext w W)=>(fI.2 hd.good) ▸ jS t P vn W (ht.ext hx) hvl);have HRD:=aYl (fun (W:World) (hx:Ext w W) (h0:0<t.length)=>oK t path P vn vp W hd h0 (fun b hb=>Nat.lt_of_lt_of_le (hP b hb) hx.size) (ht.ext hx) (hvp.ext hx));have HWR:=aYl (fun h0=>aBo hd.good hd.path h0);have HW0:=aYl (show t.length=0->aO t path=false from fun h=>by unfold aO;simp [h]);obtain ⟨An,cn,en,hn1,hn2⟩:=ht.form;subst en;obtain ⟨Ap,cp,ep,hp1,hp2⟩:=hvp.form;subst ep;clear hd hP hvl ht hvp;generalize aO t path=wb at *;generalize bE t path=r at *;go_enter Tryz.func50,Tryz.ntmps50;go_upto_region 1 with fail;have HE:=aYl (show Ext w ((w.alloc (.cells #[.slice An t.length cn] 25)).alloc (.cells #[.int .i64 0,.int .i64 0,.string ⟨#[]⟩,.slice none 0 0] 85)) from ((Ext.refl w).alloc' _).alloc' _);have HB:=aYl ((Blk.new w 25 #[.slice An t.length cn]).alloc (.cells #[.int .i64 0,.int .i64 0,.string ⟨#[]⟩,.slice none 0 0] 85));have HRES:=aYl (Blk.new' (w.alloc (.cells #[.slice An t.length cn] 25)) 85 #[.int .i64 0,.int .i64 0,.string ⟨#[]⟩,.slice none 0 0] (g:=w.heap.size+1) Y);generalize hW:(w.alloc (.cells #[.slice An t.length cn] 25)).alloc (.cells #[.int .i64 0,.int .i64 0,.string ⟨#[]⟩,.slice none 0 0] 85)=W at *
 clear hW;have y0:=HB.out.cell' (u:=.slice An t.length cn) 0 rfl;go_wp2_with fail;refine (HVA.out W HE.out).mono ?_;rintro e w1 ⟨rfl,hx1⟩;have HX1:=aYl (HE.out.trans' hx1);have HB1:=aYl (HB.out.ext hx1);have HR1:=aYl (HRES.out.ext hx1);have y1:=HB1.out.cell' (u:=.slice An t.length cn) 0 rfl;clear hx1 y0
 by_cases hne:0<t.length
 ·have hl0:((t.length:Int) == 0)=false:=aYm U
  have HWW:=aYl (HWR.out hne);go_wp2_with fail;refine (HRD.out w1 HX1.out hne).mono ?_;rintro e w2 ⟨A2,d2,sv,rfl,-,⟨A3,m3,c3,rfl⟩,hx2⟩;have HX2:=aYl (HX1.out.trans' hx2);have HR2:=aYl ((HR1.out.ext hx2).alloc (.cells (cR r A2 d2 (.slice A3 m3 c3)) 154));have HBR:=aYl (Blk.new w2 154 (cR r A2 d2 (.slice A3 m3 c3)));have HX3:=aYl (HX2.out.alloc' (.cells (cR r A2 d2 (.slice A3 m3 c3)) 154));clear hx2 y1;go_upto_region 7 with fail;generalize hW:w2.alloc (.cells (cR r A2 d2 (.slice A3 m3 c3)) 154)=W2 at *;clear hW;have r0:=HR2.out.cell' (u:=.int .i64 0) 0 rfl;have f0:=HR2.out.frozen 0;have r1:=HR2.out.cell' (u:=.int .i64 0) 1 rfl;have f1:=HR2.out.frozen 1;have r2:=HR2.out.cell' (u:=.string ⟨#[]⟩) 2 rfl;have f2:=HR2.out.frozen 2;have r3:=HR2.out.cell' (u:=.slice none 0 0) 3 rfl;have f3:=HR2.out.frozen 3;have b0:=HBR.out.cell' (u:=↑r.val.kind) 0 rfl;have b1:=HBR.out.cell' (u:=↑r.val.n) 1 rfl;have b2:=HBR.out.cell' (u:=.string r.val.s) 2 rfl;have b3:=HBR.out.cell' (u:=.slice A2 r.val.kids.length d2) 3 rfl;have b5:=HBR.out.cell' (u:=↑r.stop) 5 rfl
  by_cases hs:r.stop=-1
  ·have hd:(r.stop == -1)=true:=aYn hs
   have HF:=aYl (show wb=true by rw [HWW.out];exact aYo hs);clear hs;have q:=(((HR2.out.set_ 0 (↑r.val.kind)).set_ 1 (↑r.val.n)).set_ 2 (.string r.val.s)).set_ 3 (.slice A2 r.val.kids.length d2);have HQ:=aYl q;clear q;have HXQ:=aYl ((((HX3.out.setCell' (p:=⟨w.heap.size+1,0,none⟩) ae (↑r.val.kind)).setCell' (p:=⟨w.heap.size+1,1,none⟩) ae (↑r.val.n)).setCell' (p:=⟨w.heap.size+1,2,none⟩) ae (.string r.val.s)).setCell' (p:=⟨w.heap.size+1,3,none⟩) ae (.slice A2 r.val.kids.length d2));go_wp2_with fail;generalize (((W2.setCell ⟨w.heap.size+1,0,none⟩ (↑r.val.kind)).setCell ⟨w.heap.size+1,1,none⟩ (↑r.val.n)).setCell ⟨w.heap.size+1,2,none⟩ (.string r.val.s)).setCell ⟨w.heap.size+1,3,none⟩ (.slice A2 r.val.kids.length d2)=W3 at *;have q0:=HQ.out.cell' (u:=↑r.val.kind) 0 rfl;have q1:=HQ.out.cell' (u:=↑r.val.n) 1 rfl;have q2:=HQ.out.cell' (u:=.string r.val.s) 2 rfl;have q3:=HQ.out.cell' (u:=.slice A2 r.val.kids.length d2) 3 rfl;rw [HF.out];exact bodyPost_ret (v:=.tuple #[.agg #[↑r.val.kind,↑r.val.n,.string r.val.s,.slice A2 r.val.kids.length d2],.int .i64 0]) (by simp [results,Tryz.results50,go_sem,q0,q1,q2,q3]) rfl ⟨_,_,_,_,_,_,rfl,HXQ.out⟩
  ·have hd:(r.stop == -1)=false:=aYm hs
   have HF:=aYl (show wb=false by rw [HWW.out];exact aYp hs);clear hs;have HQ:=aYl ((((HR2.out.set_ 0 (.int .i64 0)).set_ 1 (.int .i64 0)).set_ 2 (.string ⟨#[]⟩)).set_ 3 (.slice none 0 0));have HXQ:=aYl ((((HX3.out.setCell' (p:=⟨w.heap.size+1,0,none⟩) ae (.int .i64 0)).setCell' (p:=⟨w.heap.size+1,1,none⟩) ae (.int .i64 0)).setCell' (p:=⟨w.heap.size+1,2,none⟩) ae (.string ⟨#[]⟩)).setCell' (p:=⟨w.heap.size+1,3,none⟩) ae (.slice none 0 0));go_wp2_with fail;generalize (((W2.setCell ⟨w.heap.size+1,0,none⟩ (.int .i64 0)).setCell ⟨w.heap.size+1,1,none⟩ (.int .i64 0)).setCell ⟨w.heap.size+1,2,none⟩ (.string ⟨#[]⟩)).setCell ⟨w.heap.size+1,3,none⟩ (.slice none 0 0)=W3 at *;have q0:=HQ.out.cell' (u:=.int .i64 0) 0 rfl;have q1:=HQ.out.cell' (u:=.int .i64 0) 1 rfl;have q2:=HQ.out.cell' (u:=.string ⟨#[]⟩) 2 rfl;have q3:=HQ.out.cell' (u:=.slice none 0 0) 3 rfl;rw [HF.out];exact bodyPost_ret (v:=.tuple #[.agg #[.int .i64 0,.int .i64 0,.string ⟨#[]⟩,.slice none 0 0],.int .i64 11]) (by simp [results,Tryz.results50,go_sem,q0,q1,q2,q3]) rfl ⟨_,_,_,_,_,_,rfl,HXQ.out⟩
 ·have hl0:((t.length:Int) == 0)=true:=aYn U
  have HF:=aYl (HW0.out U);have r0:=HR1.out.cell' (u:=.int .i64 0) 0 rfl;have f0:=HR1.out.frozen 0;have r1:=HR1.out.cell' (u:=.int .i64 0) 1 rfl;have f1:=HR1.out.frozen 1;have r2:=HR1.out.cell' (u:=.string ⟨#[]⟩) 2 rfl;have f2:=HR1.out.frozen 2;have r3:=HR1.out.cell' (u:=.slice none 0 0) 3 rfl;have f3:=HR1.out.frozen 3;have HQ:=aYl ((((HR1.out.set_ 0 (.int .i64 0)).set_ 1 (.int .i64 0)).set_ 2 (.string ⟨#[]⟩)).set_ 3 (.slice none 0 0));have HXQ:=aYl ((((HX1.out.setCell' (p:=⟨w.heap.size+1,0,none⟩) ae (.int .i64 0)).setCell' (p:=⟨w.heap.size+1,1,none⟩) ae (.int .i64 0)).setCell' (p:=⟨w.heap.size+1,2,none⟩) ae (.string ⟨#[]⟩)).setCell' (p:=⟨w.heap.size+1,3,none⟩) ae (.slice none 0 0));go_wp2_with fail;generalize (((w1.setCell ⟨w.heap.size+1,0,none⟩ (.int .i64 0)).setCell ⟨w.heap.size+1,1,none⟩ (.int .i64 0)).setCell ⟨w.heap.size+1,2,none⟩ (.string ⟨#[]⟩)).setCell ⟨w.heap.size+1,3,none⟩ (.slice none 0 0)=W3 at *;have q0:=HQ.out.cell' (u:=.int .i64 0) 0 rfl;have q1:=HQ.out.cell' (u:=.int .i64 0) 1 rfl;have q2:=HQ.out.cell' (u:=.string ⟨#[]⟩) 2 rfl
  have q3:=HQ.out.cell' (u:=.slice none 0 0) 3 rfl;rw [HF.out];exact bodyPost_ret (v:=.tuple #[.agg #[.int .i64 0,.int .i64 0,.string ⟨#[]⟩,.slice none 0 0],.int .i64 11]) (by simp [results,Tryz.results50,go_sem,q0,q1,q2,q3]) rfl ⟨_,_,_,_,_,_,rfl,HXQ.out⟩
noncomputable def aKq:=RG Tryz.f52 0
noncomputable def aM4:=RG Tryz.f52 1
noncomputable def aM3:=RG Tryz.f52 2
noncomputable def aM2:=RG Tryz.f52 3
noncomputable def aM1:=RG Tryz.f52 4
noncomputable def aM0:=RG Tryz.f52 5
noncomputable def aMz:=RG Tryz.f52 6
noncomputable def aKp:=RG Tryz.f52 7
noncomputable def aKo:=RG Tryz.f52 8
noncomputable def aRq:=RG Tryz.f52 9
noncomputable def aIm:=RG Tryz.f52 10
noncomputable def aIl:=RG Tryz.f52 11
section
variable {Q:Exit->Act->World->Prop}{a:Act}{w:World}{m k i:Nat}{G n c:Nat}{Al:Option Addr}{vn:Value}{b s kk:Int}
theorem aGo (hsz:a.tmps.size=67)(e0:Ev a (.tmp 0)=.pointer (some ⟨m,0,none⟩))(h1:∀ w',Ext w w'->w'.cell? ⟨m,1,none⟩=some (↑b))(hd:b<s)(hc:∀ w1,Ext w w1->Calls Tryz.prog 16 #[.pointer (some ⟨m,0,none⟩)] w1 fun e w'=>e=.returned (↑s)∧Ext w w')
  (h:∀ a' w',Ext w w'->Ag [0] a a'->Ev a' (.tmp 19)=.bool true->Q .normal a' w'):Code.wp Tryz.prog aKq Q a w:=by
 conv=>arg 2;whnf
 refine iO (fun w'=>Ext w w') aa aa (Ext.refl w).drew' ?_
 iterate 1 refine q_v rfl rfl (fun w hw=>by simp [execOp,go_sem, *];rfl) ?_
 refine q_c rfl rfl rfl Tryz.func16 al al hc ah ?_
 iterate 6 refine q_v rfl rfl (fun w hw=>by simp [execOp,go_sem, *];rfl) ?_
 iterate 6 refine q_n rfl rfl rfl ah aw rfl ?_
 iterate 1 refine q_v rfl rfl (fun w hw=>by simp [execOp,go_sem, *];rfl) ?_
 exact aGw (fun w' hw=>h _ w' hw ac ah)
theorem aGp (hsz:a.tmps.size=67)(e0:Ev a (.tmp 0)=.pointer (some ⟨m,0,none⟩))(h1:∀ w',Ext w w'->w'.cell? ⟨m,1,none⟩=some (↑b)∧w'.cell? ⟨m,2,none⟩=some (.slice Al n c))(hd:¬ b<s)(hc:∀ w1,Ext w w1->Calls Tryz.prog 16 #[.pointer (some ⟨m,0,none⟩)] w1 fun e w'=>e=.returned (↑s)∧Ext w w')
  (h:∀ a' w',Ext w w'->Ag [0] a a'->Ev a' (.tmp 19)=.bool (decide (256<n))->Q .normal a' w'):Code.wp Tryz.prog aKq Q a w:=by
 conv=>arg 2;whnf
 refine iO (fun w'=>Ext w w') aa aa (Ext.refl w).drew' ?_
 iterate 1 refine q_v rfl rfl (fun w hw=>by simp [execOp,go_sem, *];rfl) ?_
 refine q_c rfl rfl rfl Tryz.func16 al al hc ah ?_
 iterate 6 refine q_v rfl rfl (fun w hw=>by simp [execOp,go_sem,h1 w hw, *];rfl) ?_
 iterate 6 refine q_y rfl rfl rfl ah aw rfl (fun w hw=>by simp [execOp,go_sem,h1 w hw, *];rfl) ?_
 iterate 1 refine q_v rfl rfl (fun w hw=>by simp [execOp,go_sem, *];rfl) ?_
 exact aGw (fun w' hw=>h _ w' hw ac (by simp [*];try omega))
theorem aJy (hsz:a.tmps.size=67)(e0:Ev a (.tmp 0)=.pointer (some ⟨m,0,none⟩))(e3:Ev a (.tmp 3)=↑(i:Int))(h2:w.cell? ⟨m,2,none⟩=some (.slice Al n c))
  (h:∀ a',Ag [0,2,3] a a'->Ev a' (.tmp 26)=.bool (decide (i<n))->Q .normal a' w):Code.wp Tryz.prog aM2 Q a w:=by
 refine rW ?_
 iterate 7 refine lV ?_
 exact cJ (h _ ac ah)
theorem aJx {f:Bool}(hsz:a.tmps.size=67)(e0:Ev a (.tmp 0)=.pointer (some ⟨m,0,none⟩))(e3:Ev a (.tmp 3)=↑(i:Int))(hi:i<n)(h2:w.cell? ⟨m,2,none⟩=some (.slice (some ⟨G,0,none⟩) n c))(h3:w.cell? ⟨G,i*6+4,none⟩=some (.bool f))
  (h:∀ a',Ag [0,2,3] a a'->Ev a' (.tmp 37)=.bool (!f)->Q .normal a' w):Code.wp Tryz.prog aM0 Q a w:=by
 refine rW ?_
 iterate 9 refine lV ?_
 exact cJ (h _ ac ah)
theorem aJw (hsz:a.tmps.size=67)(e3:Ev a (.tmp 3)=↑(i:Int))(h:∀ a',Ag [0,3] a a'->Ev a' (.tmp 2)=↑(i:Int)->Q .normal a' w):Code.wp Tryz.prog aMz Q a w:=by
 refine rW ?_
 iterate 2 refine lV ?_
 exact cJ (h _ ac ah)
theorem aDm (hsz:a.tmps.size=67)(e3:Ev a (.tmp 3)=↑(i:Int))(hw:IntKind.i64.wrap ((i:Int)+1)=(i:Int)+1)(h:∀ a',Ag [0,2] a a'->Ev a' (.tmp 3)=.int .i64 ((i+1:Nat):Int)->Q .normal a' w):Code.wp Tryz.prog aM1 Q a w:=by
 refine rW ?_
 iterate 3 refine lV ?_
 exact cJ (h _ ac ah)
theorem aJv (hsz:a.tmps.size=67)(e2:Ev a (.tmp 2)=↑kk)(h:∀ a',Ag [0,2] a a'->Ev a' (.tmp 40)=.bool (decide (kk<0))->Q .normal a' w):Code.wp Tryz.prog aKp Q a w:=by
 refine rW ?_
 iterate 2 refine lV ?_
 exact cJ (h _ ac ah)
theorem aJu (hsz:a.tmps.size=67)(e0:Ev a (.tmp 0)=.pointer (some ⟨m,0,none⟩))(h2:w.cell? ⟨m,2,none⟩=some (.slice Al n c))(hw:IntKind.i64.wrap ((n:Int) - 1)=(n:Int) - 1)
  (h:∀ a',Ag [0] a a'->Ev a' (.tmp 2)=.int .i64 ((n:Int) - 1)->Q .normal a' w):Code.wp Tryz.prog aKo Q a w:=by
 refine rW ?_
 iterate 7 refine lV ?_
 exact cJ (h _ ac ah)
theorem aGn {A1:Option Addr}{c1:Nat}{ve:Value}{xs:List Value}{S:Nat->Prop}(hsz:a.tmps.size=67)(e0:Ev a (.tmp 0)=.pointer (some ⟨m,0,none⟩))(e2:Ev a (.tmp 2)=↑(k:Int))(e4:Ev a (.tmp 4)=.slice none 0 0)(hk:k<=100000)(h1:w.cell? ⟨m,2,none⟩=some ve)(hc:aMn ve k A1 c1)(hs:Sl w S 6 A1 k xs)(hone:∀ u ∈ xs,u.oneCell'=true)
  (h:∀ a' v5 w5,w5.ownsRow w.heap.size 60 6 v5 k xs->Ext w w5->Ag [0,2] a a'->Ev a' (.tmp 4)=v5->Q .normal a' w5):Code.wp Tryz.prog aIm Q a w:=by
 refine rW ?_
 iterate 6 refine lV ?_
 refine l_v rfl rfl (hc _ _ _ _ _ rfl ah ah) ?_;refine l_a rfl rfl rfl Tryz.underlying33 Tryz.info60 rfl U (aN w w.heap.size 60 6) hs ah aw hone U U (Nat.le_refl _) ?_;intro v5 w5 ho hf hb
 iterate 1 refine lV ?_
 exact cJ (h _ v5 w5 (by simpa using ho) (Fr.none_ext hf) ac ah)
theorem aGm {A1:Option Addr}{c1 p n base:Nat}{v4 ve:Value}{xs ys:List Value}{S:Nat->Prop}(hsz:a.tmps.size=67)(e0:Ev a (.tmp 0)=.pointer (some ⟨m,0,none⟩))(e2:Ev a (.tmp 2)=↑(k:Int))(e4:Ev a (.tmp 4)=v4)(hw:IntKind.i64.wrap ((k:Int)+1)=(k:Int)+1)(hp:p<=100001)(hn:n<=100000)(hB:base<=w.heap.size)(hm:m<base)(hb0:Blk w m 35 #[vn,↑b,ve])(hc:aMo ve (k+1) n A1 c1)(hs:Sl w S 6 A1 n ys)(hone:∀ u ∈ ys,u.oneCell'=true)(hown:w.ownsRow base 60 6 v4 p xs)
  (h:∀ a' v5 w5,w5.ownsRow base 60 6 v5 (p+n) (xs ++ ys)->Fr (fun b=>base<=b) w w5->Ag [0] a a'->Q .normal a' (w5.setCell ⟨m,2,none⟩ v5)):Code.wp Tryz.prog aIl Q a w:=by
 have h1:=hb0.cell' (u:=ve) 2 rfl;refine rW ?_
 iterate 8 refine lV ?_
 refine l_v rfl rfl (hc _ _ _ _ _ rfl ah ah) ?_;refine l_a rfl rfl rfl Tryz.underlying33 Tryz.info60 rfl U hown hs ah aw hone U U hB ?_;intro v5 w5 ho hf hb5;have hF:Fr (fun b=>base<=b) w w5:=hf.mono (fun b hb=>hown.block_ge hb.symm);have hb6:=hb0.fr hF U;have q2:=hb6.cell' (u:=ve) 2 rfl;have f2:=hb6.frozen 2;obtain ⟨A5,c5,rfl,-,-,-⟩:=Sl.of_own ho
 iterate 2 refine lV ?_
 refine l_s rfl rfl (by simp [execOp,go_sem, *];rfl) ?_;exact cJ (h _ _ w5 ho hF ac)
end
noncomputable abbrev aTd:Code:=.seq (.seq aM2 (.cond (.tmp 26) .skip (.exit 2))) (.seq (.block 3 (.seq aM0 (.cond (.tmp 37) aMz .skip))) aM1)
noncomputable abbrev aQ8:Code:=.seq aRq (.seq aIm aIl)
noncomputable abbrev aU5:Code:=.seq (.seq aKq (.cond (.tmp 19) .skip (.exit 0))) (.block 1 (.seq aM4 (.seq (.seq aM3 (.block 2 (.loop aTd))) (.seq (.seq aKp (.cond (.tmp 40) aKo .skip)) aQ8))))
theorem aP7:Tryz.f52.body=some (.block 0 (.loop aU5)):=aa
section
variable {t:List GN}{vn:Value}{b:Int}{L:List GE}{m:Nat}{P:Nat->Prop}{ve:Value}{a a0:Act}{w ws:World}{R:Exit->Act->World->Prop}
def J52 (L:List GE)(a0:Act)(ws:World)(i:Nat)(a:Act)(w:World):Prop :=
 Ag [0] a0 a∧i<=L.length∧Ev a (.tmp 3)=↑(i:Int)∧Ext ws w∧∃ kk:Int,Ev a (.tmp 2)=↑kk∧-1<=kk∧kk<(L.length:Int)∧iU i (if kk<0 then L.length - 1 else kk.toNat) (L.drop i)=nU L
theorem MAt.row (h:MAt t vn b L m P ve w)(h0:0<L.length):∃ G c,ve=.slice (some ⟨G,0,none⟩) L.length c:=by
 obtain ⟨xs,ho,-⟩:=h.own;rcases ho.2 with ⟨_,e2⟩ | ⟨G,cap,cur,e,-⟩
 ·omega
 ·exact ⟨G,cap,e⟩
theorem aP2 (h:MAt t vn b L m P ve ws)(hpos:0<L.length)(hsz:a0.tmps.size=67)(e0:Ev a0 (.tmp 0)=.pointer (some ⟨m,0,none⟩))(hI:J52 L a0 ws 0 a w)(hR:∀ a' w',J52 L a0 ws L.length a' w'->R .normal a' w'):Code.wp Tryz.prog (.block 2 (.loop aTd)) R a w:=by
 have hfew:=h.few;refine wp_block (wp_loop (fun a' w'=>∃ i,J52 L a0 ws i a' w') (fun a' _=>L.length - (intOf (Ev a' (.tmp 3))).toNat) ⟨0,hI⟩ ?_);clear hI;rintro a w ⟨i,hG,hi,e3,hE,kk,e2,hk0,hk1,hcf⟩;obtain ⟨G,c,rfl⟩:=h.row hpos;have c2:=aA hE h.cell2;have z1:a.tmps.size=67:=hG.sz.trans hsz;have f0:=hG.get 0 e0;refine wp_seq (wp_seq (aJy z1 f0 e3 c2 ?_));intro a1 g1 e26;have z2:a1.tmps.size=67:=g1.sz.trans z1
 by_cases hlt:i<L.length
 ·obtain ⟨b1,o1,A1,d1,eA,-,-,hgc⟩:=(h.ens.ext hE).get hlt
  injection eA with eA;injection eA with e1 eo _;subst e1 eo;have g4:=hgc 4 _ rfl;rw [Nat.zero_add] at g4;have hD:iU (i+1) (if (L.getD i default).fresh then (if kk<0 then L.length - 1 else kk.toNat) else i) (L.drop (i+1))=nU L:=by rw [<- hcf,aG default hlt];rfl
  have hms:∀ a':Act,Ev a' (.tmp 3)=.int .i64 ((i+1:Nat):Int)->L.length - (intOf (Ev a' (.tmp 3))).toNat<L.length - (intOf (Ev a (.tmp 3))).toNat:=fun a' e=>by
   rw [e,e3];simp [intOf];omega
  generalize (L.getD i default).fresh=yf at *;refine wp_cond_true (e26.trans ar) (wp_skip ?_);refine wp_seq (wp_block (wp_seq (aJx z2 (g1.get 0 f0) (g1.get 3 e3) hlt c2 g4 ?_)));intro a2 g2 e37;have z3:a2.tmps.size=67:=g2.sz.trans z2
  cases yf
  ·refine wp_cond_true e37 (aJw z3 (g2.get 3 (g1.get 3 e3)) ?_)
   intro a3 g3 e2';refine aDm (g3.sz.trans z3) (g3.get 3 (g2.get 3 (g1.get 3 e3))) (zV U) ?_;intro a4 g4' e3';refine ⟨⟨i+1,((hG.trans (g1.mono rfl)).trans (g2.mono rfl)).trans ((g3.mono rfl).trans (g4'.mono rfl)),hlt,e3',hE,(i:Int),g4'.get 2 e2',U,U,?_⟩,hms _ e3'⟩;rw [if_neg U,Int.toNat_natCast];exact hD
  ·refine wp_cond_false e37 (wp_skip ?_)
   refine aDm z3 (g2.get 3 (g1.get 3 e3)) (zV U) ?_;intro a4 g4' e3';exact ⟨⟨i+1,(hG.trans (g1.mono rfl)).trans ((g2.mono rfl).trans (g4'.mono rfl)),hlt,e3',hE,kk,g4'.get 2 (g2.get 2 (g1.get 2 e2)),U,U,hD⟩,hms _ e3'⟩
 ·obtain rfl:i=L.length:=by omega
  refine wp_cond_false (e26.trans Y) (wp_exit ?_);exact hR _ _ ⟨hG.trans (g1.mono rfl),hi,g1.get 3 e3,hE,kk,g1.get 2 e2,hk0,hk1,hcf⟩
theorem aHt {k:Nat}(h:MAt t vn b L m P ve w)(hk:k<L.length)(hsz:a.tmps.size=67)(e0:Ev a (.tmp 0)=.pointer (some ⟨m,0,none⟩))(e2:Ev a (.tmp 2)=↑(k:Int))(hR:∀ a' w',Ag [0] a a'->dA t vn b (L.eraseIdx k) m P ve w w'->R .normal a' w'):Code.wp Tryz.prog aQ8 R a w:=by
 have hfew:=h.few;obtain ⟨xs,ho,hr⟩:=h.own;have hone:=REn.one hr;obtain ⟨A1,c1,hc1,hs1⟩:=aIv ho (Nat.le_of_lt hk) h.few;obtain ⟨A2,c2,hc2,hs2⟩:=aA2 ho (show k+1<=L.length from hk) h.few;refine wp_seq ?_;refine rW ?_
 iterate 1 refine l_v rfl rfl (by simp [execOp,go_sem];exact ⟨rfl,rfl⟩) ?_
 refine cJ ?_;refine wp_seq (aGn eq (by simp [e0]) (by simp [e2]) eq U h.cell2 hc1 hs1 (fun u hu=>hone u (List.mem_of_mem_take hu)) ?_);intro a5 v5 w5 ho5 hx5 g5 e4;have k5:Ag [0,2] a a5:=Ag.trans ac g5;refine aGm (k5.sz.trans hsz) (k5.get 0 e0) (k5.get 2 e2) e4 (zV U) U U hx5.size h.box.lt (h.box.ext hx5) hc2 (hs2.ext hx5) (fun u hu=>hone u (List.mem_of_mem_drop hu)) ho5 ?_;intro a7 v7 w7 ho7 hf7 g7;have hE7:Ext w w7:=((Fr.of_ext hx5).trans hf7).new_ext (fun _ hb=>hb);have hll:(L.eraseIdx k).length=k+(L.length - (k+1)):=by rw [List.length_eraseIdx,if_pos hk];omega
 have hsub:(L.eraseIdx k).Sublist L:=List.eraseIdx_sublist L k;refine hR _ _ ((k5.mono rfl).trans g7) (h.replace hE7 (ho7.len_cast hll.symm rfl) ?_ (List.Pairwise.sublist (hsub.map GE.path) h.inc) U (fun e he=>h.short e (hsub.subset he)));rw [List.eraseIdx_eq_take_drop_succ];have hr':=hr.move fP (aB.of_ext hE7) (fun _ _ h=>h);exact (hr'.take (fP.len w7 P) k).append (hr'.drop (fP.len w7 P) (k+1))
def O52 (t:List GN)(vn:Value)(b:Int)(L:List GE)(m:Nat)(P:Nat->Prop)(ve:Value)(a0:Act)(w:World)(a':Act)(w':World):Prop :=
 Ag [0] a0 a'∧∃ L' v1,MAt t vn b L' m P v1 w'∧Fr (mM m ve) w w'∧(∀ k,v1.ownBlock=some k->ve.ownBlock=some k∨w.heap.size<=k)∧uF b L'=uF b L
theorem aEc (h:MAt t vn b L m P ve w):pK w ⟨m,2,none⟩=L.length:=by
 obtain ⟨A,c,rfl,-,-⟩:=Lst.form h.ens;unfold pK;rw [h.cell2]
theorem aP1 (h:MAt t vn b L m P ve w)(hsz:a.tmps.size=67)(e0:Ev a (.tmp 0)=.pointer (some ⟨m,0,none⟩))(hQ:∀ a' w',a'.defers=a.defers->dA t vn b (uF b L) m P ve w w'->R .normal a' w'):Code.wp Tryz.prog (.block 0 (.loop aU5)) R a w:=by
 refine wp_block (wp_loop (O52 t vn b L m P ve a w) (fun _ w'=>pK w' ⟨m,2,none⟩) ⟨.rf,L,ve,h,Fr.refl _ w,fun _ h=>.inl h,rfl⟩ ?_);clear h;rintro a1 w1 ⟨hG,L1,v1,h,hF,hob,hcu⟩;have hfew:=h.few;have hbI:=h.bI;have z1:a1.tmps.size=67:=hG.sz.trans hsz;have f0:=hG.get 0 e0;obtain ⟨Al,cl,eA,-,-⟩:=Lst.form h.ens;have c2:=h.cell2;rw [eA] at c2;have hby:∀ W,Ext w1 W->Calls Tryz.prog 16 #[.pointer (some ⟨m,0,none⟩)] W fun e w'=>e=.returned (.int .i64 (dF L1))∧Ext w1 w':=fun W hx=>(aB7 (h.ext hx)).mono (fun _ _ ⟨q1,q2⟩=>⟨q1,hx.trans' q2⟩)
 have key:∀ a2 w2,Ag [0] a1 a2->Ext w1 w2->(b<dF L1∨256<L1.length)->Code.wp Tryz.prog (.block 1 (.seq aM4 (.seq (.seq aM3 (.block 2 (.loop aTd))) (.seq (.seq aKp (.cond (.tmp 40) aKo .skip)) aQ8)))) (Exit.then (fun a' w'=>O52 t vn b L m P ve a w a' w'∧pK w' ⟨m,2,none⟩<pK w1 ⟨m,2,none⟩) (Exit.inBlock 0 R)) a2 w2:=by
  intro a2 w2 g2 hx2 hc;have z2:a2.tmps.size=67:=g2.sz.trans z1
  have hpos:0<L1.length:=by
   rcases hc with h1 | h1
   ·cases L1 with
    | nil=>simp [dF] at h1;omega
    | cons _ _=>simp
   ·omega
  have h2:=h.ext hx2;have hkl:=aA5 hpos
  have fin:∀ a3 w3,Ag [0] a2 a3->Ext w2 w3->Ev a3 (.tmp 2)=.int .i64 ((nU L1:Nat):Int)->Code.wp Tryz.prog aQ8 (Exit.inBlock 1 (Exit.then (fun a' w'=>O52 t vn b L m P ve a w a' w'∧pK w' ⟨m,2,none⟩<pK w1 ⟨m,2,none⟩) (Exit.inBlock 0 R))) a3 w3:=by
   intro a3 w3 g3 hx3 e2;refine aHt (h2.ext hx3) hkl (g3.sz.trans z2) (g3.get 0 (g2.get 0 f0)) e2 ?_;intro a4 w4 g4 hA;obtain ⟨v4,q1,q2,q3⟩:=dA.trans (L1:=L1) (hF.trans (Fr.of_ext (hx2.trans' hx3))) (fun k hk=>(hob k hk)) hA;refine ⟨⟨(hG.trans g2).trans (g3.trans g4),_,v4,q1,q2,q3,?_⟩,?_⟩
   ·rw [<- hcu,<- xB hc hpos]
   ·rw [aEc q1,aEc h,List.length_eraseIdx,if_pos hkl]
    omega
  refine wp_block (wp_seq ?_);refine rW ?_
  iterate 1 refine l_v rfl rfl (by simp [execOp,go_sem];exact ⟨rfl,rfl⟩) ?_
  refine cJ (wp_seq (wp_seq ?_));refine rW ?_
  iterate 1 refine l_v rfl rfl (by simp [execOp,go_sem];exact ⟨rfl,rfl⟩) ?_
  refine cJ ?_;refine aP2 (a0:=a2) h2 hpos z2 (g2.get 0 f0) ⟨ac,Nat.zero_le _,by simp [z2],Ext.refl _,-1,by simp [z2],U,U,rfl⟩ ?_;rintro a3 w3 ⟨g3,-,-,hx3,kk,e2,hk0,hk1,hcf⟩;rw [drop_nil (Nat.le_refl _)] at hcf;have z3:a3.tmps.size=67:=g3.sz.trans z2;refine wp_seq (wp_seq (aJv z3 e2 ?_));intro a4 g4 e40;have z4:a4.tmps.size=67:=g4.sz.trans z3
  by_cases hneg:kk<0
  ·rw [if_pos hneg] at hcf
   have hcf:L1.length - 1=nU L1:=hcf;refine wp_cond_true (e40.trans (by rw [aYo hneg])) (aJu z4 (g4.get 0 (g3.get 0 (g2.get 0 f0))) (aA hx3 (aA hx2 c2)) (IntWalk.i64_in _ U) ?_);intro a5 g5 e2';exact fin _ _ (g3.trans ((g4.mono rfl).trans g5)) hx3 (e2'.trans (by rw [<- hcf];congr 1;omega))
  ·rw [if_neg hneg] at hcf
   have hcf:kk.toNat=nU L1:=hcf;refine wp_cond_false (e40.trans (by rw [aYp hneg])) (wp_skip ?_);exact fin _ _ (g3.trans (g4.mono rfl)) hx3 ((g4.get 2 e2).trans (by rw [<- hcf];congr 1;omega))
 by_cases hb:b<dF L1
 ·refine wp_seq (wp_seq (aGo z1 f0 (fun w' hw=>aA hw h.cell1) hb hby ?_))
  intro a2 w2 hx2 g2 e19;exact wp_cond_true e19 (wp_skip (key _ _ g2 hx2 (.inl hb)))
 ·refine wp_seq (wp_seq (aGp z1 f0 (fun w' hw=>⟨aA hw h.cell1,aA hw c2⟩) hb hby ?_))
  intro a2 w2 hx2 g2 e19
  by_cases hl:256<L1.length
  ·exact wp_cond_true (e19.trans (by rw [aYo hl])) (wp_skip (key _ _ g2 hx2 (.inr hl)))
  ·refine wp_cond_false (e19.trans (by rw [aYp hl])) (wp_exit ?_)
   refine hQ _ _ (g2.df.trans hG.df) ⟨v1,?_,hF.trans (Fr.of_ext hx2),hob⟩;rw [<- hcu];unfold uF;rw [aA4 U];exact h.ext hx2
theorem aG2 (h:MAt t vn b L m P ve w):Calls Tryz.prog 52 #[.pointer (some ⟨m,0,none⟩)] w fun e w'=>e=.returned (.tuple #[])∧dA t vn b (uF b L) m P ve w w':=by
 refine calls_of_wp Tryz.func52 aP7 (aP1 h ?_ ?_ ?_)
 ·simp [Tryz.ntmps52]
 ·simp [Ev,Act.eval]
 ·intro a' w' h1 h3
  exact ⟨h1,.tuple #[],by simp [results,Tryz.results52,go_sem],rfl,h3⟩
end
noncomputable def aO3:=RG Tryz.f14 0
noncomputable def aO2:=RG Tryz.f14 1
noncomputable def aO1:=RG Tryz.f14 2
noncomputable def aO0:=RG Tryz.f14 3
noncomputable def aOz:=RG Tryz.f14 4
noncomputable def aOy:=RG Tryz.f14 5
noncomputable def aOx:=RG Tryz.f14 6
noncomputable def aOw:=RG Tryz.f14 7
noncomputable def aOv:=RG Tryz.f14 8
section
variable {Q:Exit->Act->World->Prop}{a:Act}{w:World}{m:Nat}{vn vp:Value}{R:World->Prop}
theorem aKn {k x c:Int}(hsz:a.tmps.size=38)(e2:Ev a (.tmp 2)=.agg #[↑k,↑x,↑c])
  (h:∀ a',Ag [0,1,3] a a'->Ev a' (.tmp 6)=.pointer (some ⟨w.heap.size,0,none⟩)->Q .normal a' (w.alloc (.cells #[↑k,↑x,↑c] 41))):Code.wp Tryz.prog aO3 Q a w:=by
 refine rW ?_
 iterate 3 refine lV ?_
 exact cJ (h _ ac ah)
theorem aKm {n:Int}(hsz:a.tmps.size=38)(e0:Ev a (.tmp 0)=.pointer (some ⟨m,0,none⟩))(e1:Ev a (.tmp 1)=vp)(c0:w.cell? ⟨m,0,none⟩=some vn)(hc:Calls Tryz.prog 50 #[.agg #[vn],vp] w (aQq n w))
  (h:∀ a' w',Ag [0,1,3,6] a a'->Ev a' (.tmp 11)=↑n->Ext w w'->Q .normal a' w'):Code.wp Tryz.prog aO2 Q a w:=by
 refine rW ?_
 iterate 5 refine lV ?_
 refine l_c rfl rfl rfl Tryz.func50 al al hc ah ?_;rintro e w1 ⟨k,z,s,A,m,c,rfl,hx⟩;refine ⟨_,rfl,?_⟩
 iterate 4 refine lV ?_
 have hB:=Blk.new w1 85 #[.int .i64 0,.int .i64 0,.string ⟨#[]⟩,.slice none 0 0];have hX:Ext w1 (w1.alloc (.cells #[.int .i64 0,.int .i64 0,.string ⟨#[]⟩,.slice none 0 0] 85)):=(Ext.refl w1).alloc' _;generalize w1.alloc (.cells #[.int .i64 0,.int .i64 0,.string ⟨#[]⟩,.slice none 0 0] 85)=W at *;obtain ⟨q0,q1,q2,q3⟩:=aS hB;have f0:=hB.frozen 0;have f1:=hB.frozen 1;have f2:=hB.frozen 2;have f3:=hB.frozen 3;refine l_s rfl rfl (by simp [execOp,go_sem, *];rfl) ?_
 iterate 1 refine lV ?_
 refine cJ (h _ _ ac ah ?_);exact hx.trans' ((((hX.setCell' (p:=⟨w1.heap.size,0,none⟩) (Nat.le_refl _) _).setCell' (p:=⟨w1.heap.size,1,none⟩) (Nat.le_refl _) _).setCell' (p:=⟨w1.heap.size,2,none⟩) (Nat.le_refl _) _).setCell' (p:=⟨w1.heap.size,3,none⟩) (Nat.le_refl _) _)
theorem aDn {n:Int}{b:Bool}(hsz:a.tmps.size=38)(e11:Ev a (.tmp 11)=↑n)(hn:(n != 0)=b)
  (h:∀ a',Ag [0,1,3,6] a a'->Ev a' (.tmp 23)=.bool b->Q .normal a' w):Code.wp Tryz.prog aO1 Q a w:=by
 refine rW ?_
 iterate 2 refine lV ?_
 exact cJ (h _ ac (by simp [<- hn,hsz,bne]))
theorem aKk {A:Option Addr}{n c g:Nat}{k x cc:Int}{f b:Bool}(hsz:a.tmps.size=38)(e0:Ev a (.tmp 0)=.pointer (some ⟨m,0,none⟩))(e1:Ev a (.tmp 1)=.slice A n c)(e3:Ev a (.tmp 3)=.bool f)(e6:Ev a (.tmp 6)=.pointer (some ⟨g,0,none⟩))
  (hB:Blk w g 41 #[↑k,↑x,↑cc])(hc:Calls Tryz.prog 51 #[.pointer (some ⟨m,0,none⟩),.agg #[.slice A n c,↑k,↑x,↑cc,.bool f,.int .i64 1]] w (fun e w'=>e=.returned (.bool b)∧R w'))
  (h:∀ a' w',R w'->Ag [0,1] a a'->Ev a' (.tmp 12)=.bool b->Q .normal a' w'):Code.wp Tryz.prog aOz Q a w:=by
 have c0:=hB.cell' 0 rfl;have c1:=hB.cell' 1 rfl;have c2:=hB.cell' 2 rfl;refine rW ?_
 iterate 5 refine lV ?_
 refine l_c rfl rfl rfl Tryz.func51 al al hc ah ?_;rintro e w' ⟨rfl,hR⟩;refine ⟨_,rfl,?_⟩
 iterate 1 refine lV ?_
 exact cJ (h _ _ hR ac ah)
theorem aKj {b:Bool}(hsz:a.tmps.size=38)(e12:Ev a (.tmp 12)=.bool b)
  (h:∀ a',Ag [0,1] a a'->Ev a' (.tmp 31)=.bool (!b)->Q .normal a' w):Code.wp Tryz.prog aOy Q a w:=by
 refine rW ?_
 iterate 2 refine lV ?_
 exact cJ (h _ ac ah)
theorem aKh {v:Value}(hsz:a.tmps.size=38)(e0:Ev a (.tmp 0)=.pointer (some ⟨m,0,none⟩))(hc:Calls Tryz.prog 52 #[.pointer (some ⟨m,0,none⟩)] w (fun e w'=>e=.returned v∧R w'))
  (h:∀ a' w',R w'->Ag [0,1] a a'->Q .normal a' w'):Code.wp Tryz.prog aOw Q a w:=by
 refine rW ?_
 iterate 1 refine lV ?_
 refine l_c rfl rfl rfl Tryz.func52 al al hc ah ?_;rintro e w' ⟨rfl,hR⟩;exact ⟨_,rfl,cJ (h _ _ hR ac)⟩
theorem aKg {z:Int}(hsz:a.tmps.size=38)(e0:Ev a (.tmp 0)=.pointer (some ⟨m,0,none⟩))(e1:Ev a (.tmp 1)=vp)(hc:Calls Tryz.prog 20 #[.pointer (some ⟨m,0,none⟩),vp] w (dV (↑z) w))
  (h:∀ a' w',Ext w w'->Ag [0,1] a a'->Ev a' (.tmp 8)=.bool (decide (0<=z))->Ev a' (.tmp 9)=.int .i64 0->Q .normal a' w'):Code.wp Tryz.prog aOv Q a w:=by
 refine rW ?_
 iterate 2 refine lV ?_
 refine l_c rfl rfl rfl Tryz.func20 al al hc ah ?_;rintro e w' ⟨rfl,hx⟩;refine ⟨_,rfl,?_⟩
 iterate 3 refine lV ?_
 exact cJ (h _ _ hx ac ah ah)
theorem aKl (hsz:a.tmps.size=38)(h:∀ a',Ag [] a a'->Ev a' (.tmp 8)=.bool false->Ev a' (.tmp 9)=.int .i64 11->Q .normal a' w):Code.wp Tryz.prog aO0 Q a w:=by
 refine rW ?_
 iterate 2 refine lV ?_
 exact cJ (h _ ac ah ah)
theorem aKi (hsz:a.tmps.size=38)(h:∀ a',Ag [] a a'->Ev a' (.tmp 8)=.bool false->Ev a' (.tmp 9)=.int .i64 0->Q .normal a' w):Code.wp Tryz.prog aOx Q a w:=by
 refine rW ?_
 iterate 2 refine lV ?_
 exact cJ (h _ ac ah ah)
end
noncomputable abbrev aI0:Code:=.seq aO3 (.seq aO2 (.seq (.seq aO1 (.cond (.tmp 23) (.seq aO0 .ret) .skip)) (.seq aOz (.seq (.seq aOy (.cond (.tmp 31) (.seq aOx .ret) .skip)) (.seq aOw (.seq aOv .ret))))))
theorem aQc:Tryz.f14.body=some aI0:=aa
section
variable {t:List GN}{vn vp:Value}{b:Int}{L:List GE}{m:Nat}{P:Nat->Prop}{ve:Value}{a:Act}{w:World}{R:Exit->Act->World->Prop}{path:List Int}{k x c:Int}{f:Bool}
theorem aLa (h:MAt t vn b L m P ve w)(hd:RdT t path)(hvl:∀ x ∈ t,x.values.length<=1000000)(hp:aU w P vp path)(hk:I64 k)(hx:I64 x)(hc:I64 c)(hfew:L.length+1<=100000)(hpl:path.length<=1000)
  (hsz:a.tmps.size=38)(e0:Ev a (.tmp 0)=.pointer (some ⟨m,0,none⟩))(e1:Ev a (.tmp 1)=vp)(e2:Ev a (.tmp 2)=.agg #[↑k,↑x,↑c])(e3:Ev a (.tmp 3)=.bool f)
  (hR:∀ a' w',a'.defers=a.defers->Ev a' (.tmp 8)=.bool (uV (aO t) b L (mkE path k x c f))->Ev a' (.tmp 9)=.int .i64 (aBd (aO t) (mkE path k x c f))->dA t vn b (qE (aO t) b L (mkE path k x c f)) m P ve w w'->R .ret a' w'):Code.wp Tryz.prog aI0 R a w:=by
 refine wp_seq (aKn hsz e2 ?_);intro a1 g1 e6;have hB:=Blk.new w 41 #[↑k,↑x,↑c];have hX:Ext w (w.alloc (.cells #[↑k,↑x,↑c] 41)):=(Ext.refl w).alloc' _;generalize w.alloc (.cells #[↑k,↑x,↑c] 41)=W at *;have z1:a1.tmps.size=38:=g1.sz.trans hsz;refine wp_seq (aKm (vp:=vp) z1 (g1.get 0 e0) (g1.get 1 e1) (h.ext hX).cell0 (aC7 t path P vn vp W hd (fun i hi=>Nat.lt_of_lt_of_le (h.lt i hi) hX.size) hvl (h.ext hX).tree (hp.ext hX)) ?_);intro a2 w2 g2 e11 hx2;have hE:=hX.trans' hx2;have z2:a2.tmps.size=38:=g2.sz.trans z1
 cases hw:aO t path with
 | false =>
  rw [hw] at e11;refine wp_seq (wp_seq (aDn (b:=true) z2 e11 (by simp [aTe]) ?_));intro a3 g3 e23;refine wp_cond_true e23 (wp_seq (aKl (g3.sz.trans z2) ?_));intro a4 g4 e8 e9;refine wp_ret (hR a4 w2 (g4.df.trans (g3.df.trans (g2.df.trans g1.df))) ?_ ?_ ?_)
  ·rw [e8];simp [uV,mkE,hw]
  ·rw [e9];simp [aBd,mkE,hw]
  ·have:qE (aO t) b L (mkE path k x c f)=L:=by simp [qE,mkE,hw]
   rw [this];exact dA.none h hE
 | true =>
  rw [hw] at e11;refine wp_seq (wp_seq (aDn (b:=false) z2 e11 (by simp [aTe]) ?_));intro a3 g3 e23;have z3:a3.tmps.size=38:=g3.sz.trans z2;refine wp_cond_false e23 (wp_skip ?_);obtain ⟨A,cc,rfl,hp1,hp2⟩:=hp.form;have hp':=hp.ext hE;have h2:=h.ext hE;refine wp_seq (aKk z3 (g3.get 0 (g2.get 0 (g1.get 0 e0))) (g3.get 1 (g2.get 1 (g1.get 1 e1))) (g3.get 3 (g2.get 3 (g1.get 3 e3))) (g3.get 6 (g2.get 6 e6)) (hB.ext hx2) (aKy (x:=mkE path k x c f) h2 ⟨hp',hk,hx,hc,by simp [mkE,I64]⟩ hfew hpl) ?_);intro a4 w4 hA4 g4 e12;have z4:a4.tmps.size=38:=g4.sz.trans z3;have hA:=dA.of_ext hE hA4;refine wp_seq (wp_seq (aKj z4 e12 ?_));intro a5 g5 e31;have z5:a5.tmps.size=38:=g5.sz.trans z4;have d5:a5.defers=a.defers:=g5.df.trans (g4.df.trans (g3.df.trans (g2.df.trans g1.df)));have e05:=g5.get 0 (g4.get 0 (g3.get 0 (g2.get 0 (g1.get 0 e0))));have e15:=g5.get 1 (g4.get 1 (g3.get 1 (g2.get 1 (g1.get 1 e1))))
  cases hh:fT (mkE path k x c f).path L with
  | true =>
   rw [hh] at e31;refine wp_cond_true e31 (wp_seq (aKi z5 ?_));intro a6 g6 e8 e9;refine wp_ret (hR a6 w4 (g6.df.trans d5) ?_ ?_ ?_)
   ·rw [e8];simp [uV,hh]
   ·rw [e9];simp [aBd,mkE,hw]
   ·have:qE (aO t) b L (mkE path k x c f)=dN L (mkE path k x c f):=by
     unfold qE;rw [if_pos (show aO t (mkE path k x c f).path=true from hw),if_pos hh]
    rw [this];exact hA
  | false =>
   rw [hh] at e31;refine wp_cond_false e31 (wp_skip ?_);obtain ⟨v4,m4,f4,b4⟩:=hA;refine wp_seq (aKh z5 e05 (aG2 m4) ?_);intro a6 w6 hC g6;have z6:a6.tmps.size=38:=g6.sz.trans z5;have hF:=dA.trans (L1:=L) f4 b4 hC;obtain ⟨v6,m6,f6,b6⟩:=hF
   have hpw:aU w6 P (.slice A path.length cc) path:=hp.carry (fun i hi hP=>f6.block i hi (fun hm=>by
    have h7:=h.excl i hP;rcases hm with hm | hm
    ·exact h7.1 hm
    ·exact h7.2 hm)) (fun _ _ h=>h)
   refine wp_seq (aKg z6 (g6.get 0 e05) (g6.get 1 e15) (aAy m6 hpw) ?_);intro a7 w7 hx7 g7 e8 e9
   have hE2:qE (aO t) b L (mkE path k x c f)=uF b (dN L (mkE path k x c f)):=by
    unfold qE;rw [if_pos (show aO t (mkE path k x c f).path=true from hw),if_neg (by rw [hh];simp)]
   refine wp_ret (hR a7 w7 (g7.df.trans (g6.df.trans d5)) ?_ ?_ ?_)
   ·rw [e8,wV]
    unfold uV;rw [if_pos (show aO t (mkE path k x c f).path=true from hw),if_neg (by rw [hh];simp)]
    rfl
   ·rw [e9];simp [aBd,mkE,hw]
   ·rw [hE2]
    exact dA.ext ⟨v6,m6,f6,b6⟩ hx7
theorem aG3 (h:MAt t vn b L m P ve w)(hd:RdT t path)(hvl:∀ x ∈ t,x.values.length<=1000000)(hp:aU w P vp path)(hk:I64 k)(hx:I64 x)(hc:I64 c)(hfew:L.length+1<=100000)(hpl:path.length<=1000) :
  Calls Tryz.prog 14 #[.pointer (some ⟨m,0,none⟩),vp,.agg #[↑k,↑x,↑c],.bool f] w fun e w'=>e=.returned (.tuple #[.bool (uV (aO t) b L (mkE path k x c f)),.int .i64 (aBd (aO t) (mkE path k x c f))])∧dA t vn b (qE (aO t) b L (mkE path k x c f)) m P ve w w':=by
 refine calls_of_wp Tryz.func14 aQc (aLa (f:=f) h hd hvl hp hk hx hc hfew hpl ?_ ?_ ?_ ?_ ?_ ?_)
 ·simp [Tryz.ntmps14]
 ·simp [Ev,Act.eval]
 ·simp [Ev,Act.eval]
 ·simp [Ev,Act.eval]
 ·simp [Ev,Act.eval]
 ·intro a' w' h1 h2 h3 h4
  refine bodyPost_ret (v:=.tuple #[.bool (uV (aO t) b L (mkE path k x c f)),.int .i64 (aBd (aO t) (mkE path k x c f))]) ?_ h1 ⟨rfl,h4⟩;have h5:a'.tmps[8]?.getD undef=.bool (uV (aO t) b L (mkE path k x c f)):=by rw [<- h2];simp [Ev,Act.eval]
  have h6:a'.tmps[9]?.getD undef=.int .i64 (aBd (aO t) (mkE path k x c f)):=by rw [<- h3];simp [Ev,Act.eval]
  simp [results,Tryz.results14,go_sem,h5,h6]
end
section
variable {ops:Array Oper}{Q:Exit->Act->World->Prop}{a:Act}{w w1:World}{rest:List Oper}{o:Oper}{d gd j:Nat}{v:Value}{want b:Bool}
theorem l_y (hg:o.guard=some (j,want))(hj:(ops[j]?).bind (fun x=>x.dst)=some gd)(hd:o.dst=some d)(hs:gd<a.tmps.size)(he:Ev a (.tmp gd)=.bool b)(hb:(b == want)=true)(hrun:(execOp (Ev a) o).run Tryz.prog w=.ok (.value v) w1)(h:WL ops Q rest (Pt a d v) w1):WL ops Q (o :: rest) a w:=aPs d v gd hg hj hs he hb hd hrun h
end
def aYg (t:List GN)(n1 vn:Value)(b:Int)(Lc Lm:List GE)(g:CA)(m:Nat)(S:Nat->Prop)(B:Nat)(w:World):Prop :=
 ∃ P1 v1 vm,oL t n1 b Lc g P1 v1 B w∧MAt t vn b Lm m S vm w∧(∀ k,mM m vm k->B<=k)∧(∀ k,S k∨mM m vm k->¬ g.M v1 k)∧∀ k,P1 k∨g.M v1 k->¬ mM m vm k
section
variable {t:List GN}{n1 vn:Value}{b:Int}{Lc Lm L:List GE}{g:CA}{m:Nat}{S:Nat->Prop}{B:Nat}{w w':World}
structure aX1 (S:Nat->Prop)(B:Nat)(w w':World):Prop where
 fr:Fr (fun k=>B<=k) w w'
 keep:aB S w w'
end
def eX:List GN:=[⟨1,⟨#[]⟩,0,9,[],[],[],[],.mk 0 0 ⟨#[]⟩ []⟩]
theorem aD5:aO eX [5]=true:=aa
theorem yV:aO eX [3]=true:=aa
theorem aD4:aO eX [8]=true:=aa
theorem rQ:cC eX=0:=aa
theorem rR:∀ x ∈ eX,jG x:=by
 intro x hx;simp only [eX,List.mem_singleton] at hx;subst hx;refine ⟨Y,Y,Y,Y,dl,Y⟩
def ent (z:Int)(f:Bool):GE:=mkE [z] 0 0 0 f
def lc1:List GE:=qE (aO eX) 7 [] (ent 5 false)
def lc2:List GE:=qE (aO eX) 7 lc1 (ent 3 false)
def lc3:List GE:=qE (aO eX) 7 lc2 (ent 8 false)
def ld3:List GE:=qE (aO eX) 7 lc2 (ent 8 true)
def ld4:List GE:=qE (aO eX) 7 ld3 (ent 3 false)
theorem aPq:lc1=[ent 5 false]:=aa
theorem aPp:lc2=[ent 3 false,ent 5 false]:=aa
theorem aPo:lc3=[ent 3 false,ent 5 false]:=aa
theorem aPn:ld3=[ent 3 false,ent 8 true]:=aa
theorem aIs:ld4=[{ ent 3 false with hits:=2 },ent 8 true]:=aa
theorem ll1:lc1.length<=10:=by rw [aPq];decide
theorem ll2:lc2.length<=10:=by rw [aPp];decide
theorem ll3:lc3.length=2:=by rw [aPo];rfl
theorem aV6:ld3.length<=10:=by rw [aPn];decide
theorem aV5:ld4.length=2:=by rw [aIs];rfl
theorem lb1:uV (aO eX) 7 [] (ent 5 false)=true:=aa
theorem lb2:uV (aO eX) 7 lc1 (ent 3 false)=true:=aa
theorem lb3:uV (aO eX) 7 lc2 (ent 8 false)=false:=aa
theorem aV8:uV (aO eX) 7 lc2 (ent 8 true)=true:=aa
theorem aV7:uV (aO eX) 7 ld3 (ent 3 false)=false:=aa
theorem li (z:Int)(f:Bool)(h:aO eX [z]=true):aBd (aO eX) (ent z f)=0:=by
 unfold aBd;rw [show (ent z f).path=[z] from rfl,h]
 rfl
theorem aLe:dF lc3=6:=aa
theorem aWa:fT [5] lc3=true:=aa
theorem aTc:fT [5] ld4=false:=aa
theorem aTb:fT [8] ld4=true:=aa
noncomputable def R23:=RG Tryz.f23
noncomputable abbrev aI2:Code:=.seq (R23 13) (.seq (.seq (R23 14) (.cond (.tmp 87) (.seq (R23 15) .ret) .skip)) (.seq (R23 16) .ret))
noncomputable abbrev aP4:Code:=.seq (R23 6) (.seq (R23 7) (.seq (R23 8) (.seq (R23 9) (.seq (R23 10) (.seq (R23 11) (.seq (R23 12) aI2))))))
noncomputable abbrev aIz:Code:=.seq (R23 0) (.seq (R23 1) (.seq (R23 2) (.seq (R23 3) (.seq (.seq (R23 4) (.cond (.tmp 39) (.seq (R23 5) .ret) .skip)) aP4))))
theorem aQb:Tryz.f23.body=some aIz:=aa
theorem oF (w:World)(z:Int)(hz:I64 z):aU (w.alloc (.cells #[↑z] 3)) (fun b=>b=w.heap.size) (.slice (some ⟨w.heap.size,0,none⟩) 1 1) [z] :=
 ⟨some ⟨w.heap.size,0,none⟩,1,rfl,Nat.le_refl _,Y,bj,Y,fun _=>⟨w.heap.size,0,rfl,rfl,fun j u hu=>by rw [fV];simpa using hu⟩⟩
theorem iT {n1 n2:Value}{L1 L2 L1':List GE}{g1 g2:CA}{B:Nat}{w:World}{r:Bool}(h:gP eX n1 n2 7 7 L1 L2 g1 g2 B w)(z:Int)(f:Bool)(hz:I64 z)(hw:aO eX [z]=true)(hr:uV (aO eX) 7 L1 (ent z f)=r)(hL:qE (aO eX) 7 L1 (ent z f)=L1')(hfew:L1.length<=10) :
  Calls Tryz.prog 12 #[.pointer (some ⟨g1.c,0,none⟩),.slice (some ⟨w.heap.size,0,none⟩) 1 1,aAg 0 0 0,.bool f] (w.alloc (.cells #[↑z] 3)) fun e w'=>e=.returned (.tuple #[.bool r,.int .i64 0])∧(gP eX n1 n2 7 7 L1' L2 g1 g2 B w'∧Fr (fun k=>B<=k) w w'):=by
 refine (h.add ((Ext.refl w).alloc' _) (oF w z hz) (fun i hi=>.inr U) 0 0 0 f ak ak ak U Y).mono ?_;rintro e w' ⟨rfl,h1,h2⟩;subst hr hL;refine ⟨?_,h1,(Fr.of_ext ((Ext.refl w).alloc' _)).trans h2⟩;rw [show mkE [z] 0 0 0 f=ent z f from rfl,li z f hw]
section
variable {a:Act}{w ws:World}{g1 g2:CA}{n1 n2:Value}{B:Nat}{R:Exit->Act->World->Prop}
theorem aPm (sz:a.tmps.size=125)(df:a.defers=[])(e2:Ev a (.tmp 2)=.pointer (some ⟨g1.c,0,none⟩))(e4:Ev a (.tmp 4)=.pointer (some ⟨g2.c,0,none⟩))(e6:Ev a (.tmp 6)=.bool false)(e8:Ev a (.tmp 8)=.bool true)(e10:Ev a (.tmp 10)=.bool false)(h:gP eX n1 n2 7 7 lc3 ld4 g1 g2 B w)(hF:Fr (fun k=>B<=k) ws w)(hB:ws.heap.size<=B)
  (hQ:∀ a' w',a'.defers=[]->Ev a' (.tmp 0)=.bool true->Ext ws w'->R .ret a' w'):Code.wp Tryz.prog aI2 R a w:=by
 refine wp_seq (rW ?_);refine lv ?_;refine lc Tryz.func54 h.swap.entriesOf ?_;rintro e w1 ⟨A,c,rfl,hE,hx⟩;refine ⟨_,rfl,?_⟩;refine lv ?_;refine lE a [2,4,6,8,10] 12 ?_;intro a1 u1 e12;have h1:=h.ext hx;rw [aV5] at e12;rw [aIs] at hE;obtain ⟨b,off,A',d,rfl,-,-,hgc⟩:=hE.get (i:=0) am;have sz1:=u1.sz.trans sz;have f2:=u1.get 2 e2;refine wp_seq (wp_seq (rW ?_))
 iterate 4 refine lv ?_
 refine ly ?_;refine lcg Tryz.func54 h1.entriesOf ?_;rintro e w2 ⟨A2,c2,rfl,-,hx2⟩;have l3:=ll3;refine ⟨_,rfl,?_⟩
 iterate 2 refine ly ?_
 refine lv ?_;refine lE a1 [2,4,6,8,10,12] 87 ?_;intro a2 u2 e87;refine wp_cond_false e87 (wp_skip ?_);have h2:=h1.ext hx2;have hits:=aA hx2 (hgc 5 (.int .i64 2) rfl);have bt:=h2.bytes;rw [aLe] at bt;have sz2:=u2.sz.trans sz1;have g2':=u2.get 2 f2;have g4:=u2.get 4 (u1.get 4 e4);have g6:=u2.get 6 (u1.get 6 e6);have g8:=u2.get 8 (u1.get 8 e8);have g10:=u2.get 10 (u1.get 10 e10);have g12:=u2.get 12 e12;refine wp_seq (rW ?_)
 iterate 3 refine lv ?_
 refine ly ?_
 iterate 2 refine lv ?_
 iterate 2 refine ly ?_
 iterate 2 refine lv ?_
 refine ly ?_;refine lcg Tryz.func15 bt ?_;rintro e w3 ⟨rfl,hx3⟩;refine ⟨_,rfl,?_⟩;refine ly ?_
 iterate 2 refine lv ?_
 iterate 2 refine ly ?_
 have hx3':=hx3.alloc' (.cells #[.int .i64 5] 3);have q:=(h2.ext hx3').has (oF w3 5 ak);rw [aWa] at q;refine lcg Tryz.func19 q ?_;rintro e w4 ⟨rfl,hx4⟩;refine ⟨_,rfl,?_⟩
 iterate 2 refine lv ?_
 iterate 2 refine ly ?_
 have hx4':=(hx3'.trans' hx4).alloc' (.cells #[.int .i64 5] 3);have q:=(h2.ext hx4').swap.has (oF w4 5 ak);rw [aTc] at q;refine lcg Tryz.func19 q ?_;rintro e w5 ⟨rfl,hx5⟩;refine ⟨_,rfl,?_⟩;refine ly ?_
 iterate 2 refine lv ?_
 iterate 2 refine ly ?_
 have hx5':=(hx4'.trans' hx5).alloc' (.cells #[.int .i64 8] 3);have q:=(h2.ext hx5').swap.has (oF w5 8 ak);rw [aTb] at q;refine lcg Tryz.func19 q ?_;rintro e w6 ⟨rfl,hx6⟩;refine ⟨_,rfl,?_⟩;have hx6':=hx5'.trans' hx6;have hits6:=aA hx6' hits
 iterate 2 refine lv ?_
 iterate 5 refine ly ?_
 iterate 2 refine lv ?_
 refine lE a2 [] 0 ?_;intro a3 u3 e0;refine wp_ret (hQ a3 w6 (u3.df.trans (u2.df.trans (u1.df.trans df))) e0 ?_);exact (((hF.trans (.of_ext hx)).trans (.of_ext hx2)).trans (.of_ext hx6')).new_ext (fun b hb=>by omega)
theorem aS8 (sz:a.tmps.size=125)(df:a.defers=[])(e2:Ev a (.tmp 2)=.pointer (some ⟨g1.c,0,none⟩))(e4:Ev a (.tmp 4)=.pointer (some ⟨g2.c,0,none⟩))(h:gP eX n1 n2 7 7 [] [] g1 g2 B w)(hF:Fr (fun k=>B<=k) ws w)(hB:ws.heap.size<=B)
  (hQ:∀ a' w',a'.defers=[]->Ev a' (.tmp 0)=.bool true->Ext ws w'->R .ret a' w'):Code.wp Tryz.prog aP4 R a w:=by
 refine wp_seq (rW ?_)
 iterate 3 refine lv ?_
 refine lc Tryz.func12 (iT (L1':=lc1) h 5 false ak aD5 lb1 rfl Y) ?_ (hv:=by simp [aAg, *]);rintro e w1 ⟨rfl,h1,f1⟩;refine ⟨_,rfl,?_⟩;refine lN a [2,4] ?_;intro a1 u1
 replace sz:=u1.sz.trans sz
 replace df:=u1.df.trans df
 replace e2:=u1.get 2 e2
 replace e4:=u1.get 4 e4
 refine wp_seq (rW ?_)
 iterate 3 refine lv ?_
 refine lc Tryz.func12 (iT (L1':=lc2) h1 3 false ak yV lb2 rfl ll1) ?_ (hv:=by simp [aAg, *]);rintro e w2 ⟨rfl,h2,f2⟩;refine ⟨_,rfl,?_⟩;refine lN a1 [2,4] ?_;intro a2 u2
 replace sz:=u2.sz.trans sz
 replace df:=u2.df.trans df
 replace e2:=u2.get 2 e2
 replace e4:=u2.get 4 e4
 refine wp_seq (rW ?_)
 iterate 3 refine lv ?_
 refine lc Tryz.func12 (iT (L1':=lc3) h2 8 false ak aD4 lb3 rfl ll2) ?_ (hv:=by simp [aAg, *]);rintro e w3 ⟨rfl,h3,f3⟩;refine ⟨_,rfl,?_⟩
 iterate 5 refine lv ?_
 refine lE a2 [2,4] 6 ?_;intro a3 u3 e6
 replace sz:=u3.sz.trans sz
 replace df:=u3.df.trans df
 replace e2:=u3.get 2 e2
 replace e4:=u3.get 4 e4
 refine wp_seq (rW ?_)
 iterate 3 refine lv ?_
 refine lc Tryz.func12 (iT (L1':=lc1) h3.swap 5 false ak aD5 lb1 rfl Y) ?_ (hv:=by simp [aAg, *]);rintro e w4 ⟨rfl,h4,f4⟩;refine ⟨_,rfl,?_⟩;refine lN a3 [2,4,6] ?_;intro a4 u4
 replace sz:=u4.sz.trans sz
 replace df:=u4.df.trans df
 replace e2:=u4.get 2 e2
 replace e4:=u4.get 4 e4
 replace e6:=u4.get 6 e6
 refine wp_seq (rW ?_)
 iterate 3 refine lv ?_
 refine lc Tryz.func12 (iT (L1':=lc2) h4 3 false ak yV lb2 rfl ll1) ?_ (hv:=by simp [aAg, *]);rintro e w5 ⟨rfl,h5,f5⟩;refine ⟨_,rfl,?_⟩;refine lN a4 [2,4,6] ?_;intro a5 u5
 replace sz:=u5.sz.trans sz
 replace df:=u5.df.trans df
 replace e2:=u5.get 2 e2
 replace e4:=u5.get 4 e4
 replace e6:=u5.get 6 e6
 refine wp_seq (rW ?_)
 iterate 3 refine lv ?_
 refine lc Tryz.func12 (iT (L1':=ld3) h5 8 true ak aD4 aV8 rfl ll2) ?_ (hv:=by simp [aAg, *]);rintro e w6 ⟨rfl,h6,f6⟩;refine ⟨_,rfl,?_⟩
 iterate 5 refine lv ?_
 refine lE a5 [2,4,6] 8 ?_;intro a6 u6 e8
 replace sz:=u6.sz.trans sz
 replace df:=u6.df.trans df
 replace e2:=u6.get 2 e2
 replace e4:=u6.get 4 e4
 replace e6:=u6.get 6 e6
 refine wp_seq (rW ?_)
 iterate 3 refine lv ?_
 refine lc Tryz.func12 (iT (L1':=ld4) h6 3 false ak yV aV7 rfl aV6) ?_ (hv:=by simp [aAg, *]);rintro e w7 ⟨rfl,h7,f7⟩;refine ⟨_,rfl,?_⟩
 iterate 5 refine lv ?_
 refine lE a6 [2,4,6,8] 10 ?_;intro a7 u7 e10;exact aPm (u7.sz.trans sz) (u7.df.trans df) (u7.get 2 e2) (u7.get 4 e4) (u7.get 6 e6) (u7.get 8 e8) e10 h7.swap (((((((hF.trans f1).trans f2).trans f3).trans f4).trans f5).trans f6).trans f7) hB hQ
theorem aG4 (sz:a.tmps.size=125)(df:a.defers=[])(hQ:∀ a' w',a'.defers=[]->Ev a' (.tmp 0)=.bool true->Ext w w'->R .ret a' w'):Code.wp Tryz.prog aIz R a w:=by
 refine wp_seq (rW ?_);refine lv ?_;refine lN a [] ?_;intro a1 u1
 replace sz:=u1.sz.trans sz
 replace df:=u1.df.trans df
 obtain ⟨W1,hW1⟩:∃ W1,W1=w.alloc (.cells (aL (⟨1,⟨#[]⟩,0,9,[],[],[],[],.mk 0 0 ⟨#[]⟩ []⟩:GN) ⟨none,0,none,0,none,0,none,0,none,0⟩).toArray 87):=⟨_,rfl⟩;have xs1:W1.heap.size=w.heap.size+1:=by rw [hW1];exact World.size_alloc _ _
 have x1:Ext w W1:=by rw [hW1];exact (Ext.refl w).alloc' _
 have nd1:Nds W1 (fun b=>b=w.heap.size) (.slice (some ⟨w.heap.size,0,none⟩) 1 1) eX:=by
  refine ⟨some ⟨w.heap.size,0,none⟩,1,aL (⟨1,⟨#[]⟩,0,9,[],[],[],[],.mk 0 0 ⟨#[]⟩ []⟩:GN) ⟨none,0,none,0,none,0,none,0,none,0⟩,rfl,Nat.le_refl _,by simp [eX],⟨rfl,fun _=>⟨w.heap.size,0,rfl,rfl,fun j u hu=>by rw [hW1,fV];simpa using hu⟩⟩,?_⟩;exact RL.one ⟨⟨none,0,none,0,none,0,none,0,none,0⟩,rfl,⟨ak,dh,ak,ak,aU.nil,uP.nil,bV.nil,aU.nil,VAt.noKids ak ak am⟩⟩
 refine wp_seq (rW ?_);refine lv ?_;refine lv (w1:=W1) (v:=.slice (some ⟨w.heap.size,0,none⟩) 1 1) ?_ rfl rfl (by rw [hW1];simp [execOp,go_sem, *];rfl);clear hW1;have b2:=Blk.new' W1 25 #[.slice none 0 0] xs1.symm;have x2:Ext W1 (W1.alloc (.cells #[.slice none 0 0] 25)):=(Ext.refl W1).alloc' _
 iterate 2 refine lv ?_
 generalize W1.alloc (.cells #[.slice none 0 0] 25)=W2 at *;refine ls ?_ rfl rfl (by simp [execOp,go_sem,b2.cell,b2.frozen,sz];rfl);refine lE a1 [] 1 ?_;intro a2 u2 e1
 replace b2:=b2.set_ 0 (.slice (some ⟨w.heap.size,0,none⟩) 1 1)
 replace x2:Ext W1 (W2.setCell ⟨w.heap.size+1,0,none⟩ (.slice (some ⟨w.heap.size,0,none⟩) 1 1)):=x2.setCell' (p:=⟨w.heap.size+1,0,none⟩) (by show W1.heap.size<=w.heap.size+1;omega) _
 replace sz:=u2.sz.trans sz
 replace df:=u2.df.trans df
 refine wp_seq (rW ?_);generalize W2.setCell ⟨w.heap.size+1,0,none⟩ (.slice (some ⟨w.heap.size,0,none⟩) 1 1)=W2 at *;have hs2:=x2.size;have c2:=b2.cell' 0 rfl;refine lv ?_;refine lc Tryz.func10 (pH eX (fun b=>b=w.heap.size) _ 7 W2 (fun k hk=>by omega) (nd1.ext x2) rR rQ U) ?_;rintro e w3 ⟨g1,P1,n1,rfl,hm1,hx3⟩;refine ⟨_,rfl,?_⟩
 iterate 5 refine lv ?_
 refine lE2 a2 [1] 2 3 ?_;intro a3 u3 e2 e3
 replace sz:=u3.sz.trans sz
 replace df:=u3.df.trans df
 replace e1:=u3.get 1 e1
 have hs3:=hx3.size
 replace c2:=(b2.ext hx3).cell' 0 rfl
 refine wp_seq (rW ?_);refine lv ?_;refine lc Tryz.func10 (pH eX (fun b=>b=w.heap.size) _ 7 w3 (fun k hk=>by omega) (nd1.ext (x2.trans' hx3)) rR rQ U) ?_;rintro e w4 ⟨g2,P2,n2,rfl,hm2,hx4⟩;refine ⟨_,rfl,?_⟩
 iterate 5 refine lv ?_
 refine lE2 a3 [2,3] 4 5 ?_;intro a4 u4 e4 e5
 replace sz:=u4.sz.trans sz
 replace df:=u4.df.trans df
 replace e2:=u4.get 2 e2
 replace e3:=u4.get 3 e3
 refine wp_seq (wp_seq (rW ?_))
 iterate 3 refine lv ?_
 iterate 2 refine ly ?_
 iterate 2 refine lv ?_
 iterate 2 refine ly ?_
 iterate 2 refine lv ?_
 iterate 2 refine ly ?_
 refine lv ?_;refine lE a4 [2,4] 39 ?_;intro a5 u5 e39;refine wp_cond_false e39 (wp_skip ?_);exact aS8 (u5.sz.trans sz) (u5.df.trans df) (u5.get 2 e2) (u5.get 4 e4) (gP.two hm1 (Nat.le_refl _) hx4 hm2) (.of_ext (((x1.trans' x2).trans' hx3).trans' hx4)) U hQ
end
theorem aD3 (w:World):Calls Tryz.prog 23 #[] w (dV (.bool true) w):=by
 refine calls_of_wp Tryz.func23 aQb (aG4 ?_ rfl ?_)
 ·simp [Tryz.ntmps23]
 ·intro a' w' h1 h2 h3
  refine bodyPost_ret (v:=.bool true) ?_ h1 ⟨rfl,h3⟩;have h5:a'.tmps[0]?.getD undef=.bool true:=by rw [<- h2];simp [Ev,Act.eval]
  simp [results,Tryz.results23,go_sem,h5]
noncomputable def aYe:=RG Tryz.f3 0
noncomputable def aYd:=RG Tryz.f3 1
noncomputable def aYc:=RG Tryz.f3 2
noncomputable def aYb:=RG Tryz.f3 3
noncomputable def aYa:=RG Tryz.f3 4
noncomputable def aX9:=RG Tryz.f3 5
noncomputable def aX8:=RG Tryz.f3 6
noncomputable def aUi:=RG Tryz.f3 7
noncomputable def aX7:=RG Tryz.f3 8
noncomputable def aX6:=RG Tryz.f3 9
noncomputable def aV3:=RG Tryz.f3 10
noncomputable def aV2:=RG Tryz.f3 11
noncomputable def aV1:=RG Tryz.f3 12
noncomputable def aV0:=RG Tryz.f3 13
noncomputable def aVz:=RG Tryz.f3 14
noncomputable def aVy:=RG Tryz.f3 15
noncomputable def aVx:=RG Tryz.f3 16
noncomputable def aVw:=RG Tryz.f3 17
noncomputable def aVv:=RG Tryz.f3 18
noncomputable def aVu:=RG Tryz.f3 19
noncomputable def aVt:=RG Tryz.f3 20
section
variable {ops:Array Oper}{K:Act->World->Prop}{S:World->Prop}{bf:Nat->Bool}{n:Nat}{is:List Nat}{a:Act}{w:World}{o:Oper}{d gd:Nat}{j:Nat}{want b:Bool}{f:FuncId}{xs:Array Operand}{ats:Array TypeId}{fn:Func}{vs:Array Value}{R:Ending->World->Prop}
theorem d_c (i:Nat)(hr:Region.ready .any ops (mkL ops.size is)=[i])(hi:ops[i]?=some o)(hg:o.guard=none)(hd:o.dst=some d)(hop:o.op=Op.call { callee:=Callee.value (Operand.func f),args:=xs,argTypes:=ats })(hf:Tryz.prog.funcs[f]?=some fn)(hn:(fn.name == "runtime.NumGoroutine")=false) (hb:fn.body.isNone=false)
  (hc:Calls Tryz.prog f vs w R)(hv:xs.map (Ev a)=vs)(h:∀ e w',R e w'->∃ v,e=.returned v∧(bf i=true->S w')∧WD ops K S bf n (i :: is) (Pt a d v) w'):WD ops K S bf (n+1) is a w:=aIu i d hr hi hg hd f xs ats hop fn hf hn hb vs hv (hc.mono h)
theorem aUz (i:Nat)(hr:Region.ready .any ops (mkL ops.size is)=[i])(hi:ops[i]?=some o)(hg:o.guard=some (j,want))(hj:(ops[j]?).bind (fun x=>x.dst)=some gd)(hs:gd<a.tmps.size)(he:Ev a (.tmp gd)=.bool b)(hbw:(b == want)=true)(hd:o.dst=some d)(hop:o.op=Op.call { callee:=Callee.value (Operand.func f),args:=xs,argTypes:=ats })(hf:Tryz.prog.funcs[f]?=some fn)(hn:(fn.name == "runtime.NumGoroutine")=false) (hb:fn.body.isNone=false)
  (hc:Calls Tryz.prog f vs w R)(hv:xs.map (Ev a)=vs)(h:∀ e w',R e w'->∃ v,e=.returned v∧(bf i=true->S w')∧WD ops K S bf n (i :: is) (Pt a d v) w'):WD ops K S bf (n+1) is a w:=aLl i d gd hr hi hg hj hs he hbw hd f xs ats hop fn hf hn hb vs hv (hc.mono h)
end
def GS (b o:Nat)(x:GG)(A:Option Addr)(d:Nat)(w:World):Prop:=w.cell? ⟨b,o,none⟩=some (.slice A x.path.length d)∧w.cell? ⟨b,o+1,none⟩=some (↑x.kind)∧w.cell? ⟨b,o+2,none⟩=some (↑x.at_)∧w.cell? ⟨b,o+3,none⟩=some (↑x.code)∧w.cell? ⟨b,o+4,none⟩=some (.bool x.fresh)
theorem GS.of {b o:Nat}{x:GG}{A:Option Addr}{d:Nat}{w:World}(h:∀ j u,(pO x A d)[j]?=some u->w.cell? ⟨b,o+j,none⟩=some u):GS b o x A d w:=⟨h 0 _ rfl,h 1 _ rfl,h 2 _ rfl,h 3 _ rfl,h 4 _ rfl⟩
section
variable {Q:Exit->Act->World->Prop}{a:Act}{w:World}{gt m gc:Nat}{b bu z z2:Int}{A Ag_:Option Addr}{c cg n i:Nat}{v vk vl vn:Value}{R:World->Prop}
end
theorem aB.cell {S:Nat->Prop}{w w':World}(h:aB S w w'){b o:Nat}{u:Value}(hb:S b)(hc:w.cell? ⟨b,o,none⟩=some u):w'.cell? ⟨b,o,none⟩=some u:=(World.cell?_of_block (w:=w) (w':=w') (h b (aQ hc) hb)).trans hc
theorem GS.keep {S:Nat->Prop}{w w':World}(h:aB S w w'){b o:Nat}{x:GG}{A:Option Addr}{d:Nat}(hb:S b)(hc:GS b o x A d w):GS b o x A d w':=⟨h.cell hb hc.1,h.cell hb hc.2.1,h.cell hb hc.2.2.1,h.cell hb hc.2.2.2.1,h.cell hb hc.2.2.2.2⟩
theorem GS.ext {w w':World}(h:Ext w w'){b o:Nat}{x:GG}{A:Option Addr}{d:Nat}(hc:GS b o x A d w):GS b o x A d w':=hc.keep (aB.of_ext (P:=fun _=>True) h) trivial
theorem aA3 (b:Int):∀ (n:Nat)(L:List GE),(aLn b n L).length<=L.length
 | 0,L=>Nat.le_refl _
 | n+1,L=>by
  unfold aLn
  split
  ·refine Nat.le_trans (aA3 b n _) ?_
   rw [List.length_eraseIdx]
   split <;> omega
  ·exact Nat.le_refl _
theorem aH6 (ok:List Int->Bool)(b:Int)(L:List GE)(x:GE):(qE ok b L x).length<=L.length+1:=by
 have h1:(dN L x).length<=L.length+1:=by rw [tU];exact wO L x
 unfold qE
 split
 ·split
  ·exact h1
  ·exact Nat.le_trans (aA3 b _ _) h1
 ·omega
end Go.Proofs.YtkoeecdjijfjnaaGreat
