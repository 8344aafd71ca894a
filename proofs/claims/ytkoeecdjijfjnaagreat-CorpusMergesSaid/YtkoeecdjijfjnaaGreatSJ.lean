/- Contracts of functions, plain laws. Conditions: none. -/
import Derived.Test.YtkoeecdjijfjnaaGreatSI
import Derived.Test.YtkoeecdjijfjnaaGreatL4
set_option maxRecDepth 100000
set_option maxHeartbeats 8000000
namespace Go.Proofs.YtkoeecdjijfjnaaGreat
open Go.RowKit
def eY:List GN:=[⟨1,⟨#[]⟩,0,9,[],[],[],[],.mk 0 0 ⟨#[]⟩ []⟩]
theorem aEh:aQ eY [5]=true:=Y
theorem yJ:aQ eY [3]=true:=Y
theorem aEg:aQ eY [8]=true:=Y
theorem rC:bY eY=0:=Y
theorem rE:∀ x ∈ eY,dG x:=by
 intro x hx;simp only [eY,List.mem_singleton] at hx;subst hx;refine ⟨U,U,U,U,cu,U⟩
def ent (z:Int)(f:Bool):GE:=mkE [z] 0 0 0 f
def lc1:List GE:=pX (aQ eY) 7 [] (ent 5 false)
def lc2:List GE:=pX (aQ eY) 7 lc1 (ent 3 false)
def lc3:List GE:=pX (aQ eY) 7 lc2 (ent 8 false)
def ld3:List GE:=pX (aQ eY) 7 lc2 (ent 8 true)
def ld4:List GE:=pX (aQ eY) 7 ld3 (ent 3 false)
theorem aS9:lc1=[ent 5 false]:=Y
theorem aS8:lc2=[ent 3 false,ent 5 false]:=Y
theorem aS7:lc3=[ent 3 false,ent 5 false]:=Y
theorem aS6:ld3=[ent 3 false,ent 8 true]:=Y
theorem aKu:ld4=[{ ent 3 false with hits:=2 },ent 8 true]:=Y
theorem ll1:lc1.length<=10:=by rw [aS9];decide
theorem ll2:lc2.length<=10:=by rw [aS8];decide
theorem ll3:lc3.length=2:=by rw [aS7];rfl
theorem aY0:ld3.length<=10:=by rw [aS6];decide
theorem aYz:ld4.length=2:=by rw [aKu];rfl
theorem lb1:uF (aQ eY) 7 [] (ent 5 false)=true:=Y
theorem lb2:uF (aQ eY) 7 lc1 (ent 3 false)=true:=Y
theorem lb3:uF (aQ eY) 7 lc2 (ent 8 false)=false:=Y
theorem aY2:uF (aQ eY) 7 lc2 (ent 8 true)=true:=Y
theorem aY1:uF (aQ eY) 7 ld3 (ent 3 false)=false:=Y
theorem li (z:Int)(f:Bool)(h:aQ eY [z]=true):aAt (aQ eY) (ent z f)=0:=by
 unfold aAt;rw [show (ent z f).path=[z] from rfl,h]
 rfl
theorem aO1:dF lc3=6:=Y
theorem aY4:fG [5] lc3=true:=Y
theorem aWv:fG [5] ld4=false:=Y
theorem aWu:fG [8] ld4=true:=Y
noncomputable def R23:=RG Tryz.f23
noncomputable abbrev aLb:Code:=.seq (R23 13) (.seq (.seq (R23 14) (.cond (.tmp 87) (.seq (R23 15) .ret) .skip)) (.seq (R23 16) .ret))
noncomputable abbrev aTp:Code:=.seq (R23 6) (.seq (R23 7) (.seq (R23 8) (.seq (R23 9) (.seq (R23 10) (.seq (R23 11) (.seq (R23 12) aLb))))))
noncomputable abbrev aK6:Code:=.seq (R23 0) (.seq (R23 1) (.seq (R23 2) (.seq (R23 3) (.seq (.seq (R23 4) (.cond (.tmp 39) (.seq (R23 5) .ret) .skip)) aTp))))
theorem aTx:Tryz.f23.body=some aK6:=Y
theorem nT (w:World)(z:Int)(hz:I64 z):bM (w.alloc (.cells #[↑z] 3)) (fun b=>b=w.heap.size) (.slice (some ⟨w.heap.size,0,none⟩) 1 1) [z] :=
 ⟨some ⟨w.heap.size,0,none⟩,1,rfl,Nat.le_refl _,U,bh,U,fun _=>⟨w.heap.size,0,rfl,rfl,fun j u hu=>by rw [iU];simpa using hu⟩⟩
theorem iQ {n1 n2:Value}{L1 L2 L1':List GE}{g1 g2:CA}{B:Nat}{w:World}{r:Bool}(h:gQ eY n1 n2 7 7 L1 L2 g1 g2 B w)(z:Int)(f:Bool)(hz:I64 z)(hw:aQ eY [z]=true)(hr:uF (aQ eY) 7 L1 (ent z f)=r)(hL:pX (aQ eY) 7 L1 (ent z f)=L1')(hfew:L1.length<=10) :
  Calls Tryz.prog 12 #[.pointer (some ⟨g1.c,0,none⟩),.slice (some ⟨w.heap.size,0,none⟩) 1 1,zN 0 0 0,.bool f] (w.alloc (.cells #[↑z] 3)) fun e w'=>e=.returned (.tuple #[.bool r,.int .i64 0])∧(gQ eY n1 n2 7 7 L1' L2 g1 g2 B w'∧Fr (fun k=>B<=k) w w'):=by
 refine (h.add ((Ext.refl w).alloc' _) (nT w z hz) (fun i hi=>.inr D) 0 0 0 f aj aj aj D U).mono ?_;rintro e w' ⟨rfl,h1,h2⟩;subst hr hL;refine ⟨?_,h1,(Fr.of_ext ((Ext.refl w).alloc' _)).trans h2⟩;rw [show mkE [z] 0 0 0 f=ent z f from rfl,li z f hw]
section
variable {a:Act}{w ws:World}{g1 g2:CA}{n1 n2:Value}{B:Nat}{R:Exit->Act->World->Prop}
theorem aS5 (sz:a.tmps.size=125)(df:a.defers=[])(e2:Ev a (.tmp 2)=.pointer (some ⟨g1.c,0,none⟩))(e4:Ev a (.tmp 4)=.pointer (some ⟨g2.c,0,none⟩))(e6:Ev a (.tmp 6)=.bool false)(e8:Ev a (.tmp 8)=.bool true)(e10:Ev a (.tmp 10)=.bool false)(h:gQ eY n1 n2 7 7 lc3 ld4 g1 g2 B w)(hF:Fr (fun k=>B<=k) ws w)(hB:ws.heap.size<=B)
  (hQ:∀ a' w',a'.defers=[]->Ev a' (.tmp 0)=.bool true->Ext ws w'->R .ret a' w'):Code.wp Tryz.prog aLb R a w:=by
 refine wp_seq (rW ?_);refine lv ?_;refine lc Tryz.func54 h.swap.entriesOf ?_;rintro e w1 ⟨A,c,rfl,hE,hx⟩;refine ⟨_,rfl,?_⟩;refine lv ?_;refine lE a [2,4,6,8,10] 12 ?_;intro a1 u1 e12;have h1:=h.ext hx;rw [aYz] at e12;rw [aKu] at hE;obtain ⟨b,off,A',d,rfl,-,-,hgc⟩:=hE.get (i:=0) ao;have sz1:=u1.sz.trans sz;have f2:=u1.get 2 e2;refine wp_seq (wp_seq (rW ?_))
 iterate 4 refine lv ?_
 refine ly ?_;refine lcg Tryz.func54 h1.entriesOf ?_;rintro e w2 ⟨A2,c2,rfl,-,hx2⟩;have l3:=ll3;refine ⟨_,rfl,?_⟩
 iterate 2 refine ly ?_
 refine lv ?_;refine lE a1 [2,4,6,8,10,12] 87 ?_;intro a2 u2 e87;refine wp_cond_false e87 (wp_skip ?_);have h2:=h1.ext hx2;have hits:=aA hx2 (hgc 5 (.int .i64 2) rfl);have bt:=h2.bytes;rw [aO1] at bt;have sz2:=u2.sz.trans sz1;have g2':=u2.get 2 f2;have g4:=u2.get 4 (u1.get 4 e4);have g6:=u2.get 6 (u1.get 6 e6);have g8:=u2.get 8 (u1.get 8 e8);have g10:=u2.get 10 (u1.get 10 e10);have g12:=u2.get 12 e12;refine wp_seq (rW ?_)
 iterate 3 refine lv ?_
 refine ly ?_
 iterate 2 refine lv ?_
 iterate 2 refine ly ?_
 iterate 2 refine lv ?_
 refine ly ?_;refine lcg Tryz.func15 bt ?_;rintro e w3 ⟨rfl,hx3⟩;refine ⟨_,rfl,?_⟩;refine ly ?_
 iterate 2 refine lv ?_
 iterate 2 refine ly ?_
 have hx3':=hx3.alloc' (.cells #[.int .i64 5] 3);have q:=(h2.ext hx3').has (nT w3 5 aj);rw [aY4] at q;refine lcg Tryz.func19 q ?_;rintro e w4 ⟨rfl,hx4⟩;refine ⟨_,rfl,?_⟩
 iterate 2 refine lv ?_
 iterate 2 refine ly ?_
 have hx4':=(hx3'.trans' hx4).alloc' (.cells #[.int .i64 5] 3);have q:=(h2.ext hx4').swap.has (nT w4 5 aj);rw [aWv] at q;refine lcg Tryz.func19 q ?_;rintro e w5 ⟨rfl,hx5⟩;refine ⟨_,rfl,?_⟩;refine ly ?_
 iterate 2 refine lv ?_
 iterate 2 refine ly ?_
 have hx5':=(hx4'.trans' hx5).alloc' (.cells #[.int .i64 8] 3);have q:=(h2.ext hx5').swap.has (nT w5 8 aj);rw [aWu] at q;refine lcg Tryz.func19 q ?_;rintro e w6 ⟨rfl,hx6⟩;refine ⟨_,rfl,?_⟩;have hx6':=hx5'.trans' hx6;have hits6:=aA hx6' hits
 iterate 2 refine lv ?_
 iterate 5 refine ly ?_
 iterate 2 refine lv ?_
 refine lE a2 [] 0 ?_;intro a3 u3 e0;refine wp_ret (hQ a3 w6 (u3.df.trans (u2.df.trans (u1.df.trans df))) e0 ?_);exact (((hF.trans (.of_ext hx)).trans (.of_ext hx2)).trans (.of_ext hx6')).new_ext (fun b hb=>by omega)
theorem aWs (sz:a.tmps.size=125)(df:a.defers=[])(e2:Ev a (.tmp 2)=.pointer (some ⟨g1.c,0,none⟩))(e4:Ev a (.tmp 4)=.pointer (some ⟨g2.c,0,none⟩))(h:gQ eY n1 n2 7 7 [] [] g1 g2 B w)(hF:Fr (fun k=>B<=k) ws w)(hB:ws.heap.size<=B)
  (hQ:∀ a' w',a'.defers=[]->Ev a' (.tmp 0)=.bool true->Ext ws w'->R .ret a' w'):Code.wp Tryz.prog aTp R a w:=by
 refine wp_seq (rW ?_)
 iterate 3 refine lv ?_
 refine lc Tryz.func12 (iQ (L1':=lc1) h 5 false aj aEh lb1 rfl U) ?_ (hv:=by simp [zN, *]);rintro e w1 ⟨rfl,h1,f1⟩;refine ⟨_,rfl,?_⟩;refine lN a [2,4] ?_;intro a1 u1
 replace sz:=u1.sz.trans sz
 replace df:=u1.df.trans df
 replace e2:=u1.get 2 e2
 replace e4:=u1.get 4 e4
 refine wp_seq (rW ?_)
 iterate 3 refine lv ?_
 refine lc Tryz.func12 (iQ (L1':=lc2) h1 3 false aj yJ lb2 rfl ll1) ?_ (hv:=by simp [zN, *]);rintro e w2 ⟨rfl,h2,f2⟩;refine ⟨_,rfl,?_⟩;refine lN a1 [2,4] ?_;intro a2 u2
 replace sz:=u2.sz.trans sz
 replace df:=u2.df.trans df
 replace e2:=u2.get 2 e2
 replace e4:=u2.get 4 e4
 refine wp_seq (rW ?_)
 iterate 3 refine lv ?_
 refine lc Tryz.func12 (iQ (L1':=lc3) h2 8 false aj aEg lb3 rfl ll2) ?_ (hv:=by simp [zN, *]);rintro e w3 ⟨rfl,h3,f3⟩;refine ⟨_,rfl,?_⟩
 iterate 5 refine lv ?_
 refine lE a2 [2,4] 6 ?_;intro a3 u3 e6
 replace sz:=u3.sz.trans sz
 replace df:=u3.df.trans df
 replace e2:=u3.get 2 e2
 replace e4:=u3.get 4 e4
 refine wp_seq (rW ?_)
 iterate 3 refine lv ?_
 refine lc Tryz.func12 (iQ (L1':=lc1) h3.swap 5 false aj aEh lb1 rfl U) ?_ (hv:=by simp [zN, *]);rintro e w4 ⟨rfl,h4,f4⟩;refine ⟨_,rfl,?_⟩;refine lN a3 [2,4,6] ?_;intro a4 u4
 replace sz:=u4.sz.trans sz
 replace df:=u4.df.trans df
 replace e2:=u4.get 2 e2
 replace e4:=u4.get 4 e4
 replace e6:=u4.get 6 e6
 refine wp_seq (rW ?_)
 iterate 3 refine lv ?_
 refine lc Tryz.func12 (iQ (L1':=lc2) h4 3 false aj yJ lb2 rfl ll1) ?_ (hv:=by simp [zN, *]);rintro e w5 ⟨rfl,h5,f5⟩;refine ⟨_,rfl,?_⟩;refine lN a4 [2,4,6] ?_;intro a5 u5
 replace sz:=u5.sz.trans sz
 replace df:=u5.df.trans df
 replace e2:=u5.get 2 e2
 replace e4:=u5.get 4 e4
 replace e6:=u5.get 6 e6
 refine wp_seq (rW ?_)
 iterate 3 refine lv ?_
 refine lc Tryz.func12 (iQ (L1':=ld3) h5 8 true aj aEg aY2 rfl ll2) ?_ (hv:=by simp [zN, *]);rintro e w6 ⟨rfl,h6,f6⟩;refine ⟨_,rfl,?_⟩
 iterate 5 refine lv ?_
 refine lE a5 [2,4,6] 8 ?_;intro a6 u6 e8
 replace sz:=u6.sz.trans sz
 replace df:=u6.df.trans df
 replace e2:=u6.get 2 e2
 replace e4:=u6.get 4 e4
 replace e6:=u6.get 6 e6
 refine wp_seq (rW ?_)
 iterate 3 refine lv ?_
 refine lc Tryz.func12 (iQ (L1':=ld4) h6 3 false aj yJ aY1 rfl aY0) ?_ (hv:=by simp [zN, *]);rintro e w7 ⟨rfl,h7,f7⟩;refine ⟨_,rfl,?_⟩
 iterate 5 refine lv ?_
 refine lE a6 [2,4,6,8] 10 ?_;intro a7 u7 e10;exact aS5 (u7.sz.trans sz) (u7.df.trans df) (u7.get 2 e2) (u7.get 4 e4) (u7.get 6 e6) (u7.get 8 e8) e10 h7.swap (((((((hF.trans f1).trans f2).trans f3).trans f4).trans f5).trans f6).trans f7) hB hQ
theorem aIe (sz:a.tmps.size=125)(df:a.defers=[])(hQ:∀ a' w',a'.defers=[]->Ev a' (.tmp 0)=.bool true->Ext w w'->R .ret a' w'):Code.wp Tryz.prog aK6 R a w:=by
 refine wp_seq (rW ?_);refine lv ?_;refine lN a [] ?_;intro a1 u1
 replace sz:=u1.sz.trans sz
 replace df:=u1.df.trans df
 obtain ⟨W1,hW1⟩:∃ W1,W1=w.alloc (.cells (aE (⟨1,⟨#[]⟩,0,9,[],[],[],[],.mk 0 0 ⟨#[]⟩ []⟩:GN) ⟨none,0,none,0,none,0,none,0,none,0⟩).toArray 87):=⟨_,rfl⟩;have xs1:W1.heap.size=w.heap.size+1:=by rw [hW1];exact World.size_alloc _ _
 have x1:Ext w W1:=by rw [hW1];exact (Ext.refl w).alloc' _
 have nd1:Nds W1 (fun b=>b=w.heap.size) (.slice (some ⟨w.heap.size,0,none⟩) 1 1) eY:=by
  refine ⟨some ⟨w.heap.size,0,none⟩,1,aE (⟨1,⟨#[]⟩,0,9,[],[],[],[],.mk 0 0 ⟨#[]⟩ []⟩:GN) ⟨none,0,none,0,none,0,none,0,none,0⟩,rfl,Nat.le_refl _,by simp [eY],⟨rfl,fun _=>⟨w.heap.size,0,rfl,rfl,fun j u hu=>by rw [hW1,iU];simpa using hu⟩⟩,?_⟩;exact RL.one ⟨⟨none,0,none,0,none,0,none,0,none,0⟩,rfl,⟨aj,bo,aj,aj,bM.nil,jT.nil,bW.nil,bM.nil,VAt.noKids aj aj ao⟩⟩
 refine wp_seq (rW ?_);refine lv ?_;refine lv (w1:=W1) (v:=.slice (some ⟨w.heap.size,0,none⟩) 1 1) ?_ rfl rfl (by rw [hW1];simp [execOp,go_sem, *];rfl);clear hW1;have b2:=Blk.new' W1 25 #[.slice none 0 0] xs1.symm;have x2:Ext W1 (W1.alloc (.cells #[.slice none 0 0] 25)):=(Ext.refl W1).alloc' _
 iterate 2 refine lv ?_
 generalize W1.alloc (.cells #[.slice none 0 0] 25)=W2 at *;refine ls ?_ rfl rfl (by simp [execOp,go_sem,b2.cell,b2.frozen,sz];rfl);refine lE a1 [] 1 ?_;intro a2 u2 e1
 replace b2:=b2.set_ 0 (.slice (some ⟨w.heap.size,0,none⟩) 1 1)
 replace x2:Ext W1 (W2.setCell ⟨w.heap.size+1,0,none⟩ (.slice (some ⟨w.heap.size,0,none⟩) 1 1)):=x2.setCell' (p:=⟨w.heap.size+1,0,none⟩) (by show W1.heap.size<=w.heap.size+1;omega) _
 replace sz:=u2.sz.trans sz
 replace df:=u2.df.trans df
 refine wp_seq (rW ?_);generalize W2.setCell ⟨w.heap.size+1,0,none⟩ (.slice (some ⟨w.heap.size,0,none⟩) 1 1)=W2 at *;have hs2:=x2.size;have c2:=b2.cell' 0 rfl;refine lv ?_;refine lc Tryz.func10 (oW eY (fun b=>b=w.heap.size) _ 7 W2 (fun k hk=>by omega) (nd1.ext x2) rE rC D) ?_;rintro e w3 ⟨g1,P1,n1,rfl,hm1,hx3⟩;refine ⟨_,rfl,?_⟩
 iterate 5 refine lv ?_
 refine lE2 a2 [1] 2 3 ?_;intro a3 u3 e2 e3
 replace sz:=u3.sz.trans sz
 replace df:=u3.df.trans df
 replace e1:=u3.get 1 e1
 have hs3:=hx3.size
 replace c2:=(b2.ext hx3).cell' 0 rfl
 refine wp_seq (rW ?_);refine lv ?_;refine lc Tryz.func10 (oW eY (fun b=>b=w.heap.size) _ 7 w3 (fun k hk=>by omega) (nd1.ext (x2.trans' hx3)) rE rC D) ?_;rintro e w4 ⟨g2,P2,n2,rfl,hm2,hx4⟩;refine ⟨_,rfl,?_⟩
 iterate 5 refine lv ?_
 refine lE2 a3 [2,3] 4 5 ?_;intro a4 u4 e4 e5
 replace sz:=u4.sz.trans sz
 replace df:=u4.df.trans df
 replace e2:=u4.get 2 e2
 replace e3:=u4.get 3 e3
 refine wp_seq (wp_seq (rW ?_))
 iterate 3 refine lv ?_
 iterate 2 refine ly ?_
 iterate 2 refine lv ?_
 iterate 2 refine ly ?_
 iterate 2 refine lv ?_
 iterate 2 refine ly ?_
 refine lv ?_;refine lE a4 [2,4] 39 ?_;intro a5 u5 e39;refine wp_cond_false e39 (wp_skip ?_);exact aWs (u5.sz.trans sz) (u5.df.trans df) (u5.get 2 e2) (u5.get 4 e4) (gQ.two hm1 (Nat.le_refl _) hx4 hm2) (.of_ext (((x1.trans' x2).trans' hx3).trans' hx4)) D hQ
end
theorem vW (w:World):Calls Tryz.prog 23 #[] w (cT (.bool true) w):=by
 refine calls_of_wp Tryz.func23 aTx (aIe ?_ rfl ?_)
 ·simp [Tryz.ntmps23]
 ·intro a' w' h1 h2 h3
  refine bodyPost_ret (v:=.bool true) ?_ h1 ⟨rfl,h3⟩;have h5:a'.tmps[0]?.getD undef=.bool true:=by rw [<- h2];simp [Ev,Act.eval]
  simp [results,Tryz.results23,go_sem,h5]
noncomputable def aZq:=RG Tryz.f3 0
noncomputable def aZp:=RG Tryz.f3 1
noncomputable def aZo:=RG Tryz.f3 2
noncomputable def aZn:=RG Tryz.f3 3
noncomputable def aZm:=RG Tryz.f3 4
noncomputable def aZl:=RG Tryz.f3 5
noncomputable def aZk:=RG Tryz.f3 6
noncomputable def aX1:=RG Tryz.f3 7
noncomputable def aZj:=RG Tryz.f3 8
noncomputable def aZi:=RG Tryz.f3 9
noncomputable def aYx:=RG Tryz.f3 10
noncomputable def aYw:=RG Tryz.f3 11
noncomputable def aYv:=RG Tryz.f3 12
noncomputable def aYu:=RG Tryz.f3 13
noncomputable def aYt:=RG Tryz.f3 14
noncomputable def aYs:=RG Tryz.f3 15
noncomputable def aYr:=RG Tryz.f3 16
noncomputable def aYq:=RG Tryz.f3 17
noncomputable def aYp:=RG Tryz.f3 18
noncomputable def aYo:=RG Tryz.f3 19
noncomputable def aYn:=RG Tryz.f3 20
section
variable {ops:Array Oper}{K:Act->World->Prop}{S:World->Prop}{bf:Nat->Bool}{n:Nat}{is:List Nat}{a:Act}{w:World}{o:Oper}{d gd:Nat}{j:Nat}{want b:Bool}{f:FuncId}{xs:Array Operand}{ats:Array TypeId}{fn:Func}{vs:Array Value}{R:Ending->World->Prop}
theorem d_c (i:Nat)(hr:Region.ready .any ops (mkL ops.size is)=[i])(hi:ops[i]?=some o)(hg:o.guard=none)(hd:o.dst=some d)(hop:o.op=Op.call { callee:=Callee.value (Operand.func f),args:=xs,argTypes:=ats })(hf:Tryz.prog.funcs[f]?=some fn)(hn:(fn.name == "runtime.NumGoroutine")=false) (hb:fn.body.isNone=false)
  (hc:Calls Tryz.prog f vs w R)(hv:xs.map (Ev a)=vs)(h:∀ e w',R e w'->∃ v,e=.returned v∧(bf i=true->S w')∧WD ops K S bf n (i :: is) (Pt a d v) w'):WD ops K S bf (n+1) is a w:=aKy i d hr hi hg hd f xs ats hop fn hf hn hb vs hv (hc.mono h)
theorem aKx (i:Nat)(hr:Region.ready .any ops (mkL ops.size is)=[i])(hi:ops[i]?=some o)(hg:o.guard=some (j,want))(hj:(ops[j]?).bind (fun x=>x.dst)=some gd)(hs:gd<a.tmps.size)(he:Ev a (.tmp gd)=.bool b)(hbw:(b == want)=true)(hd:o.dst=some d)(hop:o.op=Op.call { callee:=Callee.value (Operand.func f),args:=xs,argTypes:=ats })(hf:Tryz.prog.funcs[f]?=some fn)(hn:(fn.name == "runtime.NumGoroutine")=false) (hb:fn.body.isNone=false)
  (hc:Calls Tryz.prog f vs w R)(hv:xs.map (Ev a)=vs)(h:∀ e w',R e w'->∃ v,e=.returned v∧(bf i=true->S w')∧WD ops K S bf n (i :: is) (Pt a d v) w'):WD ops K S bf (n+1) is a w:=aO6 i d gd hr hi hg hj hs he hbw hd f xs ats hop fn hf hn hb vs hv (hc.mono h)
end
def GS (b o:Nat)(x:GG)(A:Option Addr)(d:Nat)(w:World):Prop:=w.cell? ⟨b,o,none⟩=some (.slice A x.path.length d)∧w.cell? ⟨b,o+1,none⟩=some (↑x.kind)∧w.cell? ⟨b,o+2,none⟩=some (↑x.at_)∧w.cell? ⟨b,o+3,none⟩=some (↑x.code)∧w.cell? ⟨b,o+4,none⟩=some (.bool x.fresh)
theorem GS.of {b o:Nat}{x:GG}{A:Option Addr}{d:Nat}{w:World}(h:∀ j u,(pE x A d)[j]?=some u->w.cell? ⟨b,o+j,none⟩=some u):GS b o x A d w:=⟨h 0 _ rfl,h 1 _ rfl,h 2 _ rfl,h 3 _ rfl,h 4 _ rfl⟩
section
variable {Q:Exit->Act->World->Prop}{a:Act}{w:World}{gt m gc:Nat}{b bu z z2:Int}{A Ag_:Option Addr}{c cg n i:Nat}{v vk vl vn:Value}{R:World->Prop}
end
theorem aB.cell {S:Nat->Prop}{w w':World}(h:aB S w w'){b o:Nat}{u:Value}(hb:S b)(hc:w.cell? ⟨b,o,none⟩=some u):w'.cell? ⟨b,o,none⟩=some u:=(World.cell?_of_block (w:=w) (w':=w') (h b (aN hc) hb)).trans hc
theorem GS.keep {S:Nat->Prop}{w w':World}(h:aB S w w'){b o:Nat}{x:GG}{A:Option Addr}{d:Nat}(hb:S b)(hc:GS b o x A d w):GS b o x A d w':=⟨h.cell hb hc.1,h.cell hb hc.2.1,h.cell hb hc.2.2.1,h.cell hb hc.2.2.2.1,h.cell hb hc.2.2.2.2⟩
theorem GS.ext {w w':World}(h:Ext w w'){b o:Nat}{x:GG}{A:Option Addr}{d:Nat}(hc:GS b o x A d w):GS b o x A d w':=hc.keep (aB.of_ext (P:=fun _=>True) h) trivial
theorem aAj (b:Int):∀ (n:Nat)(L:List GE),(aO7 b n L).length<=L.length
 | 0,L=>Nat.le_refl _
 | n+1,L=>by
  unfold aO7
  split
  ·refine Nat.le_trans (aAj b n _) ?_
   rw [List.length_eraseIdx]
   split <;> omega
  ·exact Nat.le_refl _
theorem aJf (ok:List Int->Bool)(b:Int)(L:List GE)(x:GE):(pX ok b L x).length<=L.length+1:=by
 have h1:(dE L x).length<=L.length+1:=by rw [nS];exact pB L x
 unfold pX
 split
 ·split
  ·exact h1
  ·exact Nat.le_trans (aAj b _ _) h1
 ·omega
end Go.Proofs.YtkoeecdjijfjnaaGreat
