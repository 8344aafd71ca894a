/- Contracts of functions, plain laws. Conditions: none. -/
import Derived.Test.YtkoeecdjijfjnaaGreatMF
set_option maxRecDepth 100000
set_option maxHeartbeats 8000000
namespace Go.Proofs.YtkoeecdjijfjnaaGreat
open Go.RowKit
section
variable {Q:Exit->Act->World->Prop}{a:Act}{w:World}{gt gs m gc:Nat}{b bu z z2:Int}{A:Option Addr}{c n i:Nat}{vn vm:Value}{R:World->Prop}{V:Value->Prop}
end
noncomputable def aSt:=RG Tryz.f116 0
noncomputable def aKm:=RG Tryz.f116 1
noncomputable def aSs:=RG Tryz.f116 2
noncomputable def aSr:=RG Tryz.f116 3
noncomputable def aKl:=RG Tryz.f116 4
noncomputable def aKk:=RG Tryz.f116 5
noncomputable def aKj:=RG Tryz.f116 6
noncomputable def aSq:=RG Tryz.f116 7
noncomputable def aSp:=RG Tryz.f116 8
noncomputable def aVr:=RG Tryz.f30 0
noncomputable def aRi:=RG Tryz.f30 1
noncomputable def aVq:=RG Tryz.f30 2
noncomputable def aVp:=RG Tryz.f30 3
noncomputable def aRh:=RG Tryz.f30 4
noncomputable def aRg:=RG Tryz.f30 5
noncomputable def aRf:=RG Tryz.f30 6
noncomputable def aRe:=RG Tryz.f30 7
noncomputable def aVo:=RG Tryz.f30 8
noncomputable def aVn:=RG Tryz.f30 9
theorem aLj.e {f:FuncId}{vs:Array Value}{v:Value}{w:World}(h:Calls Tryz.prog f vs w (aLj v w)):Calls Tryz.prog f vs w (cT v w):=h.mono (by rintro e w2 ⟨rfl,n,rfl⟩;exact ⟨rfl,(Ext.refl w).drewN' n⟩)
section
variable {Q:Exit->Act->World->Prop}{a:Act}{w:World}{n m c d k:Nat}{A B:Option Addr}
theorem aH4 (hsz:a.tmps.size=26)(e0:Ev a (.tmp 0)=.slice A n c)(e1:Ev a (.tmp 1)=.slice B m d)(h:∀ a',Ag [0,1] a a'->Ev a' (.tmp 10)=.bool ((n:Int) != (m:Int))->Q .normal a' w):Code.wp Tryz.prog aKm Q a w:=by
 refine rW ?_
 iterate 5 refine lV ?_
 exact aJ (h _ I O)
theorem aH3 (hsz:a.tmps.size=26)(e0:Ev a (.tmp 0)=.slice A n c)(e5:Ev a (.tmp 5)=↑(k:Int))(h:∀ a',Ag [0,1,5] a a'->Ev a' (.tmp 14)=.bool (decide (k<n))->Q .normal a' w):Code.wp Tryz.prog aKl Q a w:=by
 refine rW ?_
 iterate 4 refine lV ?_
 exact aJ (h _ I O)
theorem aH2 (hsz:a.tmps.size=26)(e5:Ev a (.tmp 5)=↑(k:Int))(hw:IntKind.i64.wrap ((k:Int)+1)=(k:Int)+1)(h:∀ a',Ag [0,1] a a'->Ev a' (.tmp 5)=.int .i64 ((k+1:Nat):Int)->Q .normal a' w):Code.wp Tryz.prog aKk Q a w:=by
 refine rW ?_
 iterate 3 refine lV ?_
 exact aJ (h _ I O)
theorem aH1 {bx ox by_ oy:Nat}{x y:ByteArray}(hsz:a.tmps.size=26)(e0:Ev a (.tmp 0)=.slice (some ⟨bx,ox,none⟩) n c)(e1:Ev a (.tmp 1)=.slice (some ⟨by_,oy,none⟩) m d)(e5:Ev a (.tmp 5)=↑(k:Int))(hk:(k:Int)<(n:Int))(hk':(k:Int)<(m:Int))
  (hx:∀ w',Ext w w'->w'.cell? ⟨bx,ox+k,none⟩=some (.string x))(hy:∀ w',Ext w w'->w'.cell? ⟨by_,oy+k,none⟩=some (.string y))
  (h:∀ a' w',Ext w w'->Ag [0,1,5] a a'->Ev a' (.tmp 25)=.bool (x.toList != y.toList)->Q .normal a' w'):Code.wp Tryz.prog aKj Q a w:=by
 conv=>arg 2;whnf
 refine cM (fun w'=>Ext w w') Y Y (Ext.refl w).drew' ?_
 iterate 9 refine q_v rfl rfl (fun w hw=>by simp [execOp,go_sem,hx w hw,hy w hw, *];rfl) ?_
 exact nD (fun w' hw=>h _ w' hw I (by simp [*,bne]))
noncomputable abbrev aW6:Code:=.seq (.seq aKl (.cond (.tmp 14) .skip (.exit 0))) (.seq (.block 1 (.seq aKj (.cond (.tmp 25) (.seq aSq .ret) .skip))) aKk)
noncomputable abbrev aE9:Code:=.seq aSt (.seq (.seq aKm (.cond (.tmp 10) (.seq aSs .ret) .skip)) (.seq (.seq aSr (.block 0 (.loop aW6))) (.seq aSp .ret)))
theorem aPl:Tryz.f116.body=some aE9:=Y
def aZe (l m:List ByteArray)(a0:Act)(ws:World)(k:Nat)(a:Act)(w:World):Prop:=Ag [0,1] a0 a∧k<=l.length∧Ev a (.tmp 5)=.int .i64 (k:Int)∧Ext ws w∧(List.range k).all (fun k=>(l.getD k default).toList == (m.getD k default).toList)=true
theorem aGl {l m:List ByteArray}{P P':Nat->Prop}{R:Exit->Act->World->Prop}(hl:jT w P (.slice A l.length c) l)(hm:jT w P' (.slice B m.length d) m)(hsz:a.tmps.size=26)(e0:Ev a (.tmp 0)=.slice A l.length c)(e1:Ev a (.tmp 1)=.slice B m.length d)
  (hR:∀ a' w',a'.defers=a.defers->Ev a' (.tmp 4)=.bool (eqS l m)->Ext w w'->R .ret a' w'):Code.wp Tryz.prog aE9 R a w:=by
 obtain ⟨_,_,-,-,hn,-⟩:=hl.form;refine wp_seq ?_;refine rW ?_
 iterate 1 refine lV ?_
 refine aJ ?_;refine wp_seq (wp_seq (aH4 (A:=A) (B:=B) (n:=l.length) (m:=m.length) (c:=c) (d:=d) O O O ?_));intro a1 g1 e10;have z1:a1.tmps.size=26:=by rw [g1.sz];simp [*]
 have d1:a1.defers=a.defers:=g1.df
 by_cases hnm:l.length=m.length
 ·refine wp_cond_false (e10.trans (by simp [hnm])) (wp_skip ?_)
  refine wp_seq (wp_seq ?_);refine rW ?_
  iterate 1 refine l_v rfl rfl (by simp [execOp,go_sem,z1];exact ⟨rfl,rfl⟩) ?_
  refine aJ ?_;have g2:Ag [0,1] a (Pt a1 5 (.int .i64 0)):=(((Ag.rf.put rfl).trans (g1.mono rfl)).put rfl);refine wp_block (wp_loop (fun a' w'=>∃ k,aZe l m a w k a' w') (fun a' _=>l.length - (intOf (Ev a' (.tmp 5))).toNat) ⟨0,g2,Nat.zero_le _,gh,Ext.refl _,rfl⟩ ?_);clear g2 z1 e10 g1 d1 a1;rintro a1 w1 ⟨k,hG,hk,e5,hE,hall⟩;have f0:=hG.get 0 e0;have f1:=hG.get 1 e1;have z1:a1.tmps.size=26:=by rw [hG.sz];exact hsz
  refine wp_seq (wp_seq (aH3 z1 f0 e5 ?_));intro a2 g2 e14;have z2:a2.tmps.size=26:=by rw [g2.sz];exact z1
  by_cases hlt:k<l.length
  ·refine wp_cond_true (e14.trans eq) (wp_skip ?_)
   obtain ⟨bx,ox,rfl,gx⟩:=(hl.ext hE).get hlt;obtain ⟨by_,oy,rfl,gy⟩:=(hm.ext hE).get (i:=k) D;refine wp_seq (wp_block (wp_seq (aH1 z2 (g2.get 0 f0) (g2.get 1 f1) (g2.get 5 e5) D D (fun w' h=>aA h gx) (fun w' h=>aA h gy) ?_)));intro a3 w3 hx3 g3 e25;have z3:a3.tmps.size=26:=by rw [g3.sz];exact z2
   by_cases hf:((l.getD k default).toList == (m.getD k default).toList)=true
   ·refine wp_cond_false (e25.trans (by rw [bne,hf];rfl)) (wp_skip ?_)
    refine aH2 (k:=k) z3 (g3.get 5 (g2.get 5 e5)) (IntWalk.i64_in _ D) ?_;intro a4 g4 e5';refine ⟨⟨k+1,((hG.trans (g2.mono rfl)).trans (g3.mono rfl)).trans (g4.mono rfl),hlt,e5',hE.trans' hx3,dd⟩,?_⟩;rw [e5',e5];simp [intOf];omega
   ·have hf':=Bool.eq_false_iff.2 hf
    refine wp_cond_true (e25.trans (by rw [bne,hf'];rfl)) ?_;refine wp_seq ?_;refine rW ?_
    iterate 1 refine l_v rfl rfl (by simp [execOp,go_sem,z3];exact ⟨rfl,rfl⟩) ?_
    refine aJ (wp_ret (hR _ _ (((g3.df.trans g2.df).trans hG.df)) ?_ (hE.trans' hx3)))
    have h9:eqS l m=false:=by
     unfold eqS;rw [Bool.and_eq_false_iff];refine .inr (List.all_eq_false.2 ⟨k,List.mem_range.2 hlt,hf⟩)
    simp [z3,h9]
  ·refine wp_cond_false (e14.trans eq) (wp_exit ?_)
   refine wp_seq ?_;refine rW ?_
   iterate 1 refine l_v rfl rfl (by simp [execOp,go_sem,z2];exact ⟨rfl,rfl⟩) ?_
   obtain rfl:k=l.length:=D
   have h9:eqS l m=true:=by unfold eqS;rw [hall,aZy hnm];rfl
   refine aJ (wp_ret (hR _ _ (g2.df.trans hG.df) (by simp [z2,h9]) hE))
 ·refine wp_cond_true (e10.trans aa) ?_
  refine wp_seq ?_;refine rW ?_
  iterate 1 refine l_v rfl rfl (by simp [execOp,go_sem,z1];exact ⟨rfl,rfl⟩) ?_
  have h9:eqS l m=false:=by unfold eqS;rw [aZz hnm];rfl
  refine aJ (wp_ret (hR _ _ d1 (by simp [z1,h9]) (Ext.refl _)))
theorem aCs {l m:List ByteArray}{P P':Nat->Prop}(hl:jT w P (.slice A l.length c) l)(hm:jT w P' (.slice B m.length d) m):Calls Tryz.prog 116 #[.slice A l.length c,.slice B m.length d] w (cT (.bool (eqS l m)) w):=by
 refine calls_of_wp Tryz.func116 aPl (aGl hl hm (by simp [Tryz.ntmps116]) ai ai ?_);intro a' w' h1 h2 h3;refine bodyPost_ret (v:=.bool (eqS l m)) ?_ h1 ⟨rfl,h3⟩;have h5:a'.tmps[4]?.getD undef=.bool (eqS l m):=by rw [<- h2];simp [Ev,Act.eval]
 simp [results,Tryz.results116,go_sem,h5]
end
section
variable {w:World}{P P':Nat->Prop}{x y:GN}{ax ay:NA}{a:Act}{R:Exit->Act->World->Prop}
theorem aBn (hx:NAt w P x ax)(hy:NAt w P' y ay)(hsz:a.tmps.size=75)(e0:Ev a (.tmp 0)=fF x ax)(e1:Ev a (.tmp 1)=fF y ay)
  (hR:∀ a' w',a'.defers=a.defers->Ev a' (.tmp 4)=.bool (sN x y)->Ext w w'->R .ret a' w'):Code.wp Tryz.prog aK0 R a w:=by
 refine wp_seq ?_;refine rW ?_
 iterate 3 refine lV ?_
 have hE:Ext w ((w.alloc (.cells #[↑x.kind,.string x.name,↑x.lo,↑x.hi,.slice ax.wA x.weights.length ax.wc,.slice ax.lA x.labels.length ax.lc,.slice ax.vA x.values.length ax.vc,.slice ax.kA x.kids.length ax.kc,↑x.value.kind,↑x.value.n,.string x.value.s,.slice ax.xA x.value.kids.length ax.xc] 87)).alloc (.cells #[↑y.kind,.string y.name,↑y.lo,↑y.hi,.slice ay.wA y.weights.length ay.wc,.slice ay.lA y.labels.length ay.lc,.slice ay.vA y.values.length ay.vc,.slice ay.kA y.kids.length ay.kc,↑y.value.kind,↑y.value.n,.string y.value.s,.slice ay.xA y.value.kids.length ay.xc] 87)):=((Ext.refl w).alloc' _).alloc' _;have hB1:=(Blk.new w 87 #[↑x.kind,.string x.name,↑x.lo,↑x.hi,.slice ax.wA x.weights.length ax.wc,.slice ax.lA x.labels.length ax.lc,.slice ax.vA x.values.length ax.vc,.slice ax.kA x.kids.length ax.kc,↑x.value.kind,↑x.value.n,.string x.value.s,.slice ax.xA x.value.kids.length ax.xc]).alloc (.cells #[↑y.kind,.string y.name,↑y.lo,↑y.hi,.slice ay.wA y.weights.length ay.wc,.slice ay.lA y.labels.length ay.lc,.slice ay.vA y.values.length ay.vc,.slice ay.kA y.kids.length ay.kc,↑y.value.kind,↑y.value.n,.string y.value.s,.slice ay.xA y.value.kids.length ay.xc] 87)
 have hB2:=Blk.new (w.alloc (.cells #[↑x.kind,.string x.name,↑x.lo,↑x.hi,.slice ax.wA x.weights.length ax.wc,.slice ax.lA x.labels.length ax.lc,.slice ax.vA x.values.length ax.vc,.slice ax.kA x.kids.length ax.kc,↑x.value.kind,↑x.value.n,.string x.value.s,.slice ax.xA x.value.kids.length ax.xc] 87)) 87 #[↑y.kind,.string y.name,↑y.lo,↑y.hi,.slice ay.wA y.weights.length ay.wc,.slice ay.lA y.labels.length ay.lc,.slice ay.vA y.values.length ay.vc,.slice ay.kA y.kids.length ay.kc,↑y.value.kind,↑y.value.n,.string y.value.s,.slice ay.xA y.value.kids.length ay.xc];rw [World.size_alloc] at hB2;have b1:=lU hB1;have b2:=lU hB2;refine aJ (wp_seq (aL8 (g:=w.heap.size) (f:=w.heap.size+1) (x:=x) (y:=y) (ax:=ax) (ay:=ay) O O O (fun w' h=>(b1 w' h).2.2.2.2.1) (fun w' h=>(b2 w' h).2.2.2.2.1) (fun w' h=>dR h (aLj.e (fQ _ _ _ _ _ _ w' ((hx.ext (hE.trans' h)).weights) ((hy.ext (hE.trans' h)).weights)))) ?_));intro a1 w1 h1 g1 e5;have z1:a1.tmps.size=75:=by rw [g1.sz];simp [hsz]
 have e2:=g1.get 2 (v:=.pointer (some ⟨w.heap.size,0,none⟩)) ah;have e3:=g1.get 3 (v:=.pointer (some ⟨w.heap.size+1,0,none⟩)) ah;have d1:a1.defers=a.defers:=g1.df;clear hB1 hB2 g1;generalize (w.alloc (.cells #[↑x.kind,.string x.name,↑x.lo,↑x.hi,.slice ax.wA x.weights.length ax.wc,.slice ax.lA x.labels.length ax.lc,.slice ax.vA x.values.length ax.vc,.slice ax.kA x.kids.length ax.kc,↑x.value.kind,↑x.value.n,.string x.value.s,.slice ax.xA x.value.kids.length ax.xc] 87)).alloc (.cells #[↑y.kind,.string y.name,↑y.lo,↑y.hi,.slice ay.wA y.weights.length ay.wc,.slice ay.lA y.labels.length ay.lc,.slice ay.vA y.values.length ay.vc,.slice ay.kA y.kids.length ay.kc,↑y.value.kind,↑y.value.n,.string y.value.s,.slice ay.xA y.value.kids.length ay.xc] 87)=W at *;refine wp_seq (aL7 (x:=x) (y:=y) (ax:=ax) (ay:=ay) z1 e2 e3 (fun w' h=>(b1 w' (h1.trans' h)).2.2.2.2.2.1) (fun w' h=>(b2 w' (h1.trans' h)).2.2.2.2.2.1) (fun w' h=>dR h (aCs ((hx.ext (hE.trans' (h1.trans' h))).labels) ((hy.ext (hE.trans' (h1.trans' h))).labels))) ?_);intro a2 w2 h2 g2 e6;have h2:=h1.trans' h2;have z2:a2.tmps.size=75:=by rw [g2.sz];exact z1
 refine wp_seq (aL6 (x:=x) (y:=y) (ax:=ax) (ay:=ay) z2 (g2.get 2 e2) (g2.get 3 e3) (fun w' h=>(b1 w' (h2.trans' h)).2.2.2.2.2.2.1) (fun w' h=>(b2 w' (h2.trans' h)).2.2.2.2.2.2.1) (fun w' h=>dR h (kM _ _ _ _ _ _ w' ((hx.ext (hE.trans' (h2.trans' h))).values) ((hy.ext (hE.trans' (h2.trans' h))).values))) ?_);intro a3 w3 h3 g3 e7;have h3:=h2.trans' h3;have z3:a3.tmps.size=75:=by rw [g3.sz];exact z2
 refine wp_seq (aL5 (x:=x) (y:=y) (ax:=ax) (ay:=ay) z3 (g3.get 2 (g2.get 2 e2)) (g3.get 3 (g2.get 3 e3)) (fun w' h=>(b1 w' (h3.trans' h)).2.2.2.2.2.2.2.1) (fun w' h=>(b2 w' (h3.trans' h)).2.2.2.2.2.2.2.1) (fun w' h=>dR h (aLj.e (fQ _ _ _ _ _ _ w' ((hx.ext (hE.trans' (h3.trans' h))).kids) ((hy.ext (hE.trans' (h3.trans' h))).kids)))) ?_);intro a4 w4 h4 g4 e8;have h4:=h3.trans' h4;have z4:a4.tmps.size=75:=by rw [g4.sz];exact z3
 refine wp_seq (aL4 (x:=x) (y:=y) (ax:=ax) (ay:=ay) z4 (g4.get 2 (g3.get 2 (g2.get 2 e2))) (g4.get 3 (g3.get 3 (g2.get 3 e3))) (g4.get 5 (g3.get 5 (g2.get 5 e5))) (g4.get 6 (g3.get 6 e6)) (g4.get 7 e7) e8 (fun w' h=>b1 w' (h4.trans' h)) (fun w' h=>b2 w' (h4.trans' h)) (fun w' h=>dR h (eU _ _ _ _ _ _ _ _ w' ((hx.ext (hE.trans' (h4.trans' h))).value) ((hy.ext (hE.trans' (h4.trans' h))).value))) ?_);intro a5 w5 h5 g5 e4;rw [aU7] at e4;exact wp_ret (hR _ _ (((((g5.df.trans g4.df).trans g3.df).trans g2.df)).trans d1) e4 (hE.trans' (h4.trans' h5)))
theorem xX (hx:NAt w P x ax)(hy:NAt w P' y ay):Calls Tryz.prog 65 #[fF x ax,fF y ay] w (cT (.bool (sN x y)) w):=by
 refine calls_of_wp Tryz.func65 aTq (aBn hx hy (by simp [Tryz.ntmps65]) ai ai ?_);intro a' w' h1 h2 h3;refine bodyPost_ret (v:=.bool (sN x y)) ?_ h1 ⟨rfl,h3⟩;have h5:a'.tmps[4]?.getD undef=.bool (sN x y):=by rw [<- h2];simp [Ev,Act.eval]
 simp [results,Tryz.results65,go_sem,h5]
end
section
variable {Q:Exit->Act->World->Prop}{a:Act}{w:World}{n m c d k g f:Nat}{A B:Option Addr}{b:Bool}
theorem aMy (hsz:a.tmps.size=34)(e2:Ev a (.tmp 2)=.pointer (some ⟨g,0,none⟩))(e3:Ev a (.tmp 3)=.pointer (some ⟨f,0,none⟩))(h2:w.cell? ⟨g,0,none⟩=some (.slice A n c))(h3:w.cell? ⟨f,0,none⟩=some (.slice B m d))(h:∀ a',Ag [2,3] a a'->Ev a' (.tmp 13)=.bool ((n:Int) != (m:Int))->Q .normal a' w):Code.wp Tryz.prog aRi Q a w:=by
 refine rW ?_
 iterate 7 refine lV ?_
 exact aJ (h _ I O)
theorem aMx (hsz:a.tmps.size=34)(e2:Ev a (.tmp 2)=.pointer (some ⟨g,0,none⟩))(e5:Ev a (.tmp 5)=↑(k:Int))(h2:w.cell? ⟨g,0,none⟩=some (.slice A n c))(h:∀ a',Ag [2,3,5] a a'->Ev a' (.tmp 18)=.bool (decide (k<n))->Q .normal a' w):Code.wp Tryz.prog aRh Q a w:=by
 refine rW ?_
 iterate 5 refine lV ?_
 exact aJ (h _ I O)
theorem aMw (hsz:a.tmps.size=34)(e5:Ev a (.tmp 5)=↑(k:Int))(hw:IntKind.i64.wrap ((k:Int)+1)=(k:Int)+1)(h:∀ a',Ag [2,3] a a'->Ev a' (.tmp 5)=.int .i64 ((k+1:Nat):Int)->Q .normal a' w):Code.wp Tryz.prog aRg Q a w:=by
 refine rW ?_
 iterate 3 refine lV ?_
 exact aJ (h _ I O)
theorem aMu (hsz:a.tmps.size=34)(e6:Ev a (.tmp 6)=.bool b)(h:∀ a',Ag [2,3,5] a a'->Ev a' (.tmp 33)=.bool (!b)->Q .normal a' w):Code.wp Tryz.prog aRe Q a w:=by
 refine rW ?_
 iterate 2 refine lV ?_
 exact aJ (h _ I O)
theorem aMv {bx ox by_ oy:Nat}{x y:GN}{ax ay:NA}(hsz:a.tmps.size=34)(e2:Ev a (.tmp 2)=.pointer (some ⟨g,0,none⟩))(e3:Ev a (.tmp 3)=.pointer (some ⟨f,0,none⟩))(e5:Ev a (.tmp 5)=↑(k:Int))(hk:(k:Int)<(n:Int))(hk':(k:Int)<(m:Int))
  (h2:∀ w',Ext w w'->w'.cell? ⟨g,0,none⟩=some (.slice (some ⟨bx,ox,none⟩) n c)∧w'.cell? ⟨f,0,none⟩=some (.slice (some ⟨by_,oy,none⟩) m d))
  (hx:∀ w',Ext w w'->w'.cell? ⟨bx,ox+k*12,none⟩=some (↑x.kind)∧w'.cell? ⟨bx,ox+k*12+1,none⟩=some (.string x.name)∧w'.cell? ⟨bx,ox+k*12+2,none⟩=some (↑x.lo)∧w'.cell? ⟨bx,ox+k*12+3,none⟩=some (↑x.hi)∧w'.cell? ⟨bx,ox+k*12+4,none⟩=some (.slice ax.wA x.weights.length ax.wc)∧w'.cell? ⟨bx,ox+k*12+5,none⟩=some (.slice ax.lA x.labels.length ax.lc)∧w'.cell? ⟨bx,ox+k*12+6,none⟩=some (.slice ax.vA x.values.length ax.vc)∧w'.cell? ⟨bx,ox+k*12+7,none⟩=some (.slice ax.kA x.kids.length ax.kc)∧w'.cell? ⟨bx,ox+k*12+8,none⟩=some (↑x.value.kind)∧w'.cell? ⟨bx,ox+k*12+9,none⟩=some (↑x.value.n)∧w'.cell? ⟨bx,ox+k*12+10,none⟩=some (.string x.value.s)∧w'.cell? ⟨bx,ox+k*12+11,none⟩=some (.slice ax.xA x.value.kids.length ax.xc))
  (hy:∀ w',Ext w w'->w'.cell? ⟨by_,oy+k*12,none⟩=some (↑y.kind)∧w'.cell? ⟨by_,oy+k*12+1,none⟩=some (.string y.name)∧w'.cell? ⟨by_,oy+k*12+2,none⟩=some (↑y.lo)∧w'.cell? ⟨by_,oy+k*12+3,none⟩=some (↑y.hi)∧w'.cell? ⟨by_,oy+k*12+4,none⟩=some (.slice ay.wA y.weights.length ay.wc)∧w'.cell? ⟨by_,oy+k*12+5,none⟩=some (.slice ay.lA y.labels.length ay.lc)∧w'.cell? ⟨by_,oy+k*12+6,none⟩=some (.slice ay.vA y.values.length ay.vc)∧w'.cell? ⟨by_,oy+k*12+7,none⟩=some (.slice ay.kA y.kids.length ay.kc)∧w'.cell? ⟨by_,oy+k*12+8,none⟩=some (↑y.value.kind)∧w'.cell? ⟨by_,oy+k*12+9,none⟩=some (↑y.value.n)∧w'.cell? ⟨by_,oy+k*12+10,none⟩=some (.string y.value.s)∧w'.cell? ⟨by_,oy+k*12+11,none⟩=some (.slice ay.xA y.value.kids.length ay.xc))
  (hc:∀ w',Ext w w'->Calls Tryz.prog 65 #[fF x ax,fF y ay] w' fun e w2=>e=.returned (.bool b)∧Ext w w2)
  (h:∀ a' w',Ext w w'->Ag [2,3,5] a a'->Ev a' (.tmp 6)=.bool b->Q .normal a' w'):Code.wp Tryz.prog aRf Q a w:=by
 conv=>arg 2;whnf
 refine cM (fun w'=>Ext w w') Y Y (Ext.refl w).drew' ?_
 iterate 10 refine q_v rfl rfl (fun w hw=>by simp [execOp,go_sem,h2 w hw,hx w hw,hy w hw, *];rfl) ?_
 refine q_c rfl rfl rfl Tryz.func65 ac ac hc O ?_
 iterate 1 refine q_v rfl rfl (fun w hw=>by simp [execOp,go_sem, *];rfl) ?_
 exact nD (fun w' hw=>h _ w' hw I O)
noncomputable abbrev aY8:Code:=.seq (.seq aRh (.cond (.tmp 18) .skip (.exit 0))) (.seq (.block 1 (.seq aRf (.seq aRe (.cond (.tmp 33) (.seq aVo .ret) .skip)))) aRg)
noncomputable abbrev aK2:Code:=.seq aVr (.seq (.seq aRi (.cond (.tmp 13) (.seq aVq .ret) .skip)) (.seq (.seq aVp (.block 0 (.loop aY8))) (.seq aVn .ret)))
theorem aTt:Tryz.f30.body=some aK2:=Y
def I30 (s t:List GN)(a0:Act)(ws:World)(k:Nat)(a:Act)(w:World):Prop:=Ag [2,3] a0 a∧k<=s.length∧Ev a (.tmp 5)=.int .i64 (k:Int)∧Ext ws w∧(List.range k).all (fun k=>sN (s.getD k default) (t.getD k default))=true
theorem xY {s t:List GN}{P P':Nat->Prop}{R:Exit->Act->World->Prop}(hs:Nds w P (.slice A s.length c) s)(ht:Nds w P' (.slice B t.length d) t)(hsz:a.tmps.size=34)(e0:Ev a (.tmp 0)=.agg #[.slice A s.length c])(e1:Ev a (.tmp 1)=.agg #[.slice B t.length d])
  (hR:∀ a' w',a'.defers=a.defers->Ev a' (.tmp 4)=.bool (eqT s t)->Ext w w'->R .ret a' w'):Code.wp Tryz.prog aK2 R a w:=by
 obtain ⟨_,_,-,-,hn,-⟩:=hs.form;refine wp_seq ?_;refine rW ?_
 iterate 3 refine lV ?_
 have hE:Ext w ((w.alloc (.cells #[.slice A s.length c] 25)).alloc (.cells #[.slice B t.length d] 25)):=((Ext.refl w).alloc' _).alloc' _;have hB1:=(Blk.new w 25 #[.slice A s.length c]).alloc (.cells #[.slice B t.length d] 25);have hB2:=Blk.new (w.alloc (.cells #[.slice A s.length c] 25)) 25 #[.slice B t.length d];rw [World.size_alloc] at hB2;have y1:=hB1.cell' (u:=.slice A s.length c) 0 rfl;have y2:=hB2.cell' (u:=.slice B t.length d) 0 rfl;refine aJ (wp_seq (wp_seq (aMy (g:=w.heap.size) (f:=w.heap.size+1) (A:=A) (B:=B) (n:=s.length) (m:=t.length) (c:=c) (d:=d) O O O y1 y2 ?_)));intro a1 g1 e13;have z1:a1.tmps.size=34:=by rw [g1.sz];simp [*]
 have d1:a1.defers=a.defers:=g1.df;have e2:=g1.get 2 (v:=.pointer (some ⟨w.heap.size,0,none⟩)) ah;have e3:=g1.get 3 (v:=.pointer (some ⟨w.heap.size+1,0,none⟩)) ah;clear g1 hB1 hB2;generalize (w.alloc (.cells #[.slice A s.length c] 25)).alloc (.cells #[.slice B t.length d] 25)=W at *
 by_cases hnm:s.length=t.length
 ·refine wp_cond_false (e13.trans (by simp [hnm])) (wp_skip ?_)
  refine wp_seq (wp_seq ?_);refine rW ?_
  iterate 1 refine l_v rfl rfl (by simp [execOp,go_sem,z1];exact ⟨rfl,rfl⟩) ?_
  refine aJ ?_;refine wp_block (wp_loop (fun a' w'=>∃ k,I30 s t a1 W k a' w') (fun a' _=>s.length - (intOf (Ev a' (.tmp 5))).toNat) ⟨0,Ag.rf.put rfl,Nat.zero_le _,gh,Ext.refl _,rfl⟩ ?_);rintro a2 w1 ⟨k,hG,hk,e5,hX,hall⟩;have f2:=hG.get 2 e2;have f3:=hG.get 3 e3;have z2:a2.tmps.size=34:=by rw [hG.sz];exact z1
  refine wp_seq (wp_seq (aMx (n:=s.length) z2 f2 e5 (aA hX y1) ?_));intro a3 g3 e18;have z3:a3.tmps.size=34:=by rw [g3.sz];exact z2
  by_cases hlt:k<s.length
  ·refine wp_cond_true (e18.trans eq) (wp_skip ?_)
   obtain ⟨bx,ox,ax,rfl,-,nx,gx⟩:=(hs.ext (hE.trans' hX)).get hlt;obtain ⟨by_,oy,ay,rfl,-,ny,gy⟩:=(ht.ext (hE.trans' hX)).get (i:=k) D;refine wp_seq (wp_block (wp_seq (aMv (n:=s.length) (m:=t.length) (c:=c) (d:=d) z3 (g3.get 2 f2) (g3.get 3 f3) (g3.get 5 e5) D D (fun w' h=>⟨aA (hX.trans' h) y1,aA (hX.trans' h) y2⟩) (fun w2 h2=>⟨aA h2 gx.c0,aA h2 gx.c1,aA h2 gx.c2,aA h2 gx.c3,aA h2 gx.c4,aA h2 gx.c5,aA h2 gx.c6,aA h2 gx.c7,aA h2 gx.c8,aA h2 gx.c9,aA h2 gx.c10,aA h2 gx.c11⟩) (fun w2 h2=>⟨aA h2 gy.c0,aA h2 gy.c1,aA h2 gy.c2,aA h2 gy.c3,aA h2 gy.c4,aA h2 gy.c5,aA h2 gy.c6,aA h2 gy.c7,aA h2 gy.c8,aA h2 gy.c9,aA h2 gy.c10,aA h2 gy.c11⟩) (fun w2 h2=>dR h2 (xX (nx.ext h2) (ny.ext h2))) ?_)));intro a4 w4 hx4 g4 e6;have z4:a4.tmps.size=34:=by rw [g4.sz];exact z3
   refine wp_seq (aMu z4 e6 ?_);intro a5 g5 e33;have z5:a5.tmps.size=34:=by rw [g5.sz];exact z4
   have G5:=(g3.trans g4).trans g5
   by_cases hf:sN (s.getD k default) (t.getD k default)=true
   ·refine wp_cond_false (e33.trans (by rw [hf];rfl)) (wp_skip ?_)
    refine aMw (k:=k) z5 (G5.get 5 e5) (IntWalk.i64_in _ D) ?_;intro a6 g6 e5';refine ⟨⟨k+1,(hG.trans (G5.mono rfl)).trans (g6.mono rfl),hlt,e5',hX.trans' hx4,dd⟩,?_⟩;rw [e5',e5];simp [intOf];omega
   ·refine wp_cond_true (e33.trans (by rw [Bool.eq_false_iff.2 hf];rfl)) ?_
    refine wp_seq ?_;refine rW ?_
    iterate 1 refine l_v rfl rfl (by simp [execOp,go_sem,z5];exact ⟨rfl,rfl⟩) ?_
    refine aJ (wp_ret (hR _ _ ((G5.df.trans hG.df).trans d1) ?_ (hE.trans' (hX.trans' hx4))))
    have h9:eqT s t=false:=by
     unfold eqT;rw [Bool.and_eq_false_iff];refine .inr (List.all_eq_false.2 ⟨k,List.mem_range.2 hlt,hf⟩)
    simp [z5,h9]
  ·refine wp_cond_false (e18.trans eq) (wp_exit ?_)
   refine wp_seq ?_;refine rW ?_
   iterate 1 refine l_v rfl rfl (by simp [execOp,go_sem,z3];exact ⟨rfl,rfl⟩) ?_
   obtain rfl:k=s.length:=D
   have h9:eqT s t=true:=by unfold eqT;rw [hall,aZy hnm];rfl
   refine aJ (wp_ret (hR _ _ ((g3.df.trans hG.df).trans d1) (by simp [z3,h9]) (hE.trans' hX)))
 ·refine wp_cond_true (e13.trans aa) ?_
  refine wp_seq ?_;refine rW ?_
  iterate 1 refine l_v rfl rfl (by simp [execOp,go_sem,z1];exact ⟨rfl,rfl⟩) ?_
  have h9:eqT s t=false:=by unfold eqT;rw [aZz hnm];rfl
  refine aJ (wp_ret (hR _ _ d1 (by simp [z1,h9]) hE))
theorem vK (s t:List GN)(P P':Nat->Prop)(vs vt:Value)(w:World)(hs:Nds w P vs s)(ht:Nds w P' vt t):Calls Tryz.prog 30 #[.agg #[vs],.agg #[vt]] w (cT (.bool (eqT s t)) w):=by
 obtain ⟨A,c,rfl,-,-⟩:=hs.form;obtain ⟨B,d,rfl,-,-⟩:=ht.form;refine calls_of_wp Tryz.func30 aTt (xY hs ht (by simp [Tryz.ntmps30]) ai ai ?_);intro a' w' h1 h2 h3;refine bodyPost_ret (v:=.bool (eqT s t)) ?_ h1 ⟨rfl,h3⟩;have h5:a'.tmps[4]?.getD undef=.bool (eqT s t):=by rw [<- h2];simp [Ev,Act.eval]
 simp [results,Tryz.results30,go_sem,h5]
end
noncomputable def aX0:=RG Tryz.f5 0
noncomputable def aVi:=RG Tryz.f5 1
noncomputable def aVf:=RG Tryz.f5 2
noncomputable def aVe:=RG Tryz.f5 3
noncomputable def aVd:=RG Tryz.f5 4
noncomputable def aVc:=RG Tryz.f5 5
noncomputable def aVb:=RG Tryz.f5 6
noncomputable def aVa:=RG Tryz.f5 7
noncomputable def aU9:=RG Tryz.f5 8
noncomputable def aXz:=RG Tryz.f5 9
noncomputable def aN6:=RG Tryz.f5 10
noncomputable def aN5:=RG Tryz.f5 11
noncomputable def aQ0:=RG Tryz.f5 12
noncomputable def aVh:=RG Tryz.f5 13
noncomputable def aQz:=RG Tryz.f5 14
noncomputable def aQy:=RG Tryz.f5 15
noncomputable def aQx:=RG Tryz.f5 16
noncomputable def aQw:=RG Tryz.f5 17
noncomputable def aQv:=RG Tryz.f5 18
noncomputable def aVg:=RG Tryz.f5 19
noncomputable def aQu:=RG Tryz.f5 20
noncomputable def aQt:=RG Tryz.f5 21
section
variable {ops:Array Oper}{K:Act->World->Prop}{S S':World->Prop}{bf:Nat->Bool}
theorem oD {Q:Exit->Act->World->Prop}(hS:∀ w,S' w->S w):∀ (n:Nat)(l:Array Bool)(a:Act)(w:World),gR Tryz.prog .any ops Q S' bf n l a w->gR Tryz.prog .any ops Q S bf n l a w
 | 0,_,_,_,h=>h
 | n+1,_,_,_,h=>⟨h.1,fun i hi=>wpOp_mono (fun a' w' h'=>⟨fun hb=>hS _ (h'.1 hb),oD hS n _ a' w' h'.2⟩) (h.2 i hi)⟩
theorem aTj {n:Nat}{is:List Nat}{a:Act}{w:World}(S':World->Prop)(hS:∀ w,S' w->S w)(h:WD ops K S' bf n is a w):WD ops K S bf n is a w:=⟨oD hS _ _ _ _ h.out⟩
end
section
variable {Q:Exit->Act->World->Prop}{a:Act}{w:World}{gt gs gc gd mx my:Nat}{b b' z z2:Int}{A:Option Addr}{c n:Nat}{v vk vl vn vm:Value}{R:World->Prop}{RV:Value->World->Prop}{L M:List GE}{vx vy:Value}
theorem aQn (hsz:a.tmps.size=146)(e0:Ev a (.tmp 0)=vl)(hc:Calls Tryz.prog 8 #[vl] w (uA w))
  (h:∀ a' A c t w1 W,Ag [1,2,3,4,5,6] a a'->Nds w1 (fun b=>w.heap.size<=b∧b<w1.heap.size) (.slice A t.length c) t->fL t->t.length<=14->Ext w w1->Ext w1 W->Blk W w1.heap.size 25 #[.slice A t.length c]->Ev a' (.tmp 15)=.pointer (some ⟨w1.heap.size,0,none⟩)->Q .normal a' W):Code.wp Tryz.prog aVi Q a w:=by
 refine rW ?_
 iterate 1 refine lV ?_
 refine l_c rfl rfl rfl Tryz.func8 ac ac hc O ?_;rintro e w1 ⟨A,c,t,rfl,h1,h2,h3,h4⟩;refine ⟨_,rfl,?_⟩
 iterate 1 refine l_v rfl rfl (by simp [execOp,go_sem,hsz];exact ⟨rfl,rfl⟩) ?_
 have hB:=Blk.new w1 25 #[.slice none 0 0];have hX:Ext w1 (w1.alloc (.cells #[.slice none 0 0] 25)):=(Ext.refl w1).alloc' _;generalize w1.alloc (.cells #[.slice none 0 0] 25)=W at *;refine l_s rfl rfl (by simp [execOp,go_sem,hB.cell,hB.frozen,hsz];rfl) ?_;exact aJ (h _ A c t w1 _ I h1 h2 h3 h4 (hX.setCell' (p:=⟨w1.heap.size,0,none⟩) (Nat.le_refl _) _) (hB.set_ 0 _) ah)
theorem aQm (hsz:a.tmps.size=146)(e2:Ev a (.tmp 3)=↑z)(hc:Calls Tryz.prog 9 #[↑z,.int .i64 60] w fun e w'=>e=.returned (↑b)∧w'=w)
  (h:∀ a',Ag [1,2,4,5,6,15] a a'->Ev a' (.tmp 16)=↑b->Q .normal a' w):Code.wp Tryz.prog aVf Q a w:=by
 refine rW ?_
 iterate 1 refine lV ?_
 refine l_c rfl rfl rfl Tryz.func9 ac ac hc O ?_;rintro e w' ⟨rfl,rfl⟩;refine ⟨_,rfl,?_⟩
 iterate 1 refine lV ?_
 exact aJ (h _ I O)
theorem aQl (hsz:a.tmps.size=146)(e2:Ev a (.tmp 4)=↑z)(hc:Calls Tryz.prog 9 #[↑z,.int .i64 60] w fun e w'=>e=.returned (↑b)∧w'=w)
  (h:∀ a',Ag [1,2,4,5,6,15,16] a a'->Ev a' (.tmp 17)=↑b->Q .normal a' w):Code.wp Tryz.prog aVe Q a w:=by
 refine rW ?_
 iterate 1 refine lV ?_
 refine l_c rfl rfl rfl Tryz.func9 ac ac hc O ?_;rintro e w' ⟨rfl,rfl⟩;refine ⟨_,rfl,?_⟩
 iterate 1 refine lV ?_
 exact aJ (h _ I O)
theorem aQk (hsz:a.tmps.size=146)(e15:Ev a (.tmp 15)=.pointer (some ⟨gt,0,none⟩))(eb:Ev a (.tmp 16)=↑b)(el:Ev a (.tmp 1)=vl)(c15:w.cell? ⟨gt,0,none⟩=some vn)(hc:Calls Tryz.prog 26 #[.agg #[vn],↑b,vl,.int .i64 12] w fun e w'=>∃ u,e=.returned u∧RV u w')
  (h:∀ a' u w',RV u w'->Ag [1,2,4,5,6,15,16,17] a a'->Ev a' (.tmp 18)=u->Q .normal a' w'):Code.wp Tryz.prog aVd Q a w:=by
 refine rW ?_
 iterate 3 refine lV ?_
 refine l_c rfl rfl rfl Tryz.func26 ac ac hc O ?_;rintro e w' ⟨u,rfl,hR⟩;refine ⟨_,rfl,?_⟩
 iterate 1 refine l_v rfl rfl (by simp [execOp,go_sem,hsz];exact ⟨rfl,rfl⟩) ?_
 exact aJ (h _ u _ hR I ah)
theorem aQj (hsz:a.tmps.size=146)(e15:Ev a (.tmp 15)=.pointer (some ⟨gt,0,none⟩))(eb:Ev a (.tmp 17)=↑b)(el:Ev a (.tmp 2)=vl)(c15:w.cell? ⟨gt,0,none⟩=some vn)(hc:Calls Tryz.prog 26 #[.agg #[vn],↑b,vl,.int .i64 12] w fun e w'=>∃ u,e=.returned u∧RV u w')
  (h:∀ a' u w',RV u w'->Ag [1,2,4,5,6,15,16,17,18] a a'->Ev a' (.tmp 19)=u->Q .normal a' w'):Code.wp Tryz.prog aVc Q a w:=by
 refine rW ?_
 iterate 3 refine lV ?_
 refine l_c rfl rfl rfl Tryz.func26 ac ac hc O ?_;rintro e w' ⟨u,rfl,hR⟩;refine ⟨_,rfl,?_⟩
 iterate 1 refine l_v rfl rfl (by simp [execOp,go_sem,hsz];exact ⟨rfl,rfl⟩) ?_
 exact aJ (h _ u _ hR I ah)
theorem aQi (hsz:a.tmps.size=146)(e15:Ev a (.tmp 15)=.pointer (some ⟨gt,0,none⟩))(eb:Ev a (.tmp 16)=↑b)(el:Ev a (.tmp 1)=vl)(c15:w.cell? ⟨gt,0,none⟩=some vn)(hc:Calls Tryz.prog 27 #[.agg #[vn],↑b,vl,.int .i64 12] w fun e w'=>∃ u,e=.returned u∧RV u w')
  (h:∀ a' u w',RV u w'->Ag [2,4,5,6,15,17,18,19] a a'->Ev a' (.tmp 20)=u->Q .normal a' w'):Code.wp Tryz.prog aVb Q a w:=by
 refine rW ?_
 iterate 3 refine lV ?_
 refine l_c rfl rfl rfl Tryz.func27 ac ac hc O ?_;rintro e w' ⟨u,rfl,hR⟩;refine ⟨_,rfl,?_⟩
 iterate 1 refine l_v rfl rfl (by simp [execOp,go_sem,hsz];exact ⟨rfl,rfl⟩) ?_
 exact aJ (h _ u _ hR I ah)
theorem aQh (hsz:a.tmps.size=146)(e15:Ev a (.tmp 15)=.pointer (some ⟨gt,0,none⟩))(eb:Ev a (.tmp 17)=↑b)(el:Ev a (.tmp 2)=vl)(c15:w.cell? ⟨gt,0,none⟩=some vn)(hc:Calls Tryz.prog 27 #[.agg #[vn],↑b,vl,.int .i64 12] w fun e w'=>∃ u,e=.returned u∧RV u w')
  (h:∀ a' u w',RV u w'->Ag [2,4,5,6,15,17,18,19,20] a a'->Ev a' (.tmp 21)=u->Q .normal a' w'):Code.wp Tryz.prog aVa Q a w:=by
 refine rW ?_
 iterate 3 refine lV ?_
 refine l_c rfl rfl rfl Tryz.func27 ac ac hc O ?_;rintro e w' ⟨u,rfl,hR⟩;refine ⟨_,rfl,?_⟩
 iterate 1 refine l_v rfl rfl (by simp [execOp,go_sem,hsz];exact ⟨rfl,rfl⟩) ?_
 exact aJ (h _ u _ hR I ah)
theorem aMc (hsz:a.tmps.size=146)(e15:Ev a (.tmp 26)=.pointer (some ⟨gt,0,none⟩))(eb:Ev a (.tmp 17)=↑b)(el:Ev a (.tmp 2)=vl)(c15:w.cell? ⟨gt,0,none⟩=some vn)(hc:Calls Tryz.prog 26 #[.agg #[vn],↑b,vl,.int .i64 12] w fun e w'=>∃ u,e=.returned u∧RV u w')
  (h:∀ a' u w',RV u w'->Ag [18,20] a a'->Ev a' (.tmp 27)=u->Q .normal a' w'):Code.wp Tryz.prog aQw Q a w:=by
 refine rW ?_
 iterate 3 refine lV ?_
 refine l_c rfl rfl rfl Tryz.func26 ac ac hc O ?_;rintro e w' ⟨u,rfl,hR⟩;refine ⟨_,rfl,?_⟩
 iterate 1 refine l_v rfl rfl (by simp [execOp,go_sem,hsz];exact ⟨rfl,rfl⟩) ?_
 exact aJ (h _ u _ hR I ah)
theorem aQg (hsz:a.tmps.size=146)(e18:Ev a (.tmp 18)=.pointer (some ⟨gc,0,none⟩))(e19:Ev a (.tmp 19)=.pointer (some ⟨gd,0,none⟩))
  (h:∀ a',Ag [2,4,5,6,15,17,18,19,20,21] a a'->Ev a' (.tmp 57)=.bool false->Q .normal a' w):Code.wp Tryz.prog aU9 Q a w:=by
 refine rW ?_
 iterate 3 refine lV ?_
 iterate 2 refine l_y rfl rfl rfl O ab rfl (by simp [execOp,go_sem, *];exact ⟨rfl,rfl⟩) ?_
 iterate 1 refine lV ?_
 exact aJ (h _ I O)
theorem aMi (hsz:a.tmps.size=146)(e18:Ev a (.tmp 18)=v)(hc:Calls Tryz.prog 28 #[v,.pointer none] w fun e w'=>e=.returned (.tuple #[.int .i64 0,.int .i64 1])∧w'=w)
  (h:∀ a',Ag [2,4,5,6,15,17,18,19,20,21] a a'->Ev a' (.tmp 23)=.int .i64 1->Q .normal a' w):Code.wp Tryz.prog aN6 Q a w:=by
 refine rW ?_
 iterate 1 refine lV ?_
 refine l_c rfl rfl rfl Tryz.func28 ac ac hc O ?_;rintro e w' ⟨rfl,rfl⟩;refine ⟨_,rfl,?_⟩
 iterate 5 refine l_v rfl rfl (by simp [execOp,go_sem,hsz];exact ⟨rfl,rfl⟩) ?_
 exact aJ (h _ I ah)
theorem aMh (hsz:a.tmps.size=146)(e18:Ev a (.tmp 18)=v)(e19:Ev a (.tmp 19)=vm)(hc:Calls Tryz.prog 28 #[v,vm] w fun e w'=>e=.returned (.tuple #[↑z,.int .i64 0])∧R w')
  (h:∀ a' w',R w'->Ag [2,4,5,6,15,17,18,19,20,21,23] a a'->Ev a' (.tmp 24)=↑z->Ev a' (.tmp 25)=.int .i64 0->Q .normal a' w'):Code.wp Tryz.prog aN5 Q a w:=by
 refine rW ?_
 iterate 2 refine lV ?_
 refine l_c rfl rfl rfl Tryz.func28 ac ac hc O ?_;rintro e w' ⟨rfl,hR⟩;refine ⟨_,rfl,?_⟩
 iterate 5 refine l_v rfl rfl (by simp [execOp,go_sem,hsz];exact ⟨rfl,rfl⟩) ?_
 exact aJ (h _ _ hR I ah ah)
theorem aMa (hsz:a.tmps.size=146)(e18:Ev a (.tmp 18)=v)(e27:Ev a (.tmp 27)=vm)(hc:Calls Tryz.prog 28 #[v,vm] w (cT (.tuple #[.int .i64 0,.int .i64 22]) w))
  (h:∀ a' w',Ext w w'->Ag [18,20] a a'->Ev a' (.tmp 28)=.int .i64 0->Ev a' (.tmp 29)=.int .i64 22->Q .normal a' w'):Code.wp Tryz.prog aQu Q a w:=by
 refine rW ?_
 iterate 2 refine lV ?_
 refine l_c rfl rfl rfl Tryz.func28 ac ac hc O ?_;rintro e w' ⟨rfl,hR⟩;refine ⟨_,rfl,?_⟩
 iterate 5 refine l_v rfl rfl (by simp [execOp,go_sem,hsz];exact ⟨rfl,rfl⟩) ?_
 exact aJ (h _ _ hR I ah ah)
structure E5 (gc mx:Nat)(L:List GE)(vx:Value)(W:World):Prop where
 cx:∀ w',Ext W w'->w'.cell? ⟨mx,2,none⟩=some vx
 ec:∀ w',Ext W w'->Calls Tryz.prog 18 #[.pointer (some ⟨gc,0,none⟩)] w' (rS L w')
 sx:∀ w' P v,Ext W w'->Ens w' P v L->Calls Tryz.prog 17 #[v,vx] w' (cT (.bool true) w')
theorem aMg (hsz:a.tmps.size=146)(e23:Ev a (.tmp 23)=.int .i64 1)(e25:Ev a (.tmp 25)=.int .i64 0)(e24:Ev a (.tmp 24)=↑z)(e18:Ev a (.tmp 18)=.pointer (some ⟨gc,0,none⟩))(e19:Ev a (.tmp 19)=.pointer (some ⟨gd,0,none⟩))(e20:Ev a (.tmp 20)=.pointer (some ⟨mx,0,none⟩))(e21:Ev a (.tmp 21)=.pointer (some ⟨my,0,none⟩))
  (hc:Calls Tryz.prog 29 #[.pointer (some ⟨mx,0,none⟩),.pointer (some ⟨my,0,none⟩)] w.drew fun e w'=>e=.returned (↑z)∧R w')(hE:∀ W,R W->∃ L vx M vy,E5 gc mx L vx W∧E5 gd my M vy W)
  (h:∀ a' W w',R W->Ext W w'->Ag [2,4,5,6,15,17,18,20] a a'->Ev a' (.tmp 101)=.bool false->Q .normal a' w'):Code.wp Tryz.prog aQ0 Q a w:=by
 conv=>arg 2;whnf
 refine dV (fun _=>True) (fun _=>true) 33 Y Y ?_;generalize w.drew=W at *;have hS:True:=trivial;refine d_t 23 [0,1,2,3,4,5,6,7,8,9] rfl Y hS ?_
 iterate 3 refine t_v rfl rfl rfl (fun w hw=>by simp [execOp,go_sem,hsz,e23];rfl) ?_
 iterate 2 refine t_y rfl rfl rfl rfl O ab rfl (fun w hw=>by simp [execOp,go_sem,hsz,e25];rfl) ?_
 iterate 2 refine t_v rfl rfl rfl (fun w hw=>by simp [execOp,go_sem,hsz];rfl) ?_
 iterate 3 refine t_y rfl rfl rfl rfl O ab rfl (fun w hw=>by simp [execOp,go_sem,hsz,e24,e20,e21];rfl) ?_
 refine t_e ?_;refine aKx 10 Y rfl rfl rfl ah dg rfl rfl rfl Tryz.func29 ac ac hc ah ?_;rintro e W2 ⟨rfl,hR⟩;obtain ⟨L,vx,M,vy,hX,hY⟩:=hE W2 hR;refine ⟨_,rfl,fun _=>trivial,aTj (Ext W2) (fun _ _=>trivial) ?_⟩;have hS:Ext W2 W2:=Ext.refl _;refine d_t 14 [11,12,13,14,16,17,18,19] rfl Y hS ?_
 iterate 1 refine t_y rfl rfl rfl rfl O ab rfl (fun w hw=>by simp [execOp,go_sem,hsz];rfl) ?_
 iterate 2 refine t_v rfl rfl rfl (fun w hw=>by simp [execOp,go_sem,hsz];rfl) ?_
 iterate 5 refine t_y rfl rfl rfl rfl O ab rfl (fun w hw=>by simp [execOp,go_sem,hX.cx w hw,hsz,e18,e20];rfl) ?_
 refine t_e ?_;refine aKx 15 Y rfl rfl rfl ah dg rfl rfl rfl Tryz.func18 ac ac (hX.ec W2 hS) ah ?_;rintro e w3 ⟨Ae,ce,rfl,hEn,hx⟩;have hS:=hS.trans' hx;refine ⟨_,rfl,fun _=>hS,?_⟩;refine aKx 20 Y rfl rfl rfl ah dg rfl rfl rfl Tryz.func17 ac ac (hX.sx w3 _ _ hS hEn) ah ?_;rintro e w4 ⟨rfl,hx⟩;have hS:=hS.trans' hx;refine ⟨_,rfl,fun _=>hS,?_⟩;refine d_t 4 [21,22,23,24,26,27,28,29] rfl Y hS ?_
 iterate 1 refine t_y rfl rfl rfl rfl O ab rfl (fun w hw=>by simp [execOp,go_sem,hsz];rfl) ?_
 iterate 2 refine t_v rfl rfl rfl (fun w hw=>by simp [execOp,go_sem,hsz];rfl) ?_
 iterate 5 refine t_y rfl rfl rfl rfl O ab rfl (fun w hw=>by simp [execOp,go_sem,hY.cx w hw,hsz,e19,e21];rfl) ?_
 refine t_e ?_;refine aKx 25 Y rfl rfl rfl ah dg rfl rfl rfl Tryz.func18 ac ac (hY.ec w4 hS) ah ?_;rintro e w5 ⟨Af,cf,rfl,hEm,hx⟩;have hS:=hS.trans' hx;refine ⟨_,rfl,fun _=>hS,?_⟩;refine aKx 30 Y rfl rfl rfl ah dg rfl rfl rfl Tryz.func17 ac ac (hY.sx w5 _ _ hS hEm) ah ?_;rintro e w6 ⟨rfl,hx⟩;have hS:=hS.trans' hx;refine ⟨_,rfl,fun _=>hS,?_⟩;refine d_t 0 [31,32] rfl Y hS ?_
 iterate 1 refine t_y rfl rfl rfl rfl O ab rfl (fun w hw=>by simp [execOp,go_sem,hsz];rfl) ?_
 iterate 1 refine t_v rfl rfl rfl (fun w hw=>by simp [execOp,go_sem,hsz];rfl) ?_
 refine t_e ?_;exact wO Y (h _ W2 w6 hR hS I ah)
theorem aMf {at_ how k:Int}{P:Nat->Prop}{t0:List GN}(hsz:a.tmps.size=146)(e5:Ev a (.tmp 5)=↑at_)(e6:Ev a (.tmp 6)=↑how)(e4:Ev a (.tmp 4)=↑k)(e15:Ev a (.tmp 15)=.pointer (some ⟨gt,0,none⟩))(c15:w.cell? ⟨gt,0,none⟩=some vn)(hc:Calls Tryz.prog 21 #[.agg #[vn],↑at_,↑how,↑k] w (qB t0 P w))
  (h:∀ a' A c t w1 W,Ag [2,15,17,18,20] a a'->Nds w1 (fun b=>P b∨w.heap.size<=b) (.slice A t.length c) t->(∀ x ∈ t,dG x)->Ext w w1->(t=t0∨∃ k x',k<t0.length∧t=t0.set k x'∧Sp1 (t0.getD k default) x')->Ext w1 W->Blk W w1.heap.size 25 #[.slice A t.length c]->Ev a' (.tmp 26)=.pointer (some ⟨w1.heap.size,0,none⟩)->Q .normal a' W):Code.wp Tryz.prog aQz Q a w:=by
 refine rW ?_
 iterate 4 refine lV ?_
 refine l_c rfl rfl rfl Tryz.func21 ac ac hc O ?_;rintro e w1 ⟨A,c,t,rfl,h1,h2,h3,h4⟩;refine ⟨_,rfl,?_⟩
 iterate 1 refine l_v rfl rfl (by simp [execOp,go_sem,hsz];exact ⟨rfl,rfl⟩) ?_
 have hB:=Blk.new w1 25 #[.slice none 0 0];have hX:Ext w1 (w1.alloc (.cells #[.slice none 0 0] 25)):=(Ext.refl w1).alloc' _;generalize w1.alloc (.cells #[.slice none 0 0] 25)=W at *;refine l_s rfl rfl (by simp [execOp,go_sem,hB.cell,hB.frozen,hsz];rfl) ?_;exact aJ (h _ A c t w1 _ I h1 h2 h3 h4 (hX.setCell' (p:=⟨w1.heap.size,0,none⟩) (Nat.le_refl _) _) (hB.set_ 0 _) ah)
theorem aMe {bq:Bool}(hsz:a.tmps.size=146)(e26:Ev a (.tmp 26)=.pointer (some ⟨gs,0,none⟩))(e15:Ev a (.tmp 15)=.pointer (some ⟨gt,0,none⟩))(c26:∀ w',Ext w w'->w'.cell? ⟨gs,0,none⟩=some vn∧w'.cell? ⟨gt,0,none⟩=some vm)(hc:Calls Tryz.prog 22 #[.agg #[vn]] w (cT (↑z2) w))
  (hq:∀ w',Ext w w'->Calls Tryz.prog 30 #[.agg #[vn],.agg #[vm]] w' (cT (.bool bq) w'))
  (h:∀ a' w',Ext w w'->Ag [2,17,18,20,26] a a'->Ev a' (.tmp 114)=.bool (!decide (z2=0) || bq)->Q .normal a' w'):Code.wp Tryz.prog aQy Q a w:=by
 have q0:=(c26 w (Ext.refl w)).1;refine rW ?_
 iterate 1 refine lV ?_
 refine l_c rfl rfl rfl Tryz.func22 ac ac hc O ?_;rintro e w1 ⟨rfl,hx⟩;refine ⟨_,rfl,?_⟩;obtain ⟨q1,q2⟩:=c26 w1 hx
 by_cases h0:z2=0
 ·subst h0
  iterate 2 refine l_v rfl rfl (by simp [execOp,go_sem,hsz];exact ⟨rfl,rfl⟩) ?_
  iterate 2 refine l_y rfl rfl rfl ah dg rfl (by simp [execOp,go_sem,hsz,e26,e15,q1,q2];exact ⟨rfl,rfl⟩) ?_
  refine aY5 rfl rfl rfl ah dg rfl rfl Tryz.func30 ac ac (hq w1 hx) ah ?_;rintro e w2 ⟨rfl,hx2⟩;refine ⟨_,rfl,?_⟩
  iterate 1 refine l_v rfl rfl (by simp [execOp,go_sem,hsz];exact ⟨rfl,rfl⟩) ?_
  exact aJ (h _ _ (hx.trans' hx2) I ah)
 ·have h0':(z2 == 0)=false:=aZw h0
  iterate 2 refine l_v rfl rfl (by simp [execOp,go_sem,hsz];exact ⟨rfl,rfl⟩) ?_
  iterate 3 refine l_n rfl rfl rfl ah (by simp [hsz,h0',bne];rfl) rfl ?_
  iterate 1 refine l_v rfl rfl (by simp [execOp,go_sem,hsz,h0',bne];exact ⟨rfl,rfl⟩) ?_
  exact aJ (h _ _ hx I (by simp [hsz,h0]))
theorem aMd (hsz:a.tmps.size=146)(hc:Calls Tryz.prog 23 #[] w (cT (.bool true) w))(h:∀ a' w',Ext w w'->Ag [] a a'->Ev a' (.tmp 14)=.bool true->Q .normal a' w'):Code.wp Tryz.prog aQx Q a w:=by
 refine rW ?_;refine l_c rfl rfl rfl Tryz.func23 ac ac hc U ?_;rintro e w1 ⟨rfl,hx⟩;refine ⟨_,rfl,?_⟩
 iterate 1 refine l_v rfl rfl (by simp [execOp,go_sem,hsz];exact ⟨rfl,rfl⟩) ?_
 exact aJ (h _ _ hx I ah)
theorem aMb (hsz:a.tmps.size=146)(e27:Ev a (.tmp 27)=.pointer (some ⟨gd,0,none⟩))(h:∀ a',Ag [18,20,27] a a'->Ev a' (.tmp 121)=.bool false->Q .normal a' w):Code.wp Tryz.prog aQv Q a w:=by
 refine rW ?_
 iterate 2 refine lV ?_
 exact aJ (h _ I O)
theorem aL9 (hsz:a.tmps.size=146)(e28:Ev a (.tmp 28)=.int .i64 0)(e29:Ev a (.tmp 29)=.int .i64 22)(e18:Ev a (.tmp 18)=.pointer (some ⟨gc,0,none⟩))(e20:Ev a (.tmp 20)=.pointer (some ⟨mx,0,none⟩))(hX:E5 gc mx L vx w)(hl:∀ w',Ext w w'->Calls Tryz.prog 23 #[] w' (cT (.bool true) w'))
  (h:∀ a' w',Ext w w'->Ag [] a a'->Ev a' (.tmp 14)=.bool true->Q .normal a' w'):Code.wp Tryz.prog aQt Q a w:=by
 conv=>arg 2;whnf
 have hS:Ext w w.drew:=(Ext.refl w).drew';refine dV (Ext w) (fun _=>true) 19 Y Y ?_;generalize w.drew=W at *;refine d_t 7 [0,1,2,3,4,5,6,7,9,10,11,12] rfl Y hS ?_
 iterate 3 refine t_v rfl rfl rfl (fun w hw=>by simp [execOp,go_sem,hsz,e28];rfl) ?_
 iterate 2 refine t_y rfl rfl rfl rfl O ab rfl (fun w hw=>by simp [execOp,go_sem,hsz,e29];rfl) ?_
 iterate 2 refine t_v rfl rfl rfl (fun w hw=>by simp [execOp,go_sem,hsz];rfl) ?_
 iterate 5 refine t_y rfl rfl rfl rfl O ab rfl (fun w hw=>by simp [execOp,go_sem,hX.cx w hw,hsz,e18,e20];rfl) ?_
 refine t_e ?_;refine aKx 8 Y rfl rfl rfl ah dg rfl rfl rfl Tryz.func18 ac ac (hX.ec W hS) ah ?_;rintro e w3 ⟨Ae,ce,rfl,hEn,hx⟩;have hS:=hS.trans' hx;refine ⟨_,rfl,fun _=>hS,?_⟩;refine aKx 13 Y rfl rfl rfl ah dg rfl rfl rfl Tryz.func17 ac ac (hX.sx w3 _ _ hS hEn) ah ?_;rintro e w4 ⟨rfl,hx⟩;have hS:=hS.trans' hx;refine ⟨_,rfl,fun _=>hS,?_⟩;refine d_t 3 [14,15] rfl Y hS ?_
 iterate 2 refine t_v rfl rfl rfl (fun w hw=>by simp [execOp,go_sem,hsz];rfl) ?_
 refine t_e ?_;refine aKx 16 Y rfl rfl rfl ah dg rfl rfl rfl Tryz.func23 ac ac (hl w4 hS) ah ?_;rintro e w5 ⟨rfl,hx⟩;have hS:=hS.trans' hx;refine ⟨_,rfl,fun _=>hS,?_⟩;refine d_t 0 [17,18] rfl Y hS ?_
 iterate 2 refine t_v rfl rfl rfl (fun w hw=>by simp [execOp,go_sem,hsz];rfl) ?_
 refine t_e ?_;exact wO Y (h _ w5 hS I ah)
end
end Go.Proofs.YtkoeecdjijfjnaaGreat
