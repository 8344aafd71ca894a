/- Contracts of functions, plain laws. Conditions: none. -/
import Derived.Test.YtkoeecdjijfjnaaGreatPlA
import Derived.Test.YtkoeecdjijfjnaaGreatEA
set_option maxRecDepth 100000
set_option maxHeartbeats 8000000
namespace Go.Proofs.YtkoeecdjijfjnaaGreat
open Go.RowKit
noncomputable def aSf:=RG Tryz.f155 0
noncomputable def aKi:=RG Tryz.f155 1
noncomputable def aSe:=RG Tryz.f155 2
noncomputable def aKh:=RG Tryz.f155 3
noncomputable def aKg:=RG Tryz.f155 4
noncomputable def aKf:=RG Tryz.f155 5
noncomputable def aD4:=RG Tryz.f155 6
noncomputable def aSd:=RG Tryz.f155 7
noncomputable def aKe:=RG Tryz.f155 8
noncomputable def aSc:=RG Tryz.f155 9
variable {Q:Exit->Act->World->Prop}{a:Act}{w:World}{n m c d k:Nat}{A B:Option Addr}{F:Value}{b:Bool}
theorem aYh (hsz:a.tmps.size=30)(e:Ev a (.tmp 15)=↑(k:Int))(h:∀ a',Ag [0,1,2,14,15] a a'->Ev a' (.tmp 7)=↑(k:Int)->Q .normal a' w):Code.wp Tryz.prog aKf Q a w:=by
 refine rW ?_
 iterate 2 refine lV ?_
 exact aJ (h _ I O)
theorem aYi (hsz:a.tmps.size=30)(e:Ev a (.tmp 15)=↑(k:Int))(e':Ev a (.tmp 14)=↑(n:Int))(h:∀ a',Ag [0,1,2,14,15] a a'->Ev a' (.tmp 16)=.bool (decide (k<n))->Q .normal a' w):Code.wp Tryz.prog aKg Q a w:=by
 refine rW ?_
 iterate 1 refine lV ?_
 exact aJ (h _ I O)
theorem aYg (hsz:a.tmps.size=30)(e:Ev a (.tmp 15)=↑(k:Int))(hw:IntKind.i64.wrap ((k:Int)+1)=(k:Int)+1)(h:∀ a',Ag [0,1,2,14] a a'->Ev a' (.tmp 15)=.int .i64 ((k+1:Nat):Int)->Q .normal a' w):Code.wp Tryz.prog aKe Q a w:=by
 refine rW ?_
 iterate 2 refine lV ?_
 exact aJ (h _ I O)
def S1 (r:Code):Prop:=∀ (Q:Exit->Act->World->Prop)(a:Act)(w:World)(A B:Option Addr)(n m c d:Nat),a.tmps.size=30->Ev a (.tmp 0)=.slice A n c->Ev a (.tmp 1)=.slice B m d->(∀ a',Ag [0,1,2] a a'->Ev a' (.tmp 12)=.bool ((n:Int) != (m:Int))->Q .normal a' w)->Code.wp Tryz.prog r Q a w
def S3 (r:Code):Prop:=∀ (Q:Exit->Act->World->Prop)(a:Act)(w:World)(A:Option Addr)(n c:Nat),a.tmps.size=30->Ev a (.tmp 0)=.slice A n c->(∀ a',Ag [0,1,2] a a'->Ev a' (.tmp 14)=↑(n:Int)->Ev a' (.tmp 15)=.int .i64 0->Q .normal a' w)->Code.wp Tryz.prog r Q a w
def S6 (r:Code)(A B:Option Addr)(n c d:Nat)(F:Value)(k:Nat)(b:Bool)(w:World):Prop:=∀ (Q:Exit->Act->World->Prop)(a:Act),a.tmps.size=30->Ev a (.tmp 0)=.slice A n c->Ev a (.tmp 1)=.slice B n d->Ev a (.tmp 2)=F->Ev a (.tmp 7)=↑(k:Int) ->
 (∀ a' w',Ext w w'->Ag [0,1,2,14,15] a a'->Ev a' (.tmp 28)=.bool (!b)->Q .normal a' w')->Code.wp Tryz.prog r Q a w
noncomputable abbrev bdS (r6:Code):Code:=.seq aKg (.seq (.cond (.tmp 16) .skip (.exit 0)) (.seq (.block 1 (.seq aKf (.seq r6 (.cond (.tmp 28) (.seq aSd .ret) .skip)))) aKe))
noncomputable abbrev aE8 (r1 r3 r6:Code):Code:=.seq aSf (.seq (.seq r1 (.cond (.tmp 12) (.seq aSe .ret) .skip)) (.seq (.seq r3 (.block 0 (.loop (bdS r6)))) (.seq aSc .ret)))
def IS (n:Nat)(f:Nat->Bool)(a0:Act)(ws:World)(k:Nat)(a:Act)(w:World):Prop:=Ag [0,1,2] a0 a∧k<=n∧Ev a (.tmp 14)=↑(n:Int)∧Ev a (.tmp 15)=↑(k:Int)∧Ext ws w∧(List.range k).all f=true
theorem nQ {r1 r3 r6:Code}{f:Nat->Bool}{R:Exit->Act->World->Prop}(h1:S1 r1)(h3:S3 r3)(hn:n<=17592186044416)(h6:n=m->∀ k,k<n->∀ w',Ext w w'->S6 r6 A B n c d F k (f k) w')(hsz:a.tmps.size=30)(e0:Ev a (.tmp 0)=.slice A n c)(e1:Ev a (.tmp 1)=.slice B m d)(e2:Ev a (.tmp 2)=F)
  (hR:∀ a' w',a'.defers=a.defers->Ev a' (.tmp 6)=.bool (decide (n=m) && (List.range n).all f)->Ext w w'->R .ret a' w'):Code.wp Tryz.prog (aE8 r1 r3 r6) R a w:=by
 refine wp_seq ?_;refine rW ?_
 iterate 1 refine lV ?_
 refine aJ ?_;refine wp_seq (wp_seq (h1 _ _ _ A B n m c d O O O ?_));intro a1 g1 e12;have z1:a1.tmps.size=30:=by rw [g1.sz];simp [*]
 have d1:a1.defers=a.defers:=g1.df
 by_cases hnm:n=m
 ·subst hnm
  refine wp_cond_false (e12.trans U) (wp_skip ?_);have G1:Ag [0,1,2] a a1:=((Ag.rf.put rfl).trans g1);refine wp_seq (wp_seq (h3 _ _ _ _ _ _ z1 (G1.get 0 e0) ?_));intro a2 g2 e14 e15;have G2:=G1.trans g2;clear g1 G1 e12;refine wp_block (wp_loop (fun a' w'=>∃ k,IS n f a w k a' w') (fun a' _=>n - (intOf (Ev a' (.tmp 15))).toNat) ⟨0,G2,Nat.zero_le _,e14,e15,Ext.refl _,rfl⟩ ?_);clear g2 e14 e15 G2 z1 d1 a1 a2;rintro a1 w1 ⟨k,hG,hk,e14,e15,hE,hall⟩;have f0:=hG.get 0 e0;have f1:=hG.get 1 e1;have f2:=hG.get 2 e2;have z1:a1.tmps.size=30:=by rw [hG.sz];exact hsz
  refine wp_seq (aYi z1 e15 e14 ?_);intro a2 g2 e16;have z2:a2.tmps.size=30:=by rw [g2.sz];exact z1
  by_cases hlt:k<n
  ·refine wp_seq (wp_cond_true (e16.trans eq) (wp_skip ?_))
   refine wp_seq (wp_block (wp_seq (aYh z2 (g2.get 15 e15) ?_)));intro a3 g3 e7;have z3:a3.tmps.size=30:=by rw [g3.sz];exact z2
   have G3:=g2.trans g3;refine wp_seq (h6 rfl k hlt w1 hE _ _ z3 (G3.get 0 f0) (G3.get 1 f1) (G3.get 2 f2) e7 ?_);intro a4 w4 hx4 g4 e28;have z4:a4.tmps.size=30:=by rw [g4.sz];exact z3
   have G4:=G3.trans g4
   by_cases hf:f k=true
   ·refine wp_cond_false (e28.trans (by rw [hf];rfl)) (wp_skip ?_)
    refine aYg z4 (G4.get 15 e15) (IntWalk.i64_in _ D) ?_;intro a5 g5 e15';refine ⟨⟨k+1,hG.trans ((G4.mono rfl).trans (g5.mono rfl)),hlt,g5.get 14 (G4.get 14 e14),e15',hE.trans' hx4,by rw [List.range_succ,List.all_append,hall];simp [hf]⟩,?_⟩;rw [e15',e15];simp [intOf];omega
   ·refine wp_cond_true (e28.trans (by simp [hf])) ?_
    refine wp_seq ?_;refine rW ?_
    iterate 1 refine l_v rfl rfl (by simp [execOp,go_sem,z4];exact ⟨rfl,rfl⟩) ?_
    refine aJ (wp_ret (hR _ _ (G4.df.trans hG.df) ?_ (hE.trans' hx4)))
    have h9:(List.range n).all f=false:=by
     rw [List.all_eq_false];exact ⟨k,List.mem_range.2 hlt,hf⟩
    simp [z4,h9]
  ·refine wp_seq (wp_cond_false (e16.trans eq) (wp_exit ?_))
   refine wp_seq ?_;refine rW ?_
   iterate 1 refine l_v rfl rfl (by simp [execOp,go_sem,z2];exact ⟨rfl,rfl⟩) ?_
   obtain rfl:k=n:=D
   refine aJ (wp_ret (hR _ _ (g2.df.trans hG.df) (by simp [z2,hall]) hE))
 ·refine wp_cond_true (e12.trans aa) ?_
  refine wp_seq ?_;refine rW ?_
  iterate 1 refine l_v rfl rfl (by simp [execOp,go_sem,z1];exact ⟨rfl,rfl⟩) ?_
  refine aJ (wp_ret (hR _ _ d1 (by simp [z1,hnm]) (Ext.refl _)))
theorem aWk:S1 aKi:=by
 intro Q a w A B n m c d hsz e0 e1 h;refine rW ?_
 iterate 5 refine lV ?_
 exact aJ (h _ I O)
theorem aWj:S3 aKh:=by
 intro Q a w A n c hsz e0 h;refine rW ?_
 iterate 3 refine lV ?_
 exact aJ (h _ I O O)
theorem aWi {bx by_ ox oy:Nat}{g:FuncId}{fn:Func}{x y:Int}(hx:∀ w',Ext w w'->w'.cell? ⟨bx,ox+k,none⟩=some (↑x))(hy:∀ w',Ext w w'->w'.cell? ⟨by_,oy+k,none⟩=some (↑y))(hf:Tryz.prog.funcs[g]?=some fn)(hn:(fn.name == "runtime.NumGoroutine")=false) (hbn:fn.body.isNone=false)
  (hc:∀ w',Ext w w'->Calls Tryz.prog g #[↑x,↑y] w' fun e w2=>e=.returned (.bool b)∧Ext w w2)(hk:k<n):S6 aD4 (some ⟨bx,ox,none⟩) (some ⟨by_,oy,none⟩) n c d (.func (.func g) #[] #[]) k b w:=by
 intro Q a hsz e0 e1 e2 e7 h;have hk':(k:Int)<(n:Int):=by omega
 conv=>arg 2;whnf
 refine cM (fun w'=>Ext w w') Y Y (Ext.refl w).drew' ?_
 iterate 9 refine q_v rfl rfl (fun w hw=>by simp [execOp,go_sem,hx w hw,hy w hw, *];rfl) ?_
 refine q_f rfl rfl rfl O hf hn hbn hc O ?_
 iterate 1 refine q_v rfl rfl (fun w hw=>by simp [execOp,go_sem, *];rfl) ?_
 exact nD (fun w' hw=>h _ w' hw I O)
theorem aPk:Tryz.f155.body=some (aE8 aKi aKh aD4):=Y
theorem aL1 {f:Nat->Bool}(hn:n<=17592186044416)(h6:n=m->∀ k,k<n->∀ w',Ext w w'->S6 aD4 A B n c d F k (f k) w'):Calls Tryz.prog 155 #[.slice A n c,.slice B m d,F] w (cT (.bool (decide (n=m) && (List.range n).all f)) w):=by
 refine calls_of_wp Tryz.func155 aPk (nQ (F:=F) aWk aWj hn h6 (by simp [Tryz.ntmps155]) ai ai ai ?_);intro a' w' h1 h2 h3;refine bodyPost_ret (v:=.bool (decide (n=m) && (List.range n).all f)) ?_ h1 ⟨rfl,h3⟩;have h5:a'.tmps[6]?.getD undef=.bool (decide (n=m) && (List.range n).all f):=by rw [<- h2];simp [Ev,Act.eval]
 simp [results,Tryz.results155,go_sem,h5]
noncomputable def aKd:=RG Tryz.f157 1
noncomputable def aKc:=RG Tryz.f157 3
noncomputable def aD3:=RG Tryz.f157 6
theorem aWh:S1 aKd:=by
 intro Q a w A B n m c d hsz e0 e1 h;refine rW ?_
 iterate 5 refine lV ?_
 exact aJ (h _ I O)
theorem aWg:S3 aKc:=by
 intro Q a w A n c hsz e0 h;refine rW ?_
 iterate 3 refine lV ?_
 exact aJ (h _ I O O)
theorem aWf {bx by_ ox oy:Nat}{g:FuncId}{fn:Func}{x y:ByteArray}(hx:∀ w',Ext w w'->w'.cell? ⟨bx,ox+k,none⟩=some (.string x))(hy:∀ w',Ext w w'->w'.cell? ⟨by_,oy+k,none⟩=some (.string y))(hf:Tryz.prog.funcs[g]?=some fn)(hn:(fn.name == "runtime.NumGoroutine")=false) (hbn:fn.body.isNone=false)
  (hc:∀ w',Ext w w'->Calls Tryz.prog g #[.string x,.string y] w' fun e w2=>e=.returned (.bool b)∧Ext w w2)(hk:k<n):S6 aD3 (some ⟨bx,ox,none⟩) (some ⟨by_,oy,none⟩) n c d (.func (.func g) #[] #[]) k b w:=by
 intro Q a hsz e0 e1 e2 e7 h;have hk':(k:Int)<(n:Int):=by omega
 conv=>arg 2;whnf
 refine cM (fun w'=>Ext w w') Y Y (Ext.refl w).drew' ?_
 iterate 9 refine q_v rfl rfl (fun w hw=>by simp [execOp,go_sem,hx w hw,hy w hw, *];rfl) ?_
 refine q_f rfl rfl rfl O hf hn hbn hc O ?_
 iterate 1 refine q_v rfl rfl (fun w hw=>by simp [execOp,go_sem, *];rfl) ?_
 exact nD (fun w' hw=>h _ w' hw I O)
theorem aPj:Tryz.f157.body=some (aE8 aKd aKc aD3):=Y
theorem aL0 {f:Nat->Bool}(hn:n<=17592186044416)(h6:n=m->∀ k,k<n->∀ w',Ext w w'->S6 aD3 A B n c d F k (f k) w'):Calls Tryz.prog 157 #[.slice A n c,.slice B m d,F] w (cT (.bool (decide (n=m) && (List.range n).all f)) w):=by
 refine calls_of_wp Tryz.func157 aPj (nQ (F:=F) aWh aWg hn h6 (by simp [Tryz.ntmps157]) ai ai ai ?_);intro a' w' h1 h2 h3;refine bodyPost_ret (v:=.bool (decide (n=m) && (List.range n).all f)) ?_ h1 ⟨rfl,h3⟩;have h5:a'.tmps[6]?.getD undef=.bool (decide (n=m) && (List.range n).all f):=by rw [<- h2];simp [Ev,Act.eval]
 simp [results,Tryz.results157,go_sem,h5]
noncomputable def aKb:=RG Tryz.f159 1
noncomputable def aKa:=RG Tryz.f159 3
noncomputable def aD2:=RG Tryz.f159 6
theorem aWe:S1 aKb:=by
 intro Q a w A B n m c d hsz e0 e1 h;refine rW ?_
 iterate 5 refine lV ?_
 exact aJ (h _ I O)
theorem aWd:S3 aKa:=by
 intro Q a w A n c hsz e0 h;refine rW ?_
 iterate 3 refine lV ?_
 exact aJ (h _ I O O)
theorem aWc {bx by_ ox oy:Nat}{g:FuncId}{fn:Func}{x y:GV}{Ax Ay:Option Addr}{cx cy:Nat}(hx:∀ w',Ext w w'->w'.cell? ⟨bx,ox+k*4,none⟩=some (↑x.kind)∧w'.cell? ⟨bx,ox+k*4+1,none⟩=some (↑x.n)∧w'.cell? ⟨bx,ox+k*4+2,none⟩=some (.string x.s)∧w'.cell? ⟨bx,ox+k*4+3,none⟩=some (.slice Ax x.kids.length cx))(hy:∀ w',Ext w w'->w'.cell? ⟨by_,oy+k*4,none⟩=some (↑y.kind)∧w'.cell? ⟨by_,oy+k*4+1,none⟩=some (↑y.n)∧w'.cell? ⟨by_,oy+k*4+2,none⟩=some (.string y.s)∧w'.cell? ⟨by_,oy+k*4+3,none⟩=some (.slice Ay y.kids.length cy))(hf:Tryz.prog.funcs[g]?=some fn)(hn:(fn.name == "runtime.NumGoroutine")=false) (hbn:fn.body.isNone=false)
  (hc:∀ w',Ext w w'->Calls Tryz.prog g #[dS x Ax cx,dS y Ay cy] w' fun e w2=>e=.returned (.bool b)∧Ext w w2)(hk:k<n):S6 aD2 (some ⟨bx,ox,none⟩) (some ⟨by_,oy,none⟩) n c d (.func (.func g) #[] #[]) k b w:=by
 intro Q a hsz e0 e1 e2 e7 h;have hk':(k:Int)<(n:Int):=by omega
 conv=>arg 2;whnf
 refine cM (fun w'=>Ext w w') Y Y (Ext.refl w).drew' ?_
 iterate 9 refine q_v rfl rfl (fun w hw=>by simp [execOp,go_sem,hx w hw,hy w hw, *];rfl) ?_
 refine q_f rfl rfl rfl O hf hn hbn hc O ?_
 iterate 1 refine q_v rfl rfl (fun w hw=>by simp [execOp,go_sem, *];rfl) ?_
 exact nD (fun w' hw=>h _ w' hw I O)
theorem aPi:Tryz.f159.body=some (aE8 aKb aKa aD2):=Y
theorem aLz {f:Nat->Bool}(hn:n<=17592186044416)(h6:n=m->∀ k,k<n->∀ w',Ext w w'->S6 aD2 A B n c d F k (f k) w'):Calls Tryz.prog 159 #[.slice A n c,.slice B m d,F] w (cT (.bool (decide (n=m) && (List.range n).all f)) w):=by
 refine calls_of_wp Tryz.func159 aPi (nQ (F:=F) aWe aWd hn h6 (by simp [Tryz.ntmps159]) ai ai ai ?_);intro a' w' h1 h2 h3;refine bodyPost_ret (v:=.bool (decide (n=m) && (List.range n).all f)) ?_ h1 ⟨rfl,h3⟩;have h5:a'.tmps[6]?.getD undef=.bool (decide (n=m) && (List.range n).all f):=by rw [<- h2];simp [Ev,Act.eval]
 simp [results,Tryz.results159,go_sem,h5]
noncomputable def aKp:=RG Tryz.f114 1
noncomputable def aKo:=RG Tryz.f114 3
noncomputable def aD5:=RG Tryz.f114 6
theorem aWn:S1 aKp:=by
 intro Q a w A B n m c d hsz e0 e1 h;refine rW ?_
 iterate 5 refine lV ?_
 exact aJ (h _ I O)
theorem aWm:S3 aKo:=by
 intro Q a w A n c hsz e0 h;refine rW ?_
 iterate 3 refine lV ?_
 exact aJ (h _ I O O)
theorem aWl {bx by_ ox oy:Nat}{g:FuncId}{fn:Func}{x y:GN}{ax ay:NA}(hx:∀ w',Ext w w'->w'.cell? ⟨bx,ox+k*12,none⟩=some (↑x.kind)∧w'.cell? ⟨bx,ox+k*12+1,none⟩=some (.string x.name)∧w'.cell? ⟨bx,ox+k*12+2,none⟩=some (↑x.lo)∧w'.cell? ⟨bx,ox+k*12+3,none⟩=some (↑x.hi)∧w'.cell? ⟨bx,ox+k*12+4,none⟩=some (.slice ax.wA x.weights.length ax.wc)∧w'.cell? ⟨bx,ox+k*12+5,none⟩=some (.slice ax.lA x.labels.length ax.lc)∧w'.cell? ⟨bx,ox+k*12+6,none⟩=some (.slice ax.vA x.values.length ax.vc)∧w'.cell? ⟨bx,ox+k*12+7,none⟩=some (.slice ax.kA x.kids.length ax.kc)∧w'.cell? ⟨bx,ox+k*12+8,none⟩=some (↑x.value.kind)∧w'.cell? ⟨bx,ox+k*12+9,none⟩=some (↑x.value.n)∧w'.cell? ⟨bx,ox+k*12+10,none⟩=some (.string x.value.s)∧w'.cell? ⟨bx,ox+k*12+11,none⟩=some (.slice ax.xA x.value.kids.length ax.xc))(hy:∀ w',Ext w w'->w'.cell? ⟨by_,oy+k*12,none⟩=some (↑y.kind)∧w'.cell? ⟨by_,oy+k*12+1,none⟩=some (.string y.name)∧w'.cell? ⟨by_,oy+k*12+2,none⟩=some (↑y.lo)∧w'.cell? ⟨by_,oy+k*12+3,none⟩=some (↑y.hi)∧w'.cell? ⟨by_,oy+k*12+4,none⟩=some (.slice ay.wA y.weights.length ay.wc)∧w'.cell? ⟨by_,oy+k*12+5,none⟩=some (.slice ay.lA y.labels.length ay.lc)∧w'.cell? ⟨by_,oy+k*12+6,none⟩=some (.slice ay.vA y.values.length ay.vc)∧w'.cell? ⟨by_,oy+k*12+7,none⟩=some (.slice ay.kA y.kids.length ay.kc)∧w'.cell? ⟨by_,oy+k*12+8,none⟩=some (↑y.value.kind)∧w'.cell? ⟨by_,oy+k*12+9,none⟩=some (↑y.value.n)∧w'.cell? ⟨by_,oy+k*12+10,none⟩=some (.string y.value.s)∧w'.cell? ⟨by_,oy+k*12+11,none⟩=some (.slice ay.xA y.value.kids.length ay.xc))(hf:Tryz.prog.funcs[g]?=some fn)(hn:(fn.name == "runtime.NumGoroutine")=false) (hbn:fn.body.isNone=false)
  (hc:∀ w',Ext w w'->Calls Tryz.prog g #[fF x ax,fF y ay] w' fun e w2=>e=.returned (.bool b)∧Ext w w2)(hk:k<n):S6 aD5 (some ⟨bx,ox,none⟩) (some ⟨by_,oy,none⟩) n c d (.func (.func g) #[] #[]) k b w:=by
 intro Q a hsz e0 e1 e2 e7 h;have hk':(k:Int)<(n:Int):=by omega
 conv=>arg 2;whnf
 refine cM (fun w'=>Ext w w') Y Y (Ext.refl w).drew' ?_
 iterate 9 refine q_v rfl rfl (fun w hw=>by simp [execOp,go_sem,hx w hw,hy w hw, *];rfl) ?_
 refine q_f rfl rfl rfl O hf hn hbn hc O ?_
 iterate 1 refine q_v rfl rfl (fun w hw=>by simp [execOp,go_sem, *];rfl) ?_
 exact nD (fun w' hw=>h _ w' hw I O)
theorem aPn:Tryz.f114.body=some (aE8 aKp aKo aD5):=Y
theorem aL2 {f:Nat->Bool}(hn:n<=17592186044416)(h6:n=m->∀ k,k<n->∀ w',Ext w w'->S6 aD5 A B n c d F k (f k) w'):Calls Tryz.prog 114 #[.slice A n c,.slice B m d,F] w (cT (.bool (decide (n=m) && (List.range n).all f)) w):=by
 refine calls_of_wp Tryz.func114 aPn (nQ (F:=F) aWn aWm hn h6 (by simp [Tryz.ntmps114]) ai ai ai ?_);intro a' w' h1 h2 h3;refine bodyPost_ret (v:=.bool (decide (n=m) && (List.range n).all f)) ?_ h1 ⟨rfl,h3⟩;have h5:a'.tmps[6]?.getD undef=.bool (decide (n=m) && (List.range n).all f):=by rw [<- h2];simp [Ev,Act.eval]
 simp [results,Tryz.results114,go_sem,h5]
theorem aWx (x y:Int)(w:World):Calls Tryz.prog 156 #[↑x,↑y] w (cT (.bool (x == y)) w):=by
 go_enter Tryz.func156,Tryz.ntmps156;go_wp2_with fail;go_ret;exact ⟨rfl,Ext.refl _⟩
theorem aWw (x y:ByteArray)(w:World):Calls Tryz.prog 158 #[.string x,.string y] w (cT (.bool (x.toList == y.toList)) w):=by
 go_enter Tryz.func158,Tryz.ntmps158;go_wp2_with fail;go_ret;exact ⟨rfl,Ext.refl _⟩
theorem aTd (x y:GV)(A B:Option Addr)(c d:Nat)(P Q:Nat->Prop)(w:World)(hx:VAt w P x A c)(hy:VAt w Q y B d):Calls Tryz.prog 154 #[dS x A c,dS y B d] w (cT (.bool (cE x y == 0)) w):=by
 have HX:=aZv hx;have HY:=aZv hy;clear hx hy;go_enter Tryz.func154,Tryz.ntmps154;go_wp2_with fail;refine (bB x y A B c d P Q _ (HX.out.ext (((Ext.refl _).alloc' _).alloc' _)) (HY.out.ext (((Ext.refl _).alloc' _).alloc' _))).mono ?_;rintro e w1 ⟨rfl,hx1⟩;have HX1:=aZv ((((Ext.refl w).alloc' _).alloc' _).trans' hx1);clear hx1;go_wp2_with fail;go_ret;exact ⟨rfl,HX1.out⟩
noncomputable def aSv:=RG Tryz.f115 0
noncomputable def aSu:=RG Tryz.f115 1
noncomputable def aKn:=RG Tryz.f115 2
noncomputable def aU8:=RG Tryz.f65 0
noncomputable def aQs:=RG Tryz.f65 1
noncomputable def aQr:=RG Tryz.f65 2
noncomputable def aQq:=RG Tryz.f65 3
noncomputable def aQp:=RG Tryz.f65 4
noncomputable def aQo:=RG Tryz.f65 5
variable {Q:Exit->Act->World->Prop}{a:Act}{w:World}{g f:Nat}{x y:GN}{ax ay:NA}{b1 b2 b3 b4 b5:Bool}{k5:Int}
theorem aH5 (hsz:a.tmps.size=69)(e2:Ev a (.tmp 2)=.pointer (some ⟨g,0,none⟩))(e3:Ev a (.tmp 3)=.pointer (some ⟨f,0,none⟩))(e5:Ev a (.tmp 5)=.func (.func 154) #[] #[])
  (hx:∀ w',Ext w w'->w'.cell? ⟨g,0,none⟩=some (↑x.kind)∧w'.cell? ⟨g,1,none⟩=some (.string x.name)∧w'.cell? ⟨g,2,none⟩=some (↑x.lo)∧w'.cell? ⟨g,3,none⟩=some (↑x.hi)∧w'.cell? ⟨g,4,none⟩=some (.slice ax.wA x.weights.length ax.wc)∧w'.cell? ⟨g,5,none⟩=some (.slice ax.lA x.labels.length ax.lc)∧w'.cell? ⟨g,6,none⟩=some (.slice ax.vA x.values.length ax.vc)∧w'.cell? ⟨g,7,none⟩=some (.slice ax.kA x.kids.length ax.kc)∧w'.cell? ⟨g,8,none⟩=some (↑x.value.kind)∧w'.cell? ⟨g,9,none⟩=some (↑x.value.n)∧w'.cell? ⟨g,10,none⟩=some (.string x.value.s)∧w'.cell? ⟨g,11,none⟩=some (.slice ax.xA x.value.kids.length ax.xc))
  (hy:∀ w',Ext w w'->w'.cell? ⟨f,0,none⟩=some (↑y.kind)∧w'.cell? ⟨f,1,none⟩=some (.string y.name)∧w'.cell? ⟨f,2,none⟩=some (↑y.lo)∧w'.cell? ⟨f,3,none⟩=some (↑y.hi)∧w'.cell? ⟨f,4,none⟩=some (.slice ay.wA y.weights.length ay.wc)∧w'.cell? ⟨f,5,none⟩=some (.slice ay.lA y.labels.length ay.lc)∧w'.cell? ⟨f,6,none⟩=some (.slice ay.vA y.values.length ay.vc)∧w'.cell? ⟨f,7,none⟩=some (.slice ay.kA y.kids.length ay.kc)∧w'.cell? ⟨f,8,none⟩=some (↑y.value.kind)∧w'.cell? ⟨f,9,none⟩=some (↑y.value.n)∧w'.cell? ⟨f,10,none⟩=some (.string y.value.s)∧w'.cell? ⟨f,11,none⟩=some (.slice ay.xA y.value.kids.length ay.xc))
  (c1:∀ w',Ext w w'->Calls Tryz.prog 155 #[.slice ax.wA x.weights.length ax.wc,.slice ay.wA y.weights.length ay.wc,.func (.func 156) #[] #[]] w' fun e w2=>e=.returned (.bool b1)∧Ext w w2)
  (c2:∀ w',Ext w w'->Calls Tryz.prog 157 #[.slice ax.lA x.labels.length ax.lc,.slice ay.lA y.labels.length ay.lc,.func (.func 158) #[] #[]] w' fun e w2=>e=.returned (.bool b2)∧Ext w w2)
  (c3:∀ w',Ext w w'->Calls Tryz.prog 159 #[.slice ax.vA x.values.length ax.vc,.slice ay.vA y.values.length ay.vc,.func (.func 154) #[] #[]] w' fun e w2=>e=.returned (.bool b3)∧Ext w w2)
  (c4:∀ w',Ext w w'->Calls Tryz.prog 155 #[.slice ax.kA x.kids.length ax.kc,.slice ay.kA y.kids.length ay.kc,.func (.func 156) #[] #[]] w' fun e w2=>e=.returned (.bool b4)∧Ext w w2)
  (c5:∀ w',Ext w w'->Calls Tryz.prog 154 #[dS x.value ax.xA ax.xc,dS y.value ay.xA ay.xc] w' fun e w2=>e=.returned (.bool b5)∧Ext w w2)
  (h:∀ a' w',Ext w w'->Ag [] a a'->Ev a' (.tmp 4)=.bool (x.kind == y.kind && x.name.toList == y.name.toList && x.lo == y.lo && x.hi == y.hi && b1 && b2 && b3 && b4 && b5)->Q .normal a' w'):Code.wp Tryz.prog aKn Q a w:=by
 refine rX ?_
 iterate 6 refine x_v rfl rfl (fun w hw=>by simp [execOp,go_sem,hx w hw,hy w hw, *];rfl) ?_
 generalize hB0:(x.kind == y.kind)=B0
 iterate 5 refine uG rfl rfl rfl O ab (fun hb w hw=>by simp [execOp,go_sem,hx w hw,hy w hw, *];rfl) ?_
 refine x_p rfl rfl rfl ab ab ?_
 iterate 1 refine x_v rfl rfl (fun w hw=>by simp [execOp,go_sem, *];rfl) ?_
 generalize hB1:(B0 && _)=B1
 iterate 5 refine uG rfl rfl rfl O ab (fun hb w hw=>by simp [execOp,go_sem,hx w hw,hy w hw, *];rfl) ?_
 refine x_p rfl rfl rfl ab ab ?_
 iterate 1 refine x_v rfl rfl (fun w hw=>by simp [execOp,go_sem, *];rfl) ?_
 generalize hB2:(B1 && _)=B2
 iterate 5 refine uG rfl rfl rfl O ab (fun hb w hw=>by simp [execOp,go_sem,hx w hw,hy w hw, *];rfl) ?_
 refine x_p rfl rfl rfl ab ab ?_
 iterate 1 refine x_v rfl rfl (fun w hw=>by simp [execOp,go_sem, *];rfl) ?_
 generalize hB3:(B2 && _)=B3
 iterate 4 refine uG rfl rfl rfl O ab (fun hb w hw=>by simp [execOp,go_sem,hx w hw,hy w hw, *];rfl) ?_
 refine aP8 rfl rfl rfl O ab rfl Tryz.func155 ac ac c1 (fun hb=>rfl) (fun hb=>by simp [*]) ?_;refine x_p rfl rfl rfl ab ab ?_
 iterate 1 refine x_v rfl rfl (fun w hw=>by simp [execOp,go_sem, *];rfl) ?_
 generalize hB4:(B3 && _)=B4
 iterate 4 refine uG rfl rfl rfl O ab (fun hb w hw=>by simp [execOp,go_sem,hx w hw,hy w hw, *];rfl) ?_
 refine aP8 rfl rfl rfl O ab rfl Tryz.func157 ac ac c2 (fun hb=>rfl) (fun hb=>by simp [*]) ?_;refine x_p rfl rfl rfl ab ab ?_
 iterate 1 refine x_v rfl rfl (fun w hw=>by simp [execOp,go_sem, *];rfl) ?_
 generalize hB5:(B4 && _)=B5
 iterate 5 refine uG rfl rfl rfl O ab (fun hb w hw=>by simp [execOp,go_sem,hx w hw,hy w hw, *];rfl) ?_
 refine aP8 rfl rfl rfl O ab rfl Tryz.func159 ac ac c3 (fun hb=>rfl) (fun hb=>by simp [*]) ?_;refine x_p rfl rfl rfl ab ab ?_
 iterate 1 refine x_v rfl rfl (fun w hw=>by simp [execOp,go_sem, *];rfl) ?_
 generalize hB6:(B5 && _)=B6
 iterate 4 refine uG rfl rfl rfl O ab (fun hb w hw=>by simp [execOp,go_sem,hx w hw,hy w hw, *];rfl) ?_
 refine aP8 rfl rfl rfl O ab rfl Tryz.func155 ac ac c4 (fun hb=>rfl) (fun hb=>by simp [*]) ?_;refine x_p rfl rfl rfl ab ab ?_
 iterate 1 refine x_v rfl rfl (fun w hw=>by simp [execOp,go_sem, *];rfl) ?_
 generalize hB7:(B6 && _)=B7
 iterate 5 refine uG rfl rfl rfl O ab (fun hb w hw=>by simp [execOp,go_sem,hx w hw,hy w hw, *];rfl) ?_
 refine aP8 rfl rfl rfl O ab rfl Tryz.func154 ac ac c5 (fun hb=>by simp [*]) (fun hb=>by simp [*]) ?_;refine x_p rfl rfl rfl ab ab ?_
 iterate 1 refine x_v rfl rfl (fun w hw=>by simp [execOp,go_sem, *];rfl) ?_
 refine aA2 (fun w' hw=>h _ w' hw I ?_);subst hB0 hB1 hB2 hB3 hB4 hB5 hB6 hB7;simp [hsz]
theorem aL8 (hsz:a.tmps.size=75)(e2:Ev a (.tmp 2)=.pointer (some ⟨g,0,none⟩))(e3:Ev a (.tmp 3)=.pointer (some ⟨f,0,none⟩))
  (hx:∀ w',Ext w w'->w'.cell? ⟨g,4,none⟩=some (.slice ax.wA x.weights.length ax.wc))(hy:∀ w',Ext w w'->w'.cell? ⟨f,4,none⟩=some (.slice ay.wA y.weights.length ay.wc))
  (c1:∀ w',Ext w w'->Calls Tryz.prog 24 #[.slice ax.wA x.weights.length ax.wc,.slice ay.wA y.weights.length ay.wc] w' fun e w2=>e=.returned (.bool b1)∧Ext w w2)
  (h:∀ a' w',Ext w w'->Ag [2,3] a a'->Ev a' (.tmp 5)=.bool b1->Q .normal a' w'):Code.wp Tryz.prog aQs Q a w:=by
 refine rX ?_
 iterate 4 refine x_v rfl rfl (fun w hw=>by simp [execOp,go_sem,hx w hw,hy w hw, *];rfl) ?_
 refine x_c rfl rfl rfl rfl Tryz.func24 ac ac c1 O ?_
 iterate 1 refine x_v rfl rfl (fun w hw=>by simp [execOp,go_sem, *];rfl) ?_
 exact aA2 (fun w' hw=>h _ w' hw I O)
theorem aL7 (hsz:a.tmps.size=75)(e2:Ev a (.tmp 2)=.pointer (some ⟨g,0,none⟩))(e3:Ev a (.tmp 3)=.pointer (some ⟨f,0,none⟩))
  (hx:∀ w',Ext w w'->w'.cell? ⟨g,5,none⟩=some (.slice ax.lA x.labels.length ax.lc))(hy:∀ w',Ext w w'->w'.cell? ⟨f,5,none⟩=some (.slice ay.lA y.labels.length ay.lc))
  (c1:∀ w',Ext w w'->Calls Tryz.prog 116 #[.slice ax.lA x.labels.length ax.lc,.slice ay.lA y.labels.length ay.lc] w' fun e w2=>e=.returned (.bool b1)∧Ext w w2)
  (h:∀ a' w',Ext w w'->Ag [2,3,5] a a'->Ev a' (.tmp 6)=.bool b1->Q .normal a' w'):Code.wp Tryz.prog aQr Q a w:=by
 refine rX ?_
 iterate 4 refine x_v rfl rfl (fun w hw=>by simp [execOp,go_sem,hx w hw,hy w hw, *];rfl) ?_
 refine x_c rfl rfl rfl rfl Tryz.func116 ac ac c1 O ?_
 iterate 1 refine x_v rfl rfl (fun w hw=>by simp [execOp,go_sem, *];rfl) ?_
 exact aA2 (fun w' hw=>h _ w' hw I O)
theorem aL6 (hsz:a.tmps.size=75)(e2:Ev a (.tmp 2)=.pointer (some ⟨g,0,none⟩))(e3:Ev a (.tmp 3)=.pointer (some ⟨f,0,none⟩))
  (hx:∀ w',Ext w w'->w'.cell? ⟨g,6,none⟩=some (.slice ax.vA x.values.length ax.vc))(hy:∀ w',Ext w w'->w'.cell? ⟨f,6,none⟩=some (.slice ay.vA y.values.length ay.vc))
  (c1:∀ w',Ext w w'->Calls Tryz.prog 112 #[.slice ax.vA x.values.length ax.vc,.slice ay.vA y.values.length ay.vc] w' fun e w2=>e=.returned (.bool b1)∧Ext w w2)
  (h:∀ a' w',Ext w w'->Ag [2,3,5,6] a a'->Ev a' (.tmp 7)=.bool b1->Q .normal a' w'):Code.wp Tryz.prog aQq Q a w:=by
 refine rX ?_
 iterate 4 refine x_v rfl rfl (fun w hw=>by simp [execOp,go_sem,hx w hw,hy w hw, *];rfl) ?_
 refine x_c rfl rfl rfl rfl Tryz.func112 ac ac c1 O ?_
 iterate 1 refine x_v rfl rfl (fun w hw=>by simp [execOp,go_sem, *];rfl) ?_
 exact aA2 (fun w' hw=>h _ w' hw I O)
theorem aL5 (hsz:a.tmps.size=75)(e2:Ev a (.tmp 2)=.pointer (some ⟨g,0,none⟩))(e3:Ev a (.tmp 3)=.pointer (some ⟨f,0,none⟩))
  (hx:∀ w',Ext w w'->w'.cell? ⟨g,7,none⟩=some (.slice ax.kA x.kids.length ax.kc))(hy:∀ w',Ext w w'->w'.cell? ⟨f,7,none⟩=some (.slice ay.kA y.kids.length ay.kc))
  (c1:∀ w',Ext w w'->Calls Tryz.prog 24 #[.slice ax.kA x.kids.length ax.kc,.slice ay.kA y.kids.length ay.kc] w' fun e w2=>e=.returned (.bool b1)∧Ext w w2)
  (h:∀ a' w',Ext w w'->Ag [2,3,5,6,7] a a'->Ev a' (.tmp 8)=.bool b1->Q .normal a' w'):Code.wp Tryz.prog aQp Q a w:=by
 refine rX ?_
 iterate 4 refine x_v rfl rfl (fun w hw=>by simp [execOp,go_sem,hx w hw,hy w hw, *];rfl) ?_
 refine x_c rfl rfl rfl rfl Tryz.func24 ac ac c1 O ?_
 iterate 1 refine x_v rfl rfl (fun w hw=>by simp [execOp,go_sem, *];rfl) ?_
 exact aA2 (fun w' hw=>h _ w' hw I O)
theorem aL4 (hsz:a.tmps.size=75)(e2:Ev a (.tmp 2)=.pointer (some ⟨g,0,none⟩))(e3:Ev a (.tmp 3)=.pointer (some ⟨f,0,none⟩))(e5:Ev a (.tmp 5)=.bool b1)(e6:Ev a (.tmp 6)=.bool b2)(e7:Ev a (.tmp 7)=.bool b3)(e8:Ev a (.tmp 8)=.bool b4)
  (hx:∀ w',Ext w w'->w'.cell? ⟨g,0,none⟩=some (↑x.kind)∧w'.cell? ⟨g,1,none⟩=some (.string x.name)∧w'.cell? ⟨g,2,none⟩=some (↑x.lo)∧w'.cell? ⟨g,3,none⟩=some (↑x.hi)∧w'.cell? ⟨g,4,none⟩=some (.slice ax.wA x.weights.length ax.wc)∧w'.cell? ⟨g,5,none⟩=some (.slice ax.lA x.labels.length ax.lc)∧w'.cell? ⟨g,6,none⟩=some (.slice ax.vA x.values.length ax.vc)∧w'.cell? ⟨g,7,none⟩=some (.slice ax.kA x.kids.length ax.kc)∧w'.cell? ⟨g,8,none⟩=some (↑x.value.kind)∧w'.cell? ⟨g,9,none⟩=some (↑x.value.n)∧w'.cell? ⟨g,10,none⟩=some (.string x.value.s)∧w'.cell? ⟨g,11,none⟩=some (.slice ax.xA x.value.kids.length ax.xc))
  (hy:∀ w',Ext w w'->w'.cell? ⟨f,0,none⟩=some (↑y.kind)∧w'.cell? ⟨f,1,none⟩=some (.string y.name)∧w'.cell? ⟨f,2,none⟩=some (↑y.lo)∧w'.cell? ⟨f,3,none⟩=some (↑y.hi)∧w'.cell? ⟨f,4,none⟩=some (.slice ay.wA y.weights.length ay.wc)∧w'.cell? ⟨f,5,none⟩=some (.slice ay.lA y.labels.length ay.lc)∧w'.cell? ⟨f,6,none⟩=some (.slice ay.vA y.values.length ay.vc)∧w'.cell? ⟨f,7,none⟩=some (.slice ay.kA y.kids.length ay.kc)∧w'.cell? ⟨f,8,none⟩=some (↑y.value.kind)∧w'.cell? ⟨f,9,none⟩=some (↑y.value.n)∧w'.cell? ⟨f,10,none⟩=some (.string y.value.s)∧w'.cell? ⟨f,11,none⟩=some (.slice ay.xA y.value.kids.length ay.xc))
  (c5:∀ w',Ext w w'->Calls Tryz.prog 117 #[dS x.value ax.xA ax.xc,dS y.value ay.xA ay.xc] w' fun e w2=>e=.returned (↑k5)∧Ext w w2)
  (h:∀ a' w',Ext w w'->Ag [] a a'->Ev a' (.tmp 4)=.bool (b1 && b2 && b3 && b4 && x.kind == y.kind && x.name.toList == y.name.toList && x.lo == y.lo && x.hi == y.hi && k5 == 0)->Q .normal a' w'):Code.wp Tryz.prog aQo Q a w:=by
 refine rX ?_
 iterate 2 refine x_v rfl rfl (fun w hw=>by simp [execOp,go_sem, *];rfl) ?_
 iterate 1 refine uG rfl rfl rfl O ab (fun hb w hw=>by simp [execOp,go_sem, *];rfl) ?_
 refine x_p rfl rfl rfl ab ab ?_
 iterate 1 refine x_v rfl rfl (fun w hw=>by simp [execOp,go_sem, *];rfl) ?_
 generalize hB0:(b1 && _)=B0
 iterate 1 refine uG rfl rfl rfl O ab (fun hb w hw=>by simp [execOp,go_sem, *];rfl) ?_
 refine x_p rfl rfl rfl ab ab ?_
 iterate 1 refine x_v rfl rfl (fun w hw=>by simp [execOp,go_sem, *];rfl) ?_
 generalize hB1:(B0 && _)=B1
 iterate 1 refine uG rfl rfl rfl O ab (fun hb w hw=>by simp [execOp,go_sem, *];rfl) ?_
 refine x_p rfl rfl rfl ab ab ?_
 iterate 1 refine x_v rfl rfl (fun w hw=>by simp [execOp,go_sem, *];rfl) ?_
 generalize hB2:(B1 && _)=B2
 iterate 5 refine uG rfl rfl rfl O ab (fun hb w hw=>by simp [execOp,go_sem,hx w hw,hy w hw, *];rfl) ?_
 refine x_p rfl rfl rfl ab ab ?_
 iterate 1 refine x_v rfl rfl (fun w hw=>by simp [execOp,go_sem, *];rfl) ?_
 generalize hB3:(B2 && _)=B3
 iterate 5 refine uG rfl rfl rfl O ab (fun hb w hw=>by simp [execOp,go_sem,hx w hw,hy w hw, *];rfl) ?_
 refine x_p rfl rfl rfl ab ab ?_
 iterate 1 refine x_v rfl rfl (fun w hw=>by simp [execOp,go_sem, *];rfl) ?_
 generalize hB4:(B3 && _)=B4
 iterate 5 refine uG rfl rfl rfl O ab (fun hb w hw=>by simp [execOp,go_sem,hx w hw,hy w hw, *];rfl) ?_
 refine x_p rfl rfl rfl ab ab ?_
 iterate 1 refine x_v rfl rfl (fun w hw=>by simp [execOp,go_sem, *];rfl) ?_
 generalize hB5:(B4 && _)=B5
 iterate 5 refine uG rfl rfl rfl O ab (fun hb w hw=>by simp [execOp,go_sem,hx w hw,hy w hw, *];rfl) ?_
 refine x_p rfl rfl rfl ab ab ?_
 iterate 1 refine x_v rfl rfl (fun w hw=>by simp [execOp,go_sem, *];rfl) ?_
 generalize hB6:(B5 && _)=B6
 iterate 4 refine uG rfl rfl rfl O ab (fun hb w hw=>by simp [execOp,go_sem,hx w hw,hy w hw, *];rfl) ?_
 refine aP8 rfl rfl rfl O ab rfl Tryz.func117 ac ac c5 (fun hb=>rfl) (fun hb=>by simp [*]) ?_
 iterate 1 refine uG rfl rfl rfl O ab (fun hb w hw=>by simp [execOp,go_sem, *];rfl) ?_
 refine x_p rfl rfl rfl ab ab ?_
 iterate 1 refine x_v rfl rfl (fun w hw=>by simp [execOp,go_sem, *];rfl) ?_
 refine aA2 (fun w' hw=>h _ w' hw I ?_);subst hB0 hB1 hB2 hB3 hB4 hB5 hB6;simp [hsz]
def eqI (l m:List Int):Bool:=decide (l.length=m.length) && (List.range l.length).all fun k=>l.getD k 0 == m.getD k 0
def eqS (l m:List ByteArray):Bool:=decide (l.length=m.length) && (List.range l.length).all fun k=>(l.getD k default).toList == (m.getD k default).toList
def eqV (l m:List GV):Bool:=decide (l.length=m.length) && (List.range l.length).all fun k=>cE (l.getD k default) (m.getD k default) == 0
def sN (x y:GN):Bool:=x.kind == y.kind && x.name.toList == y.name.toList && x.lo == y.lo && x.hi == y.hi && eqI x.weights y.weights && eqS x.labels y.labels && eqV x.values y.values && eqI x.kids y.kids && cE x.value y.value == 0
def eqT (s t:List GN):Bool:=decide (s.length=t.length) && (List.range s.length).all fun k=>sN (s.getD k default) (t.getD k default)
theorem aKw (l m:List Int):decide (l=m)=eqI l m:=by
 rw [Bool.eq_iff_iff];unfold eqI;simp only [Bool.and_eq_true,decide_eq_true_eq,List.all_eq_true,List.mem_range,beq_iff_eq]
 constructor
 ·rintro rfl
  exact ⟨rfl,fun _ _=>rfl⟩
 ·rintro ⟨h1,h2⟩
  refine List.ext_getElem h1 (fun k h3 h4=>?_);have:=h2 k h3
  simpa [List.getD,h3,h4] using this
theorem aTh (l m:List GV):dH l m=eqV l m:=by
 rw [Bool.eq_iff_iff];unfold eqV dH;simp only [Bool.and_eq_true,decide_eq_true_eq,List.all_eq_true,List.mem_range,beq_iff_eq]
 constructor
 ·rintro ⟨h1,h2⟩
  refine ⟨h1,fun k hk=>?_⟩;have h3:k<(l.zip m).length:=by rw [List.length_zip];omega
  have:=h2 _ (List.getElem_mem h3)
  simpa [List.getD,hk,show k<m.length by omega] using this
 ·rintro ⟨h1,h2⟩
  refine ⟨h1,fun p hp=>?_⟩;obtain ⟨k,hk,rfl⟩:=List.getElem_of_mem hp;rw [List.length_zip] at hk;have:=h2 k D
  simpa [List.getD,show k<l.length by omega,show k<m.length by omega] using this
theorem aU7 (x y:GN):(decide (x.weights=y.weights) && eqS x.labels y.labels && dH x.values y.values && decide (x.kids=y.kids) && x.kind == y.kind && x.name.toList == y.name.toList && x.lo == y.lo && x.hi == y.hi && cE x.value y.value == 0)=sN x y:=by
 rw [aKw,aKw,aTh];unfold sN
 ac_rfl
theorem aIy (t:List GN):eqT t t=true:=by
 unfold eqT sN eqI eqS eqV;simp [lP]
section
variable {w:World}{P Q:Nat->Prop}{A B:Option Addr}{c d:Nat}
theorem uZ {l m:List Int}(hl:bM w P (.slice A l.length c) l)(hm:bM w Q (.slice B m.length d) m):Calls Tryz.prog 155 #[.slice A l.length c,.slice B m.length d,.func (.func 156) #[] #[]] w (cT (.bool (eqI l m)) w):=by
 obtain ⟨_,_,-,-,hn,-⟩:=hl.form;refine aL1 hn (fun hnm k hk w' hw=>?_);obtain ⟨bx,ox,rfl,-,-,gx⟩:=(hl.ext hw).get hk;obtain ⟨by_,oy,rfl,-,-,gy⟩:=(hm.ext hw).get (i:=k) D;refine aWi (fun w2 h2=>aA h2 gx) (fun w2 h2=>aA h2 gy) Tryz.func156 ac ac (fun w2 h2=>(aWx _ _ w2).mono ?_) hk;rintro e w3 ⟨rfl,h3⟩;exact ⟨rfl,h2.trans' h3⟩
theorem jT.get {n:Nat}{l:List ByteArray}(h:jT w P (.slice A n c) l){i:Nat}(hi:i<l.length):∃ b off,A=some ⟨b,off,none⟩∧w.cell? ⟨b,off+i,none⟩=some (.string (l.getD i default)):=by
 obtain ⟨b,off,c',cs,e,hb,-,-,hr,hc⟩:=Lst.at_ aPy.len h default hi;injection e with e _ _;have:=hc 0 (.string (l.getD i default)) (by rw [hr.2];rfl);exact ⟨b,off,e,gi⟩
theorem aC4 {l m:List ByteArray}(hl:jT w P (.slice A l.length c) l)(hm:jT w Q (.slice B m.length d) m):Calls Tryz.prog 157 #[.slice A l.length c,.slice B m.length d,.func (.func 158) #[] #[]] w (cT (.bool (eqS l m)) w):=by
 obtain ⟨_,_,-,-,hn,-⟩:=hl.form;refine aL0 hn (fun hnm k hk w' hw=>?_);obtain ⟨bx,ox,rfl,gx⟩:=(hl.ext hw).get hk;obtain ⟨by_,oy,rfl,gy⟩:=(hm.ext hw).get (i:=k) D;refine aWf (fun w2 h2=>aA h2 gx) (fun w2 h2=>aA h2 gy) Tryz.func158 ac ac (fun w2 h2=>(aWw _ _ w2).mono ?_) hk;rintro e w3 ⟨rfl,h3⟩;exact ⟨rfl,h2.trans' h3⟩
theorem aC3 {l m:List GV}(hl:bW w P (.slice A l.length c) l)(hm:bW w Q (.slice B m.length d) m):Calls Tryz.prog 159 #[.slice A l.length c,.slice B m.length d,.func (.func 154) #[] #[]] w (cT (.bool (eqV l m)) w):=by
 obtain ⟨_,_,-,-,hn,-⟩:=hl.form;refine aLz hn (fun hnm k hk w' hw=>?_);obtain ⟨bx,ox,Ax,cx,rfl,-,vx,g0,g1,g2,g3⟩:=(hl.ext hw).get hk;obtain ⟨by_,oy,Ay,cy,rfl,-,vy,f0,f1,f2,f3⟩:=(hm.ext hw).get (i:=k) D;refine aWc (fun w2 h2=>⟨aA h2 g0,aA h2 g1,aA h2 g2,aA h2 g3⟩) (fun w2 h2=>⟨aA h2 f0,aA h2 f1,aA h2 f2,aA h2 f3⟩) Tryz.func154 ac ac (fun w2 h2=>(aTd _ _ _ _ _ _ _ _ w2 (vx.ext h2) (vy.ext h2)).mono ?_) hk;rintro e w3 ⟨rfl,h3⟩;exact ⟨rfl,h2.trans' h3⟩
end
noncomputable abbrev aFa:Code:=.seq aSv (.seq aSu (.seq aKn .ret))
theorem aPm:Tryz.f115.body=some aFa:=Y
noncomputable abbrev aK0:Code:=.seq aU8 (.seq aQs (.seq aQr (.seq aQq (.seq aQp (.seq aQo .ret)))))
theorem aTq:Tryz.f65.body=some aK0:=Y
section
variable {w:World}{P P':Nat->Prop}{x y:GN}{ax ay:NA}{a:Act}{R:Exit->Act->World->Prop}
theorem dR {f:FuncId}{vs:Array Value}{v:Value}{w':World}(hw:Ext w w')(h:Calls Tryz.prog f vs w' (cT v w')):Calls Tryz.prog f vs w' fun e w2=>e=.returned v∧Ext w w2:=h.mono (fun e w2 h=>⟨h.1,hw.trans' h.2⟩)
theorem lU {g:Nat}(h:Blk w g 87 #[↑x.kind,.string x.name,↑x.lo,↑x.hi,.slice ax.wA x.weights.length ax.wc,.slice ax.lA x.labels.length ax.lc,.slice ax.vA x.values.length ax.vc,.slice ax.kA x.kids.length ax.kc,↑x.value.kind,↑x.value.n,.string x.value.s,.slice ax.xA x.value.kids.length ax.xc]):∀ w',Ext w w'->w'.cell? ⟨g,0,none⟩=some (↑x.kind)∧w'.cell? ⟨g,1,none⟩=some (.string x.name)∧w'.cell? ⟨g,2,none⟩=some (↑x.lo)∧w'.cell? ⟨g,3,none⟩=some (↑x.hi)∧w'.cell? ⟨g,4,none⟩=some (.slice ax.wA x.weights.length ax.wc)∧w'.cell? ⟨g,5,none⟩=some (.slice ax.lA x.labels.length ax.lc)∧w'.cell? ⟨g,6,none⟩=some (.slice ax.vA x.values.length ax.vc)∧w'.cell? ⟨g,7,none⟩=some (.slice ax.kA x.kids.length ax.kc)∧w'.cell? ⟨g,8,none⟩=some (↑x.value.kind)∧w'.cell? ⟨g,9,none⟩=some (↑x.value.n)∧w'.cell? ⟨g,10,none⟩=some (.string x.value.s)∧w'.cell? ⟨g,11,none⟩=some (.slice ax.xA x.value.kids.length ax.xc) :=
 fun w' hw=>⟨aA hw (h.cell' 0 rfl),aA hw (h.cell' 1 rfl),aA hw (h.cell' 2 rfl),aA hw (h.cell' 3 rfl),aA hw (h.cell' 4 rfl),aA hw (h.cell' 5 rfl),aA hw (h.cell' 6 rfl),aA hw (h.cell' 7 rfl),aA hw (h.cell' 8 rfl),aA hw (h.cell' 9 rfl),aA hw (h.cell' 10 rfl),aA hw (h.cell' 11 rfl)⟩
theorem xS (hx:NAt w P x ax)(hy:NAt w P' y ay)(hsz:a.tmps.size=69)(e0:Ev a (.tmp 0)=fF x ax)(e1:Ev a (.tmp 1)=fF y ay)
  (hR:∀ a' w',a'.defers=a.defers->Ev a' (.tmp 4)=.bool (sN x y)->Ext w w'->R .ret a' w'):Code.wp Tryz.prog aFa R a w:=by
 refine wp_seq ?_;refine rW ?_
 iterate 3 refine lV ?_
 refine aJ (wp_seq ?_);refine rW ?_
 iterate 1 refine lV ?_
 have hE:Ext w ((w.alloc (.cells #[↑x.kind,.string x.name,↑x.lo,↑x.hi,.slice ax.wA x.weights.length ax.wc,.slice ax.lA x.labels.length ax.lc,.slice ax.vA x.values.length ax.vc,.slice ax.kA x.kids.length ax.kc,↑x.value.kind,↑x.value.n,.string x.value.s,.slice ax.xA x.value.kids.length ax.xc] 87)).alloc (.cells #[↑y.kind,.string y.name,↑y.lo,↑y.hi,.slice ay.wA y.weights.length ay.wc,.slice ay.lA y.labels.length ay.lc,.slice ay.vA y.values.length ay.vc,.slice ay.kA y.kids.length ay.kc,↑y.value.kind,↑y.value.n,.string y.value.s,.slice ay.xA y.value.kids.length ay.xc] 87)):=((Ext.refl w).alloc' _).alloc' _;have hB1:=(Blk.new w 87 #[↑x.kind,.string x.name,↑x.lo,↑x.hi,.slice ax.wA x.weights.length ax.wc,.slice ax.lA x.labels.length ax.lc,.slice ax.vA x.values.length ax.vc,.slice ax.kA x.kids.length ax.kc,↑x.value.kind,↑x.value.n,.string x.value.s,.slice ax.xA x.value.kids.length ax.xc]).alloc (.cells #[↑y.kind,.string y.name,↑y.lo,↑y.hi,.slice ay.wA y.weights.length ay.wc,.slice ay.lA y.labels.length ay.lc,.slice ay.vA y.values.length ay.vc,.slice ay.kA y.kids.length ay.kc,↑y.value.kind,↑y.value.n,.string y.value.s,.slice ay.xA y.value.kids.length ay.xc] 87)
 have hB2:=Blk.new (w.alloc (.cells #[↑x.kind,.string x.name,↑x.lo,↑x.hi,.slice ax.wA x.weights.length ax.wc,.slice ax.lA x.labels.length ax.lc,.slice ax.vA x.values.length ax.vc,.slice ax.kA x.kids.length ax.kc,↑x.value.kind,↑x.value.n,.string x.value.s,.slice ax.xA x.value.kids.length ax.xc] 87)) 87 #[↑y.kind,.string y.name,↑y.lo,↑y.hi,.slice ay.wA y.weights.length ay.wc,.slice ay.lA y.labels.length ay.lc,.slice ay.vA y.values.length ay.vc,.slice ay.kA y.kids.length ay.kc,↑y.value.kind,↑y.value.n,.string y.value.s,.slice ay.xA y.value.kids.length ay.xc];rw [World.size_alloc] at hB2
 refine aJ (wp_seq (aH5 (g:=w.heap.size) (f:=w.heap.size+1) (x:=x) (y:=y) (ax:=ax) (ay:=ay) O O O O (lU hB1) (lU hB2) (fun w' h=>dR h (uZ ((hx.ext (hE.trans' h)).weights) ((hy.ext (hE.trans' h)).weights))) (fun w' h=>dR h (aC4 ((hx.ext (hE.trans' h)).labels) ((hy.ext (hE.trans' h)).labels)))
  (fun w' h=>dR h (aC3 ((hx.ext (hE.trans' h)).values) ((hy.ext (hE.trans' h)).values))) (fun w' h=>dR h (uZ ((hx.ext (hE.trans' h)).kids) ((hy.ext (hE.trans' h)).kids))) (fun w' h=>dR h (aTd _ _ _ _ _ _ _ _ w' ((hx.ext (hE.trans' h)).value) ((hy.ext (hE.trans' h)).value))) ?_))
 intro a' w' h1 h2 h3;exact wp_ret (hR _ _ h2.df h3 (hE.trans' h1))
theorem uY (hx:NAt w P x ax)(hy:NAt w P' y ay):Calls Tryz.prog 115 #[fF x ax,fF y ay] w (cT (.bool (sN x y)) w):=by
 refine calls_of_wp Tryz.func115 aPm (xS hx hy (by simp [Tryz.ntmps115]) ai ai ?_);intro a' w' h1 h2 h3;refine bodyPost_ret (v:=.bool (sN x y)) ?_ h1 ⟨rfl,h3⟩;have h5:a'.tmps[4]?.getD undef=.bool (sN x y):=by rw [<- h2];simp [Ev,Act.eval]
 simp [results,Tryz.results115,go_sem,h5]
end
theorem wN (s t:List GN)(P P':Nat->Prop)(vs vt:Value)(w:World)(hs:Nds w P vs s)(ht:Nds w P' vt t):Calls Tryz.prog 64 #[.agg #[vs],.agg #[vt]] w (cT (.bool (eqT s t)) w):=by
 obtain ⟨A,c,rfl,hA1,hA2,-⟩:=hs.form;obtain ⟨B,d,rfl,-,-⟩:=ht.form;have HS:=aZv hs;have HT:=aZv ht;clear hs ht;go_enter Tryz.func64,Tryz.ntmps64;go_wp2_with fail;generalize hW:(w.alloc (.cells #[.slice A s.length c] 25)).alloc (.cells #[.slice B t.length d] 25)=W at *;have HE:=aZv (show Ext w W from hW ▸ ((Ext.refl w).alloc' _).alloc' _);clear hW;refine (aL2 (f:=fun k=>sN (s.getD k default) (t.getD k default)) hA2 (fun hnm k hk w' hw=>?_)).mono ?_
 ·obtain ⟨bx,ox,ax,rfl,-,nx,gx⟩:=(HS.out.ext (HE.out.trans' hw)).get hk
  obtain ⟨by_,oy,ay,rfl,-,ny,gy⟩:=(HT.out.ext (HE.out.trans' hw)).get (i:=k) D;refine aWl (fun w2 h2=>⟨aA h2 gx.c0,aA h2 gx.c1,aA h2 gx.c2,aA h2 gx.c3,aA h2 gx.c4,aA h2 gx.c5,aA h2 gx.c6,aA h2 gx.c7,aA h2 gx.c8,aA h2 gx.c9,aA h2 gx.c10,aA h2 gx.c11⟩) (fun w2 h2=>⟨aA h2 gy.c0,aA h2 gy.c1,aA h2 gy.c2,aA h2 gy.c3,aA h2 gy.c4,aA h2 gy.c5,aA h2 gy.c6,aA h2 gy.c7,aA h2 gy.c8,aA h2 gy.c9,aA h2 gy.c10,aA h2 gy.c11⟩) Tryz.func115 ac ac (fun w2 h2=>dR h2 (uY (nx.ext h2) (ny.ext h2))) hk
 ·rintro e w1 ⟨rfl,hx1⟩
  have HX1:=aZv (HE.out.trans' hx1);clear hx1;go_wp2_with fail;go_ret;exact ⟨rfl,HX1.out⟩
end Go.Proofs.YtkoeecdjijfjnaaGreat
