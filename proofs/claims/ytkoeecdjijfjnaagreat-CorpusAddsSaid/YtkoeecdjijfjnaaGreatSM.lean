/- CorpusAdds: for every input the law returns true, and each argument reads behind the call as it read before. Conditions: none besides the statement's own. -/
import Derived.Test.YtkoeecdjijfjnaaGreatRows
import Derived.WalkKit
import Derived.ProofKit
import Derived.OpenShut
import Derived.SizedLaws
import Derived.Test.YtkoeecdjijfjnaaGreatSK
set_option maxRecDepth 100000
set_option maxHeartbeats 8000000
namespace Go.Proofs.YtkoeecdjijfjnaaGreat
open Go.RowKit
noncomputable abbrev bd3:Code:=.seq (.seq aU2 (.cond (.tmp 54) .skip (.exit 0))) (.seq (.block 1 (.seq aM1 (.seq aM0 (.seq aMz (.cond (.tmp 140) (.seq aQj .ret) .skip))))) aM2)
noncomputable abbrev tl3:Code:=.seq aQi (.seq aQh (.seq aQg (.seq (.seq aQf (.cond (.tmp 163) aTs .skip)) (.seq aMy .ret))))
noncomputable abbrev aRx:Code:=.seq aVl (.seq aU7 (.seq aU6 (.seq aU5 (.seq aU4 (.seq (.seq aU3 (.cond (.tmp 47) (.seq aVk .ret) .skip)) (.seq aSz (.seq (.seq aVj (.block 0 (.loop bd3))) tl3)))))))
theorem aT9:Tryz.f3.body=some aRx:=by kernel_rfl
theorem aD.cell {S:Nat->Prop}{w w':World}(h:aD S w w'){b o:Nat}{u:Value}(hb:S b)(hc:w.cell? ⟨b,o,none⟩=some u):w'.cell? ⟨b,o,none⟩=some u:=(World.cell?_of_block (w:=w) (w':=w') (h b (aP hc) hb)).trans hc
theorem GS.keep {S:Nat->Prop}{w w':World}(h:aD S w w'){b o:Nat}{x:GG}{A:Option Addr}{d:Nat}(hb:S b)(hc:GS b o x A d w):GS b o x A d w':=⟨h.cell hb hc.1,h.cell hb hc.2.1,h.cell hb hc.2.2.1,h.cell hb hc.2.2.2.1,h.cell hb hc.2.2.2.2⟩
theorem GS.ext {w w':World}(h:Ext w w'){b o:Nat}{x:GG}{A:Option Addr}{d:Nat}(hc:GS b o x A d w):GS b o x A d w':=hc.keep (aD.of_ext (P:=fun _=>True) h) trivial
theorem aAa (b:Int):∀ (n:Nat)(L:List GE),(aNt b n L).length<=L.length
 | 0,L=>Nat.le_refl _
 | n+1,L=>by
  unfold aNt
  split
  ·refine Nat.le_trans (aAa b n _) ?_
   rw [List.length_eraseIdx]
   split <;> omega
  ·exact Nat.le_refl _
theorem aIj (ok:List Int->Bool)(b:Int)(L:List GE)(x:GE):(nY ok b L x).length<=L.length+1:=by
 have h1:(dX L x).length<=L.length+1:=by rw [tZ];exact wN L x
 unfold nY
 split
 ·split
  ·exact h1
  ·exact Nat.le_trans (aAa b _ _) h1
 ·omega
section
variable {t:List GN}{n1 vn:Value}{b:Int}{L:List GE}{g:CA}{m:Nat}{S:Nat->Prop}{B:Nat}{w w1 ws:World}{a a0:Act}{gs:List GG}{Av:Option Addr}{cg:Nat}{R:Exit->Act->World->Prop}
theorem sO.cmp {path:List Int}(h:sO t n1 vn b L L g m S B w):(Calls Tryz.prog 15 #[.pointer (some ⟨g.c,0,none⟩)] w (dC (.int .i64 (dE L)) w))∧(Calls Tryz.prog 16 #[.pointer (some ⟨m,0,none⟩)] w (dC (.int .i64 (dE L)) w))∧(Calls Tryz.prog 18 #[.pointer (some ⟨g.c,0,none⟩)] w (nO L w)) ∧
  ∀ P v,bT w P v path->Calls Tryz.prog 19 #[.pointer (some ⟨g.c,0,none⟩),v] w (dC (.bool (gX path L)) w)∧Calls Tryz.prog 20 #[.pointer (some ⟨m,0,none⟩),v] w (dC (.int .i64 (rE path L)) w):=by
 obtain ⟨P1,v1,vm,h1,h2,h3,h4,h5⟩:=h;exact ⟨qL t n1 b L g P1 v1 w h1.cor,rW h2,yK t n1 b L g P1 v1 w h1.cor,fun P v hp=>⟨yI t n1 b L g P1 P v1 v path w h1.cor hp,uH h2 hp⟩⟩
theorem lK.trans {w w1 w2:World}(h:lK S B w w1)(h':lK S B w1 w2):lK S B w w2:=⟨h.fr.trans h'.fr,fun k hk hp=>(h'.keep k (Nat.lt_of_lt_of_le hk h.fr.size) hp).trans (h.keep k hk hp)⟩
theorem lK.of_ext {w w1:World}(h:Ext w w1):lK S B w w1:=⟨Fr.of_ext h,aD.of_ext h⟩
def I3 (t:List GN)(n1 vn:Value)(b:Int)(g:CA)(m:Nat)(S:Nat->Prop)(B:Nat)(gs:List GG)(a0:Act)(ws:World)(k:Nat)(a:Act)(w:World):Prop :=
 Ag [2,3,4,5,13,14,15,17,18] a0 a∧k<=gs.length∧Ev a (.tmp 19)=.int .i64 (k:Int)∧lK S B ws w∧∃ L,sO t n1 vn b L L g m S B w∧L.length<=k
theorem aB3 {k:Nat}(hd:∀ p:List Int,p.length<=1000->RdT t p)(hvl:∀ x ∈ t,x.values.length<=1000000)(hsz:a0.tmps.size=177)(e15:Ev a0 (.tmp 15)=.pointer (some ⟨g.c,0,none⟩))(e17:Ev a0 (.tmp 17)=.pointer (some ⟨m,0,none⟩))(e18:Ev a0 (.tmp 18)=.slice Av gs.length cg)(hlen:gs.length<=20)(hgv:Gvs ws S (.slice Av gs.length cg) gs)
  (hI:I3 t n1 vn b g m S B gs a0 ws k a w)(hk:k<gs.length)(hR:∀ a' w',I3 t n1 vn b g m S B gs a0 ws (k+1) a' w'->R .normal a' w'):Code.wp Tryz.prog (.seq (.block 1 (.seq aM1 (.seq aM0 (.seq aMz (.cond (.tmp 140) (.seq aQj .ret) .skip))))) aM2) R a w:=by
 obtain ⟨hG,-,e19,hW,L,hT,hL⟩:=hI;have z1:=hG.sz.trans hsz;have f15:=hG.get 15 e15;have f17:=hG.get 17 e17;have f18:=hG.get 18 e18;have hgw:Gvs w S (.slice Av gs.length cg) gs:=hgv.carry hW.keep (fun _ _ h=>h);obtain ⟨bg,og,A1,d1,rfl,hSb,ga,gc⟩:=hgw.get hk;have hgs:=GS.of gc;generalize gs.getD k default=x at *;have hsh:=ga.short;have hl1:=aIj (aU t) b L (mkE x.path x.kind x.at_ x.code x.fresh);refine wp_seq (wp_block (wp_seq (aLt (R:=fun w'=>sO t n1 vn b (nY (aU t) b L (mkE x.path x.kind x.at_ x.code x.fresh)) L g m S B w'∧lK S B w w'∧GS bg (og+k*5) x A1 d1 w') (r1:=sN (aU t) b L (mkE x.path x.kind x.at_ x.code x.fresh)) (r2:=xG (aU t) (mkE x.path x.kind x.at_ x.code x.fresh)) z1 f15 f18 e19 (by omega) (fun w' h=>hgs.ext h) (fun w1 _=>aBb x.kind x.at_ x.code w1 ga.kind ga.at_ ga.code) (fun w1 hx=>((hT.ext hx).addC (ga.path.ext hx) x.kind x.at_ x.code x.fresh ga.kind ga.at_ ga.code (by omega) (by omega)).mono ?_) ?_)))
 ·rintro e w' ⟨rfl,q1,q2⟩
  have q3:=(hgs.ext hx).keep q2.keep hSb;exact ⟨rfl,⟨q1,(lK.of_ext hx).trans q2,q3⟩,q3⟩
 intro a2 w2 g2 e20 e21 ⟨hT2,hW2,hgs2⟩;have z2:=g2.sz.trans z1;have hp2:=ga.path.carry hW2.keep (fun _ _ h=>h);refine wp_seq (aLs (R:=fun w'=>sO t n1 vn b (nY (aU t) b L (mkE x.path x.kind x.at_ x.code x.fresh)) (nY (aU t) b L (mkE x.path x.kind x.at_ x.code x.fresh)) g m S B w'∧lK S B w2 w'∧GS bg (og+k*5) x A1 d1 w') (r1:=sN (aU t) b L (mkE x.path x.kind x.at_ x.code x.fresh)) (r2:=xG (aU t) (mkE x.path x.kind x.at_ x.code x.fresh)) z2 (g2.get 17 f17) (g2.get 18 f18) (g2.get 19 e19) (by omega) (fun w' h=>hgs2.ext h) (fun w1 hx=>((hT2.ext hx).addM hd hvl (hp2.ext hx) x.kind x.at_ x.code x.fresh ga.kind ga.at_ ga.code (by omega) (by omega)).mono ?_) ?_)
 ·rintro e w' ⟨rfl,q1,q2⟩
  have q3:=(hgs2.ext hx).keep q2.keep hSb;exact ⟨rfl,⟨q1,(lK.of_ext hx).trans q2,q3⟩,q3⟩
 intro a3 w3 g3 e22 e23 ⟨hT3,hW3,hgs3⟩;have z3:=g3.sz.trans z2;have hp3:=hp2.carry hW3.keep (fun _ _ h=>h);have hT3':=hT3;obtain ⟨P1,v1,vm,m1,m2,m3,m4,m5⟩:=hT3'
 refine wp_seq (aLr (L:=nY (aU t) b L (mkE x.path x.kind x.at_ x.code x.fresh)) (p:=x.path) z3 (g3.get 15 (g2.get 15 f15)) (g3.get 17 (g2.get 17 f17)) (g3.get 18 (g2.get 18 f18)) (g3.get 19 (g2.get 19 e19)) (g3.get 20 e20) (g3.get 21 e21) e22 e23 (by omega) (fun w' h=>⟨aB h hgs3.1,aB h m2.cell2⟩)
  (fun w1 h=>(sO.cmp (path:=x.path) (hT3.ext h)).1) (fun w1 h=>(sO.cmp (path:=x.path) (hT3.ext h)).2.1) (fun w1 h=>(sO.cmp (path:=x.path) (hT3.ext h)).2.2.1) (fun w1 P v h hE=>aF7 (by omega) hE (m2.ext h).ens) (fun w1 h=>((sO.cmp (hT3.ext h)).2.2.2 _ _ (hp3.ext h)).1) (fun w1 h=>((sO.cmp (hT3.ext h)).2.2.2 _ _ (hp3.ext h)).2) qB ?_)
 intro a4 w4 hx4 g4 e140;have z4:=g4.sz.trans z3;refine wp_cond_false e140 (wp_skip ?_);refine aLu z4 (g4.get 19 (g3.get 19 (g2.get 19 e19))) (rK (by omega)) ?_;intro a5 g5 e19';exact hR _ _ ⟨((hG.trans (g2.mono rfl)).trans (g3.mono rfl)).trans ((g4.mono rfl).trans g5),hk,e19',(hW.trans hW2).trans (hW3.trans (lK.of_ext hx4)),_,hT3.ext hx4,by omega⟩
theorem aFb (hd:∀ p:List Int,p.length<=1000->RdT t p)(hvl:∀ x ∈ t,x.values.length<=1000000)(hsz:a0.tmps.size=177)(e15:Ev a0 (.tmp 15)=.pointer (some ⟨g.c,0,none⟩))(e17:Ev a0 (.tmp 17)=.pointer (some ⟨m,0,none⟩))(e18:Ev a0 (.tmp 18)=.slice Av gs.length cg)(hlen:gs.length<=20)(hgv:Gvs ws S (.slice Av gs.length cg) gs)
  (hI:I3 t n1 vn b g m S B gs a0 ws 0 a w)(hR:∀ a' w',I3 t n1 vn b g m S B gs a0 ws gs.length a' w'->R .normal a' w'):Code.wp Tryz.prog (.block 0 (.loop bd3)) R a w:=by
 refine wp_block (wp_loop (fun a' w'=>∃ k,I3 t n1 vn b g m S B gs a0 ws k a' w') (fun a' _=>gs.length - (intOf (Ev a' (.tmp 19))).toNat) ⟨0,hI⟩ ?_);clear hI;rintro a w ⟨k,hI⟩;have hG:=hI.1;have e19:=hI.2.2.1;refine wp_seq (wp_seq (aO3 (hG.sz.trans hsz) (hG.get 18 e18) e19 ?_));intro a1 g1 e54;have hI':I3 t n1 vn b g m S B gs a0 ws k a1 w:=⟨hG.trans (g1.mono rfl),hI.2.1,g1.get 19 e19,hI.2.2.2⟩
 by_cases hlt:k<gs.length
 ·refine wp_cond_true (e54.trans (by simp [hlt])) (wp_skip ?_)
  refine aB3 hd hvl hsz e15 e17 e18 hlen hgv hI' hlt ?_;intro a' w' h;refine ⟨⟨k+1,h⟩,?_⟩;rw [h.2.2.1,e19];simp [intOf];omega
 ·obtain rfl:k=gs.length:=by have:=hI.2.1;omega
  exact wp_cond_false (e54.trans (by simp)) (wp_exit (hR _ _ hI'))
end
section
variable {t:List GN}{P:Nat->Prop}{w:World}{a:Act}{A:Option Addr}{c gt:Nat}{bu at_ how z:Int}{R:Exit->Act->World->Prop}
theorem aHk {s:List GN}{vs:Value}{W:World}(hs:Nds W (fun b=>b<W.heap.size) vs s)(hsm:∀ x ∈ s,dL x):∃ z:Int,(z=if bW s=0∧(bu<0∨1099511627776<bu) then 1 else bW s)∧Calls Tryz.prog 10 #[.agg #[vs],.int .i64 bu] W fun e w'=>∃ u,e=.returned (.tuple #[u,.int .i64 z])∧((z=0∧∃ g,u=.pointer (some ⟨g,0,none⟩))∨(z ≠ 0∧u=.pointer none))∧Ext W w':=by
 by_cases hv:bW s=0
 ·by_cases hb:bu<0∨1099511627776<bu
  ·refine ⟨1,by rw [if_pos ⟨hv,hb⟩],(aBk s _ vs bu W (fun _ h=>h) hs (aCu hsm) hv hb).mono ?_⟩
   rintro e w' ⟨rfl,hx⟩;exact ⟨_,rfl,.inr ⟨by omega,rfl⟩,hx⟩
  ·refine ⟨0,by rw [if_neg (fun h=>hb h.2),hv],(lZ s _ vs bu W (fun _ h=>h) hs hsm hv (by omega)).mono ?_⟩
   rintro e w' ⟨g,P',vn',rfl,-,hx⟩;exact ⟨_,rfl,.inl ⟨rfl,_,rfl⟩,hx⟩
 ·refine ⟨bW s,by rw [if_neg (fun h=>hv h.1)],(aBj s _ vs bu W (fun _ h=>h) hs (aCu hsm) hv).mono ?_⟩
  rintro e w' ⟨rfl,hx⟩;exact ⟨_,rfl,.inr ⟨hv,rfl⟩,hx⟩
theorem aN5 (hP:∀ k,P k->k<w.heap.size)(ht:Nds w P (.slice A t.length c) t)(hlen:t.length<=1000)(hsm:∀ x ∈ t,fH x)(_:I64 bu)(h1:I64 at_)(h2:I64 how)(hz:I64 z)
  (hsz:a.tmps.size=177)(e2:Ev a (.tmp 2)=.int .i64 bu)(e3:Ev a (.tmp 3)=.int .i64 at_)(e4:Ev a (.tmp 4)=.int .i64 how)(e5:Ev a (.tmp 5)=.int .i64 z)(e13:Ev a (.tmp 13)=.pointer (some ⟨gt,0,none⟩))(c13:w.cell? ⟨gt,0,none⟩=some (.slice A t.length c))
  (hR:∀ a' w',a'.defers=a.defers->Ev a' (.tmp 12)=.bool true->Ext w w'->R .ret a' w'):Code.wp Tryz.prog tl3 R a w:=by
 refine wp_seq (aLq hsz e3 e4 e5 e13 c13 (aA2 hP ht hlen hsm h1 h2 hz) ?_);intro a1 As cs s w1 W g1 hs hss hx1 hxW hB e24;have z1:=g1.sz.trans hsz;have hsW:Nds W (fun b=>b<W.heap.size) (.slice As s.length cs) s:=hs.carry (aD.of_ext hxW) (fun b hb _=>Nat.lt_of_lt_of_le hb hxW.size);obtain ⟨zz,hzz,hnew⟩:=aHk (bu:=bu) hsW hss;refine wp_seq (aLp z1 (g1.get 2 e2) e24 (hB.cell' 0 rfl) hnew ?_);intro a2 u w2 g2 e25 e26 hu hx2;have z2:=g2.sz.trans z1;refine wp_seq (aLo z2 (g2.get 24 e24) ((hB.ext hx2).cell' 0 rfl) (iA s _ _ w2 (hsW.ext hx2) (fun x hx=>(hss x hx).2.2.1)) ?_);intro a3 w3 g3 e27 hx3;have z3:=g3.sz.trans z2;refine wp_seq (wp_seq (aLn z3 (g3.get 2 (g2.get 2 (g1.get 2 e2))) e27 ?_));intro a4 g4 e163;have z4:=g4.sz.trans z3;have hE:Ext w w3:=(hx1.trans' hxW).trans' (hx2.trans' hx3)
 have fin:∀ a5:Act,a5.tmps.size=177->a5.defers=a.defers->Ev a5 (.tmp 25)=u->Ev a5 (.tmp 26)=.int .i64 zz->Ev a5 (.tmp 27)=.int .i64 zz->Code.wp Tryz.prog (.seq aMy .ret) R a5 w3:=by
  intro a5 y1 y2 y3 y4 y5;refine wp_seq (aLm y1 y3 y4 y5 hu (aD4 w3) ?_);intro a6 w6 g6 e12 hx6;exact wp_ret (hR _ _ (g6.df.trans y2) e12 (hE.trans' hx6))
 have d4:a4.defers=a.defers:=g4.df.trans (g3.df.trans (g2.df.trans g1.df))
 by_cases hc:bW s=0∧(bu<0∨1099511627776<bu)
 ·rw [if_pos hc] at hzz
  refine wp_cond_true (e163.trans (by rw [aV7 hc])) ?_
  conv=>arg 2;whnf
  refine aA ?_
  iterate 1 refine l_v rfl rfl (by simp [execOp,go_sem, *];exact ⟨rfl,rfl⟩) ?_
  refine aQ (fin _ (by simp [z4]) d4 (by simp [g4.get 25 (g3.get 25 e25)]) (by simp [g4.get 26 (g3.get 26 e26)]) (by simp [z4,hzz]))
 ·rw [if_neg hc] at hzz
  refine wp_cond_false (e163.trans (by rw [aV8 hc])) (wp_skip ?_);exact fin _ z4 d4 (g4.get 25 (g3.get 25 e25)) (g4.get 26 (g3.get 26 e26)) (by rw [hzz];exact g4.get 27 e27)
end
section
variable {w:World}{a:Act}{l k:List Int}{Ql Qk:Nat->Prop}{vl vk:Value}{bu at_ how z:Int}{R:Exit->Act->World->Prop}
theorem aN4 (hl:bT w Ql vl l)(hk:bT w Qk vk k)(hQk:∀ b,Qk b->b<w.heap.size)(hbu:I64 bu)(h1:I64 at_)(h2:I64 how)(hz:I64 z)
  (hsz:a.tmps.size=177)(e0:Ev a (.tmp 0)=vl)(e1:Ev a (.tmp 1)=vk)(e2:Ev a (.tmp 2)=.int .i64 bu)(e3:Ev a (.tmp 3)=.int .i64 at_)(e4:Ev a (.tmp 4)=.int .i64 how)(e5:Ev a (.tmp 5)=.int .i64 z)
  (hR:∀ a' w',a'.defers=a.defers->Ev a' (.tmp 12)=.bool true->Ext w w'->R .ret a' w'):Code.wp Tryz.prog aRx R a w:=by
 refine wp_seq ?_
 conv=>arg 2;whnf
 refine aA ?_
 iterate 1 refine l_v rfl rfl (by simp [execOp,go_sem];exact ⟨rfl,rfl⟩) ?_
 refine aQ ?_;have g0:Ag [0,1,2,3,4,5] a (Pt a 12 (.bool false)):=(by (repeat refine .put ?_ rfl);exact .rf);generalize Pt a 12 (.bool false)=a0 at *;have z0:=g0.sz.trans hsz;refine wp_seq (aO9 z0 (g0.get 0 e0) (aF3 l Ql vl w hl) ?_);intro a1 A c t w1 W g1 hnd hgen hlen hx1 hxW hB e13;have z1:=g1.sz.trans z0;have hb:=gI (n:=bu) (m:=60) (by omega);refine wp_seq (aO8 z1 (g1.get 2 (g0.get 2 e2)) ((fO bu 60 W hbu (by omega) (by omega)).mono (fun _ _ q=>⟨q.1,q.2.symm⟩)) ?_);intro a2 g2 e14;generalize gD bu 60=b at *;have z2:=g2.sz.trans z1;have hs1:=hx1.size;have hsW:=hxW.size;have lgt:=hB.lt;have hndW:=hnd.ext hxW;refine wp_seq (aO7 (z:=0) (R:=fun u w'=>∃ g P' vn',u=.pointer (some ⟨g.c,0,none⟩)∧rJ t vn' b [] g P' (.slice none 0 0) W.heap.size w'∧Ext W w') z2 (g2.get 13 e13) e14 (hB.cell' 0 rfl) ((lZ t _ _ b W (fun k hk=>by omega) hndW hgen.small hgen.good (by omega)).mono ?_) ?_)
 ·rintro e w' ⟨g,P',vn',rfl,q1,q2⟩
  exact ⟨_,rfl,g,P',vn',rfl,q1,q2⟩
 intro a3 u w3 g3 e15 e16 ⟨g,P1,n1,hu,hM,hx3⟩;subst hu;have z3:=g3.sz.trans z2;have hB3:=hB.ext hx3;have hs3:=hx3.size;refine wp_seq (aO6 z3 (g3.get 13 (g2.get 13 e13)) (g3.get 14 e14) (hB3.cell' 0 rfl) ?_);intro a4 g4 e17;have z4:=g4.sz.trans z3;have hm:=Blk.new w3 35 #[.slice A t.length c,.int .i64 b,.slice none 0 0];have hx4:Ext w3 (w3.alloc (.cells #[.slice A t.length c,.int .i64 b,.slice none 0 0] 35)):=(Ext.refl w3).alloc' _;generalize w3.alloc (.cells #[.slice A t.length c,.int .i64 b,.slice none 0 0] 35)=w4 at *;have lm:=hm.lt;refine wp_seq (wp_seq (aO5 z4 (g4.get 15 e15) (g4.get 16 e16) ?_));intro a5 g5 e47;have z5:=g5.sz.trans z4;refine wp_cond_false e47 (wp_skip ?_);have hx14:Ext w1 w4:=hxW.trans' (hx3.trans' hx4);have hx04:Ext w w4:=hx1.trans' hx14;have hs4:=hx4.size;refine wp_seq (aO4 z5 (g5.get 1 (g4.get 1 (g3.get 1 (g2.get 1 (g1.get 1 (g0.get 1 e1)))))) (g5.get 13 (g4.get 13 (g3.get 13 (g2.get 13 e13)))) ((hB3.ext hx4).cell' 0 rfl) (aCs t k 20 _ Qk _ vk w4 hgen (by omega) (by omega) (fun b hb=>by omega) (fun b hb=>Nat.lt_of_lt_of_le (hQk b hb) hx04.size) (hnd.ext hx14) (hk.ext hx04)) ?_);intro a6 Av cg gs w6 g6 hgv hgl hx6 e18;have z6:=g6.sz.trans z5;have hs6:=hx6.size
 have hT:sO t n1 (.slice A t.length c) b [] [] g w3.heap.size (fun b=>b<w6.heap.size∧((w.heap.size<=b∧b<w1.heap.size)∨w4.heap.size<=b)) W.heap.size w6:=by
  refine ⟨P1,.slice none 0 0,.slice none 0 0,hM.ext (hx4.trans' hx6),⟨hm.ext hx6,(hnd.ext (hx14.trans' hx6)).carry (fun _ _ _=>rfl) (fun b hb h=>⟨hb,.inl h⟩),⟨[],aX _ _ _ _,by simp [RL]⟩,fun q hq=>⟨by omega,by simp [Value.ownBlock]⟩,by simp [Value.ownBlock],hM.cor.inc,by omega,by simp,by simp,fun q hq=>hq.1⟩,?_,?_,?_⟩
  ·rintro q (hq | hq)
   ·omega
   ·simp [Value.ownBlock] at hq
  ·rintro q (hq | hq | hq) hg
   ·have:=hM.lo q (.inr hg);omega
   ·have:=hM.lo q (.inr hg);omega
   ·simp [Value.ownBlock] at hq
  ·rintro q hq (hg | hg)
   ·have:=hM.lo q hq;omega
   ·simp [Value.ownBlock] at hg
 have hRd:∀ p:List Int,p.length<=1000->RdT t p:=fun p hp=>⟨eX.1 hgen.good,by omega,hgen.few,by omega⟩
 refine wp_seq (wp_seq ?_)
 conv=>arg 2;whnf
 refine aA ?_
 iterate 1 refine l_v rfl rfl (by simp [execOp,go_sem];exact ⟨rfl,rfl⟩) ?_
 refine aQ ?_;refine aFb (a0:=a6) (ws:=w6) hRd (fun x hx=>(hgen.small x hx).2.2.1) z6 (g6.get 15 (g5.get 15 (g4.get 15 e15))) (g6.get 17 (g5.get 17 e17)) e18 hgl hgv ⟨(by (repeat refine .put ?_ rfl);exact .rf),Nat.zero_le _,by simp [z6],lK.of_ext (Ext.refl w6),[],hT,Nat.le_refl _⟩ ?_;rintro a7 w7 ⟨g7,-,-,hW7,L,hT7,-⟩;have z7:=g7.sz.trans z6;have hs7:=hW7.fr.size
 refine aN5 (P:=fun b=>w.heap.size<=b∧b<w1.heap.size) (fun q hq=>by omega) ((hnd.ext (hx14.trans' hx6)).keep (fun q hq hp=>hW7.keep q hq ⟨hq,.inl hp⟩) (fun _ h=>h)) (by omega) hgen.m hbu h1 h2 hz z7
  (g7.get 2 (g6.get 2 (g5.get 2 (g4.get 2 (g3.get 2 (g2.get 2 (g1.get 2 (g0.get 2 e2)))))))) (g7.get 3 (g6.get 3 (g5.get 3 (g4.get 3 (g3.get 3 (g2.get 3 (g1.get 3 (g0.get 3 e3)))))))) (g7.get 4 (g6.get 4 (g5.get 4 (g4.get 4 (g3.get 4 (g2.get 4 (g1.get 4 (g0.get 4 e4)))))))) (g7.get 5 (g6.get 5 (g5.get 5 (g4.get 5 (g3.get 5 (g2.get 5 (g1.get 5 (g0.get 5 e5))))))))
  (g7.get 13 (g6.get 13 (g5.get 13 (g4.get 13 (g3.get 13 (g2.get 13 e13)))))) ((((hB3.ext hx4).ext hx6).fr hW7.fr (by omega)).cell' 0 rfl) ?_
 intro a8 w8 q1 q2 q3;refine hR a8 w8 (q1.trans (g7.df.trans (g6.df.trans (g5.df.trans (g4.df.trans (g3.df.trans (g2.df.trans (g1.df.trans g0.df)))))))) q2 ?_;exact (((Fr.of_ext (hx04.trans' hx6)).trans (hW7.fr.mono (N:=fun b=>w.heap.size<=b) (fun b hb=>by omega))).trans (Fr.of_ext q3)).new_ext (fun _ h=>h)
theorem rF (hl:bT w Ql vl l)(hk:bT w Qk vk k)(hQk:∀ b,Qk b->b<w.heap.size)(hbu:I64 bu)(h1:I64 at_)(h2:I64 how)(hz:I64 z) :
  Calls Tryz.prog 3 #[vl,vk,.int .i64 bu,.int .i64 at_,.int .i64 how,.int .i64 z] w (dC (.bool true) w):=by
 refine calls_of_wp Tryz.func3 aT9 (aN4 hl hk hQk hbu h1 h2 hz ?_ ?_ ?_ ?_ ?_ ?_ ?_ ?_)
 ·simp [Tryz.ntmps3]
 ·simp [Ev,Act.eval]
 ·simp [Ev,Act.eval]
 ·simp [Ev,Act.eval]
 ·simp [Ev,Act.eval]
 ·simp [Ev,Act.eval]
 ·simp [Ev,Act.eval]
 ·intro a' w' q1 q2 q3
  refine bodyPost_ret (v:=.bool true) ?_ q1 ⟨rfl,q3⟩;have h5:a'.tmps[12]?.getD undef=.bool true:=by rw [<- q2];simp [Ev,Act.eval]
  simp [results,Tryz.results3,go_sem,h5]
end
end Go.Proofs.YtkoeecdjijfjnaaGreat
namespace Go.Proofs.YtkoeecdjijfjnaaGreat
open Go.ChangeShapes Go.WideShapes Go.ChangeAt Go.RowKit
theorem Tryz.own:ownKnob Tryz.prog.godebug=none:=by kernel_rfl
theorem Tryz.laidOut:laidOutB Tryz.prog=true:=by kernel_rfl
theorem Tryz.cells3:Tryz.prog.cellsOf 3=1:=by kernel_rfl
theorem Tryz.bytes3:Tryz.prog.bytesOf 3=8:=by kernel_rfl
theorem kH {n:Int}(h:(Lit.int .i64 n).wf=true):I64 n:=by
 have h1:IntKind.i64.min=-9223372036854775808:=rfl;have h2:IntKind.i64.max=9223372036854775807:=rfl;simp only [Lit.wf,Bool.and_eq_true,decide_eq_true_eq] at h;unfold I64;omega
theorem aAh {H:Type}{enc:TypeId × Value->H}{W:World}{base:Nat}{v:Value}{d:DataW H}{p:List MemPlace}(hok:Value.okWide Tryz.prog W .any base 22 v)(h:DataW.Trod enc Tryz.prog W 0 (fun _=>true) true 22 v d p)(hlt:∀ x ∈ p,x.block<W.heap.size)
  (hw:∀ elems spare,d=.slice elems spare->(elems.length+spare.length)*8<=reachBytes):∃ l,bT W (fun b=>b<W.heap.size) v l:=by
 obtain ⟨a0,len,cap,rfl⟩:=okWide_slice Tryz.underlying22 hok;obtain ⟨fuel,hf⟩:=h;rcases open_ints Tryz.underlying22 Tryz.underlying3 Tryz.cells3 hf with ⟨hcs,hx⟩ | ⟨a,len',cap',zs,hcs,_,hl,hm,hz,hx,hcell,hwz⟩
 ·simp [Value.cells] at hcs
  obtain ⟨rfl,rfl,rfl⟩:=hcs;exact ⟨[],bT.nil⟩
 ·simp [Value.cells] at hcs
  obtain ⟨rfl,rfl,rfl⟩:=hcs;simp only [Prod.mk.injEq] at hx;obtain ⟨rfl,rfl⟩:=hx;simp only [if_true] at hz
  have hreach:cap*8<=140737488351232:=by
   have:=hw _ _ rfl;simp only [lits,List.length_map,List.length_take,List.length_drop,reachBytes] at this;omega
  have hlen:(zs.take len).length=len:=by rw [List.length_take];omega
  refine ⟨zs.take len,some a,cap,by rw [hlen],by rw [hlen];exact hl,⟨by rw [hlen];omega,by omega⟩,fun x hx=>kH (hwz x (List.mem_of_mem_take hx)),by simp,?_⟩;intro hpos;rw [hlen] at hpos;obtain ⟨b,off,spot⟩:=a;have hspot:spot=none:=by simpa [Addr.add] using World.cell?_spot (hcell 0 (by omega))
  subst hspot;refine ⟨b,off,rfl,hlt (.cell b off) (MemPlace.mem_row.2 ⟨0,by omega,by simp⟩),?_⟩;intro j u hu
  have hj:j<len:=by
   have:=(List.getElem?_eq_some_iff.1 hu).1;rw [List.length_map,hlen] at this;exact this
  have hc:=hcell j (by omega);rw [add_plain] at hc;rw [hc];rw [List.getElem?_map,List.getElem?_take_of_lt hj] at hu;have hjz:j<zs.length:=by omega
  simp only [List.getElem?_eq_getElem hjz,Option.map_some,Option.some.injEq] at hu;rw [<- hu];simp [List.getD,hjz]
theorem nC (os:Os)(started:os.Started)(H:Type)(enc:TypeId × Value->H) :
  ReturnsInHanded {} Tryz.checked os 3 .any (Rows.corpusAddsSpec.pre6 enc Tryz.prog Tryz.f3 Rows.corpusAddsRow.domain false) (Rows.corpusAddsSpec.post enc Tryz.prog Tryz.f3 false true false false):=by
 refine returnsInHanded_of_change_sized (C:=Tryz.checked) Tryz.own started (by kernel_rfl) Tryz.func3
  (ChangeSpec.witness6 (enc:=enc) (C:=Tryz.checked) false ⟨#[],#[.slice none 0 0,.slice none 0 0,.int .i64 0,.int .i64 0,.int .i64 0,.int .i64 0],[]⟩ 8 (by kernel_rfl) (by kernel_rfl) (by kernel_rfl) (by kernel_rfl)) ?_
 intro W base args ds gs before hval0 hW _ hsz0 _;have hsz:(DataW.weightsEach Tryz.prog (Tryz.f3.params.toList ++ Rows.corpusAddsSpec.plain.varTypes Tryz.prog) (ds ++ gs)).all (·<=reachBytes)=true:=hsz0;clear hsz0;have hval:∀ (j:Nat) t v,Tryz.f3.params[j]?=some t->args[j]?=some v->Value.okWide Tryz.prog W .any base t v:=hval0;have hW':=hW;obtain ⟨p,q,hA0,hV,rfl,_,_⟩:=hW;have hA:DataW.TrodAll enc Tryz.prog W 0 (fun _=>true) true Tryz.f3.params.toList args.toList ds p:=hA0;rw [Tryz.params3] at hA hval hsz;obtain ⟨v0,vs0,d0,ds0,p0,q0,hargs0,rfl,rfl,h0,r0⟩:=trodAll_cons hA;obtain ⟨v1,vs1,d1,ds1,p1,q1,rfl,rfl,rfl,h1,r1⟩:=trodAll_cons r0;obtain ⟨v2,vs2,d2,ds2,p2,q2,rfl,rfl,rfl,h2,r2⟩:=trodAll_cons r1;obtain ⟨v3,vs3,d3,ds3,p3,q3,rfl,rfl,rfl,h3,r3⟩:=trodAll_cons r2;obtain ⟨v4,vs4,d4,ds4,p4,q4,rfl,rfl,rfl,h4,r4⟩:=trodAll_cons r3;obtain ⟨v5,vs5,d5,ds5,p5,q5,rfl,rfl,rfl,h5,r5⟩:=trodAll_cons r4;obtain ⟨rfl,rfl,rfl⟩:=trodAll_nil r5;obtain rfl:args=#[v0,v1,v2,v3,v4,v5]:=by cases args;simp_all
 obtain ⟨rfl,rfl⟩:=trodVars_none hV;obtain ⟨a2,rfl,rfl,rfl,w2⟩:=open_int Tryz.underlying3 (hval 2 3 v2 rfl rfl) h2;obtain ⟨a3,rfl,rfl,rfl,w3⟩:=open_int Tryz.underlying3 (hval 3 3 v3 rfl rfl) h3;obtain ⟨a4,rfl,rfl,rfl,w4⟩:=open_int Tryz.underlying3 (hval 4 3 v4 rfl rfl) h4;obtain ⟨a5,rfl,rfl,rfl,w5⟩:=open_int Tryz.underlying3 (hval 5 3 v5 rfl rfl) h5;have hlt:∀ x ∈ p0 ++ (p1 ++ ([] ++ ([] ++ ([] ++ ([] ++ []))))) ++ [],x.block<W.heap.size:=fun x hx=>by simpa using hW'.lt x hx
 have hlt0:∀ x ∈ p0,x.block<W.heap.size:=fun x hx=>hlt x (by simp [hx])
 have hlt1:∀ x ∈ p1,x.block<W.heap.size:=fun x hx=>hlt x (by simp [hx])
 obtain ⟨l,hl⟩:=aAh (hval 0 22 v0 rfl rfl) h0 hlt0 (fun elems spare he=>by
  have:=sized_slice hsz (j:=0) (t:=22) (e:=3) (elems:=elems) (spare:=spare) rfl (by simp [he]) Tryz.underlying22;rw [Tryz.bytes3] at this;exact this)
 obtain ⟨k,hk⟩:=aAh (hval 1 22 v1 rfl rfl) h1 hlt1 (fun elems spare he=>by
  have:=sized_slice hsz (j:=1) (t:=22) (e:=3) (elems:=elems) (spare:=spare) rfl (by simp [he]) Tryz.underlying22;rw [Tryz.bytes3] at this;exact this)
 refine (rF hl hk (fun _ h=>h) (kH w2) (kH w3) (kH w4) (kH w5)).mono ?_;rintro e W' ⟨rfl,hx⟩;have k0:=Below.trod Tryz.laidOut (by kernel_rfl) (of_decide_eq_true (by kernel_rfl)) h0 hx hlt0;have k1:=Below.trod Tryz.laidOut (by kernel_rfl) (of_decide_eq_true (by kernel_rfl)) h1 hx hlt1;exact ⟨_,rfl,_,_,_,[],_,[],hW',trodAll_cons_mk (shut_bool Tryz.underlying4 _) trodAll_mk0,trodAll_cons_mk k0 (trodAll_cons_mk k1 (trodAll_cons_mk (shut_int Tryz.underlying3 w2) (trodAll_cons_mk (shut_int Tryz.underlying3 w3) (trodAll_cons_mk (shut_int Tryz.underlying3 w4) (trodAll_cons_mk (shut_int Tryz.underlying3 w5) trodAll_mk0))))),rfl,hx.frame _,fun h=>by cases h⟩
theorem corpusAdds_holds:Rows.CorpusAddsSaid :=
 OpenClaim.holds_of_wide 3 Tryz.f3 rfl rfl rfl rfl rfl rfl rfl ⟨rfl,rfl,rfl,rfl,rfl⟩ rfl rfl rfl rfl rfl (by kernel_rfl) Tryz.func3 (by kernel_rfl)
  (of_decide_eq_true (by kernel_rfl)) (by unfold Func.isWrapper;first | (rw [if_pos (by decide +kernel)];kernel_rfl) | (rw [if_neg (by decide +kernel)];exact ⟨rfl,rfl⟩))
  (fun os started H enc _=>nC os started H enc)
#print axioms corpusAdds_holds
end Go.Proofs.YtkoeecdjijfjnaaGreat
