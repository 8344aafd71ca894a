/- CorpusCarries: the tied card: for every input the law returns true, and each argument reads behind the call as it read before; what the listed variables hold is tied to the text of the program. Conditions: those that the card prints. -/
import Derived.ProofKit
import Derived.OpenShut
import Derived.SizedLaws
import Derived.Lay
import Derived.LaidMore
import Derived.LaidLaws
import Derived.Stop.Joined
import Derived.SevenTiedAt
import Derived.Test.YtkoeecdjijfjnaaGreatDoorRows
import Derived.Test.YtkoeecdjijfjnaaGreatDoorTie
import Derived.Test.YtkoeecdjijfjnaaGreatDoorCards
import Derived.Test.YtkoeecdjijfjnaaGreatDoorQZO
set_option linter.all false
set_option maxRecDepth 100000
set_option maxHeartbeats 8000000
namespace Go.Proofs.YtkoeecdjijfjnaaGreatDoor
open Go.RowKit
noncomputable abbrev cIb:Code:=.seq (.block 3 (.seq (R3 22) (.seq (.seq (R3 23) (.cond (.tmp 130) (.exit 3) .skip)) (.seq (.seq (R3 24) (.cond (.tmp 133) (R3 25) .skip)) (.seq (R3 26) (.seq (R3 27) (R3 28))))))) (R3 21)
noncomputable abbrev cI:Code:=.seq (.seq (R3 20) (.cond (.tmp 108) .skip (.exit 2))) cIb
noncomputable abbrev cO:Code:=.seq (.block 1 (.seq (R3 11) (.seq (.seq (R3 12) (.cond (.tmp 73) (.seq (.seq (R3 13) (.cond (.tmp 88) (.seq (R3 14) .ret) .skip)) (.exit 1)) .skip)) (.seq (.seq (R3 15) (.cond (.tmp 94) (.seq (R3 16) .ret) .skip)) (.seq (R3 17) (.seq (R3 18) (.seq (.seq (R3 19) (.block 2 (.loop cI))) (.seq (R3 29) (.seq (R3 30) (.cond (.tmp 179) (.seq (R3 31) .ret) .skip)))))))))) (R3 10)
theorem MAt.more {t:List GN}{vn ve:Value}{b:Int}{L:List GE}{m:Nat}{P P':Nat->Prop}{w:World}(h:MAt t vn b L m P ve w)(hP:∀ q,P q->P' q)(hx:∀ q,P' q->¬ mM m ve q)(hl:∀ q,P' q->q<w):MAt t vn b L m P' ve w:=by
 obtain ⟨xs,h1,h2⟩:=h.own;exact ⟨h.box,h.tree.carry (fun _ _ _=>rfl) (fun q _ hq=>hP q hq),⟨xs,h1,h2.move fF (fun _ _ _=>rfl) (fun q _ hq=>hP q hq)⟩,fun q hq=>⟨fun e=>hx q hq (.inl e),fun e=>hx q hq (.inr e)⟩,h.ne,h.inc,h.bI,h.few,h.short,hl⟩
structure LF (t s:List GN)(vn vs n1:Value)(b:Int)(L:List GE)(gt G i mx:Nat)(g:CA)(Pc Px:Nat->Prop)(vc vx:Value)(w:World):Prop where
 vt:bE t=0
 st:iX t
 nt:Nds w (fun q=>q<w.heap.size) vn t
 ns:Nds w (fun q=>q<w.heap.size) vs s
 ss:∀ x ∈ s,dG x
 c15:qc w gt 0 vn
 cG:qc w G i vs
 cor:dM t n1 b L g Pc vc w
 mod:MAt t vn b L mx Px vx w
 lib:sP w
 few:L.length<=100
 i3:i<3
section
variable {t s:List GN}{vn vs n1 vc vx:Value}{b:Int}{L:List GE}{gt G i mx mw B k:Nat}{g:CA}{Pc Px:Nat->Prop}{w w' wr:World}{a0 a':Act}{K:Exit->Act->World->Prop}
theorem LF.ext (h:LF t s vn vs n1 b L gt G i mx g Pc Px vc vx w)(hx:Ext w w'):LF t s vn vs n1 b L gt G i mx g Pc Px vc vx w' :=
 ⟨h.vt,h.st,(h.nt.ext hx).carry (fun _ _ _=>rfl) (fun q hq _=>hq),(h.ns.ext hx).carry (fun _ _ _=>rfl) (fun q hq _=>hq),h.ss,aA hx h.c15,aA hx h.cG,h.cor.ext hx,h.mod.ext hx,h.lib.ext hx,h.few,h.i3⟩
def IW (t s:List GN)(L:List GE)(vs:Value)(b:Int)(mw B:Nat)(w:World)(a0:Act)(k:Nat)(a':Act)(wr:World):Prop :=
 ∃ v1,Ag [15,16,17,18,19,20,21,22,24] a0 a'∧qq a' 26 k∧qq a' 25 (.int .i64 ((mV t s (L.take k)).2:Nat))∧k<=L∧MAt s vs b (mV t s (L.take k)).1 mw (fun q=>q<wr.heap.size∧¬ mM mw v1 q) v1 wr∧(∀ q,mM mw v1 q->B<=q)∧Ext w wr
theorem IY (h:LF t s vn vs n1 b L gt G i mx g Pc Px vc vx w)(gs:bE s=0)(hBw:w<=B)(sz:a0.tmps.size=181)(e15:qq a0 15 (qp gt))(e18:qq a0 18 (qp mx))(e19:qq a0 19 (.slice (qp G) 3 3))(e20:qq a0 20 i)(e24:qq a0 24 (qp mw))
  (hI:IW t s L vs b mw B w a0 k a' wr)(hk:k<L)(hK:∀ a2 w2,IW t s L vs b mw B w a0 (k+1) a2 w2->K .normal a2 w2):qw cIb K a' wr:=by
 obtain ⟨v1,ag,e26,e25,-,hM,hB1,hX⟩:=hI;replace sz:=ag.sz.trans sz;have hr:=h.ext hX;have hsn:=wL (a:=t) (s:=s) hk;have hln:=wO (a:=t) (s:=s) (L:=L) k I;have hpx:=h.cor.short _ (aC (d:=default) hk);have hgs:=dH.1 gs;have hfew:=h.few;obtain ⟨xs,hown,-⟩:=hr.mod.own;obtain ⟨A,c,rfl,-,-,-⟩:=Sl.of_own hown;obtain ⟨bx,ox,A1,d1,rfl,-,hx,hcell⟩:=hr.mod.ens.get hk;generalize L.getD k default=x at *;generalize mV t s (L.take k)=acc at *;have hpl:=yI (a:=t) hgs x.path;have c2:=hr.mod.cell2;refine wp_seq (wp_block (wp_seq (Kx (r:=lJ t s x.path) sz (ag.get 15 e15) (ag.get 19 e19) (ag.get 20 e20) (ag.get 18 e18) e26 h.i3 hk hr.c15 hr.cG c2 (hcell 0 _ rfl) (fun V hV=>zC (P:=fun q=>q<V.heap.size) (P2:=fun q=>q<V.heap.size) (Pp:=fun q=>q<V.heap.size) (fun q hq=>hq) (fun q hq=>hq) (fun q hq=>hq) (hr.ext hV).nt (hr.ext hV).ns h.st (xU h.ss) h.vt gs ((hx.path.ext hV).carry (fun _ _ _=>rfl) (fun q hq _=>hq)) hpx (hr.ext hV).lib) ?_)));intro a1 w1 V pv An cn u1 e27 e28 e29 hxV hi hx1;refine wp_seq (wp_seq (Kb (u1.sz.trans sz) e29 ?_));intro a2 u2 e130;have sz2:=u2.sz.trans (u1.sz.trans sz);have uu:=u1.trans (u2.mono rfl);generalize hrr:lJ t s x.path=r at *;unfold rM at hsn;rw [hrr] at hsn;by_cases hz:r.2=0
 ·refine wp_cond_false (e130.trans (by rw [hz];rfl)) (wp_skip (wp_seq (wp_seq (Mm sz2 (u2.get 28 e28) ?_))))
  intro a3 u3 e133;have sz3:=u3.sz.trans sz2
  have last:∀ (a4:Act) (n:Nat),Ag [15,16,17,18,19,20,21,22,24,26,27] a3 a4->qq a4 25 (n:Int)->n=acc.2+(if r.1.2=0 then 1 else 0)->qw (.seq (R3 26) (.seq (R3 27) (R3 28))) (Exit.inBlock 3 (Exit.then (Code.wp Tryz.prog (R3 21) K) K)) a4 w1:=by
   intro a4 n u4 n4 hn;have sz4:=u4.sz.trans sz3;have u04:=(uu.mono (l':=[15,16,17,18,19,20,21,22,24,26]) rfl).trans ((u3.mono rfl).trans (u4.mono rfl));obtain ⟨Av,cv,rfl,-⟩:=hi.form;refine wp_seq (JL sz4 (u04.get 18 (ag.get 18 e18)) (u04.get 26 e26) hk (aA hx1 c2) (fun j u hu=>aA hx1 (hcell j u hu)) ?_);intro a5 W2 u5 e30 hB hx2;refine wp_seq (LX (q:=r.1.1) (u5.sz.trans sz4) (u5.get 27 (u4.get 27 (u3.get 27 (u2.get 27 e27)))) e30 hB ?_);intro a6 w3 u6 hB3 hF3;have hs1:=hx1.size;have hsV:=hxV.size;have hx13:Ext w1 w3:=((ar (M:=fun _=>False) hx2).trans_new (hF3.mono fun q hq=>.inr I)).ext;have hxr3:=hx1.trans' hx13;have hs3:=hxr3.size;have hm3:MAt s vs b acc.1 mw (fun q=>q<w3.heap.size∧¬ mM mw v1 q) v1 w3:=(hM.ext hxr3).more (fun q hq=>⟨I,hq.2⟩) (fun q hq=>hq.2) (fun q hq=>hq.1);have hEA:EAt w3 (fun q=>q<w3.heap.size∧¬ mM mw v1 q) ⟨r.1.1,x.kind,x.at_,x.code,x.fresh,x.hits⟩ Av cv:=⟨(hi.ext hx13).carry (fun _ _ _=>rfl) (fun q hq hv=>⟨hq,fun hm=>by have:=hM.mlt hm;omega⟩),hx.kind,hx.at_,hx.code,hx.hits⟩;refine Fd (R:=dC s vs b (dN acc.1 ⟨r.1.1,x.kind,x.at_,x.code,x.fresh,x.hits⟩) mw (fun q=>q<w3.heap.size∧¬ mM mw v1 q) v1 w3) (u6.sz.trans (u5.sz.trans sz4)) (u6.get 24 (u5.get 24 (u04.get 24 (ag.get 24 e24)))) (u6.get 30 e30) hB3 (Bf hm3 hEA I (by show r.1.1.length<=_;omega)) ?_;rintro a7 w4 ⟨v2,hm4,hF4,hb4⟩ u7;have hs4:=hF4.size;refine AH (u7.sz.trans (u6.sz.trans (u5.sz.trans sz4))) (u7.get 26 (u6.get 26 (u5.get 26 (u04.get 26 e26)))) I ?_;intro a8 u8 e26';have hmw:=hM.mlt (.inl rfl);rw [if_pos hz] at hsn;have hn8:=u8.get 25 (u7.get 25 (u6.get 25 (u5.get 25 n4)));refine hK a8 w4 ⟨v2,ag.trans (((u04.mono rfl).trans (u5.mono rfl)).trans ((u6.mono rfl).trans ((u7.mono rfl).trans (u8.mono rfl)))),e26',?_,hk,?_,fun q hq=>?_,((ar (hX.trans' hxr3)).trans hF4).new_ext (fun q hq=>by have:=hB1 q hq;omega)⟩
   ·rw [hsn,<- hn];exact hn8
   ·rw [hsn]
    exact hm4.more (fun q hq=>⟨I,fun hm=>hm.elim (fun e=>hq.2 (.inl e)) (fun e=>(hb4 q e.symm).elim (fun e=>hq.2 (.inr e.symm)) (fun e=>by omega))⟩) (fun q hq=>hq.2) (fun q hq=>hq.1)
   ·have hmwB:=hB1 mw (.inl rfl)
    rcases hq with e | e
    ·omega
    ·rcases hb4 q e.symm with e | e
     ·exact hB1 q (.inr e.symm)
     ·omega
  have n3:=u3.get 25 (uu.get 25 e25);by_cases hn:r.1.2=0
  ·refine wp_cond_true (e133.trans (by rw [hn];rfl)) (Ei sz3 n3 I ?_)
   intro a4 u4 e25';exact last a4 (acc.2+1) u4 e25' (by rw [if_pos hn])
  ·refine wp_cond_false (e133.trans (congrArg Value.bool (aYg I))) (wp_skip ?_)
   exact last a3 acc.2 .rf n3 (by rw [if_neg hn];rfl)
 ·rw [if_neg hz] at hsn
  refine wp_cond_true (e130.trans (congrArg Value.bool (bne_iff_ne.2 hz))) (wp_exit (AH sz2 (uu.get 26 e26) I ?_));intro a8 u8 e26';have hs1:=hx1.size;refine hK a8 w1 ⟨v1,ag.trans ((uu.mono rfl).trans (u8.mono rfl)),e26',?_,hk,?_,hB1,hX.trans' hx1⟩
  ·rw [hsn];exact u8.get 25 (uu.get 25 e25)
  ·rw [hsn]
   exact (hM.ext hx1).more (fun q hq=>⟨I,hq.2⟩) (fun q hq=>hq.2) (fun q hq=>hq.1)
theorem Ih (h:LF t s vn vs n1 b L gt G i mx g Pc Px vc vx w)(sz:a0.tmps.size=181)(e15:qq a0 15 (qp gt))(e16:qq a0 16 b)(e17:qq a0 17 (qp g.c))(e18:qq a0 18 (qp mx))(e19:qq a0 19 (.slice (qp G) 3 3))(e20:qq a0 20 i)
  (hK:∀ a2 w2,Ag [15,16,17,18,19] a0 a2->qq a2 20 (.int .i64 ((i+1:Nat):Int))->Ext w w2->K .normal a2 w2):qw cO K a0 w:=by
 have hi3:=h.i3;have hvl:∀ x ∈ s,x.values.length<=1000000000:=fun x hx=>(h.ss x hx).2.2.1
 have hfew:=h.few;by_cases gs:bE s=0
 ·refine wp_seq (wp_block (wp_seq (ud (m:=((mV t s L).2:Nat)) (z:=0) (RV:=fun u w'=>∃ g' P' v' vn',u=↑(qp g'.c)∧oG s vn' b (qZ b (mV t s L).1) g' P' v' w w'∧Ext w w') sz e17 e19 e20 hi3 h.cG ((Fw h.cor (fun q hq=>hq) h.ns h.vt gs h.st h.ss I h.lib).mono ?_) ?_)))
  ·rintro e w' ⟨g',P',v',vn',rfl,h1,h2⟩
   exact ⟨_,rfl,g',P',v',vn',rfl,h1,h2⟩
  rintro a1 u w1 ⟨g',P',v',vn',rfl,hD,hx1⟩ u1 e21 e22 e23;have h1:=h.ext hx1;have sz1:=u1.sz.trans sz;have rv:=eQ s _ vs w1 h1.ns hvl;rw [gs] at rv;refine wp_seq (wp_seq (t8 sz1 (u1.get 19 e19) (u1.get 20 e20) hi3 h1.cG rv ?_));intro a2 w2 hx2 u2 e73;have h2:=h1.ext hx2;have sz2:=u2.sz.trans sz1;refine wp_cond_false e73 (wp_skip (wp_seq (wp_seq (Le sz2 (u2.get 21 e21) (u2.get 23 e23) ?_))));intro a3 u3 e94;have sz3:=u3.sz.trans sz2;have U3:=(u1.trans (u2.mono rfl)).trans (u3.mono rfl);obtain ⟨As,cs,rfl,-⟩:=h2.ns.form;refine wp_cond_false e94 (wp_skip (wp_seq (Ks sz3 (U3.get 16 e16) (U3.get 19 e19) (U3.get 20 e20) hi3 h2.cG ?_)));intro a4 W4 hBm hx4 hl4 u4 e24;have sz4:=u4.sz.trans sz3;refine rS ?_;refine lv ?_;refine lE (v:=qz) a4 [15,16,17,18,19,20,21,22,24] 25 ?_ (he:=by simp [*]);intro a5 u5 e25;have sz5:=u5.sz.trans sz4;refine wp_seq (rS ?_);refine lv ?_;refine lE (v:=qz) a5 [15,16,17,18,19,20,21,22,24,25] 26 ?_ (he:=by simp [*]);intro a6 u6 e26;have sz6:=u6.sz.trans sz5;have U6:=(U3.trans (u4.mono rfl)).trans ((u5.mono rfl).trans (u6.mono (l':=[15,16,17,18,19,20]) rfl));have e24':=u6.get 24 (u5.get 24 e24);have e21':=u6.get 21 (u5.get 21 (u4.get 21 (u3.get 21 (u2.get 21 e21))));have e22':=u6.get 22 (u5.get 22 (u4.get 22 (u3.get 22 (u2.get 22 e22))));have hD2:=hD.ext hx2
  have hM0:MAt s (.slice As s cs) b [] w2 (fun q=>q<W4.heap.size∧¬ mM w2 qn q) qn W4 :=
   ⟨hBm,(h2.ns.ext hx4).carry (fun _ _ _=>rfl) (fun q hq hq2=>⟨hq,fun hm=>by
    rcases hm with e | e
    ·omega
    ·simp [Value.ownBlock] at e⟩),⟨[],aT _ _ _ _,gh⟩,fun q hq=>⟨fun e=>hq.2 (.inl e),dr⟩,dr,by simp [xB],h.cor.bI,U,U,fun q hq=>hq.1⟩
  refine wp_block (wp_loop (fun a' w'=>∃ k,IW t s L (.slice As s cs) b w2 w2 w2 a6 k a' w') (fun a' _=>L.length - (intOf (Ev a' (.tmp 26))).toNat) ⟨0,↑qn,.rf,e26,(u6.get 25 e25).trans (by simp [mV]),af _,by simpa [mV] using hM0,fun q hq=>?_,hx4⟩ ?_)
  ·rcases hq with e | e
   ·omega
   ·simp [Value.ownBlock] at e
  rintro a7 w7 ⟨k,hI⟩;obtain ⟨v7,ag,e26',e25',hk,hM7,hB7,hX7⟩:=id hI;have sz7:=ag.sz.trans sz6;have h7:=h2.ext hX7;obtain ⟨ys,hown,-⟩:=h7.mod.own;obtain ⟨Ax,cx,rfl,-,-,-⟩:=Sl.of_own hown;refine wp_seq (wp_seq (G6 sz7 e26' (ag.get 18 (U6.get 18 e18)) h7.mod.cell2 ?_));intro a8 u8 e108;have sz8:=u8.sz.trans sz7;by_cases hlt:k<L
  ·refine wp_cond_true (e108.trans (congrArg Value.bool (aYi I))) (wp_skip (IY h2 gs (ab _) sz6 (U6.get 15 e15) (U6.get 18 e18) (U6.get 19 e19) (U6.get 20 e20) e24' ⟨v7,ag.trans (u8.mono rfl),u8.get 26 e26',u8.get 25 e25',hk,hM7,hB7,hX7⟩ hlt ?_))
   intro a9 w9 h9;refine ⟨⟨k+1,h9⟩,?_⟩;obtain ⟨_,-,h26,-⟩:=h9;rw [h26,e26'];show L.length - ((k+1:Nat):Int).toNat<L - ((k:Nat):Int).toNat;omega
  ·refine wp_cond_false (e108.trans (congrArg Value.bool (aYj I))) (wp_exit ?_)
   obtain rfl:k=L:=I;rw [List.take_length] at hM7 e25';have U8:=U6.trans ((ag.mono rfl).trans (u8.mono (l':=[15,16,17,18,19,20]) rfl));refine wp_seq (LH (R:=dC s (.slice As s cs) b (qZ b (mV t s L).1) w2 (fun q=>q<w7.heap.size∧¬ mM w2 v7 q) v7 w7) sz8 (u8.get 24 (ag.get 24 e24')) (AO hM7) ?_);rintro a9 w9 ⟨v9,hM9,hF9,-⟩ u9;have sz9:=u9.sz.trans sz8;have hx29:Ext w2 w9:=((ar hX7).trans hF9).new_ext (fun q hq=>hB7 q hq);have h9:=h2.ext hx29;have hD9:=hD2.ext hx29;have U9:=U8.trans (u9.mono (l':=[15,16,17,18,19,20]) rfl);refine wp_seq (FQ (m:=((mV t s L).2:Nat)) (by_:=dK (qZ b (mV t s L).1)) (L:=qZ b (mV t s L).1) (M:=L) sz9 (u9.get 22 (u8.get 22 (ag.get 22 e22'))) (u9.get 25 (u8.get 25 e25')) (u9.get 21 (u8.get 21 (ag.get 21 e21'))) (u9.get 24 (u8.get 24 (ag.get 24 e24'))) (U9.get 17 e17) (U9.get 18 e18) ⟨fun V hV=>aA hV hM9.cell2,fun V hV=>qX s vn' b _ g' P' v' V (hD9.cor.ext hV),fun V P v hV hv=>Bg hM9.few hv (hM9.ens.ext hV)⟩ ⟨fun V hV=>aA hV h9.mod.cell2,fun V hV=>qX t n1 b L g Pc vc V (h9.cor.ext hV),fun V P v hV hv=>Bg h9.mod.few hv (h9.mod.ens.ext hV)⟩ (fun V hV=>rP s vn' b _ g' P' v' V (hD9.cor.ext hV)) (fun V hV=>tD (hM9.ext hV)) ?_);intro a10 w10 hx10 u10 e179;refine wp_cond_false e179 (wp_skip (Bj (u10.sz.trans sz9) (u10.get 20 (U9.get 20 e20)) I ?_));intro a11 u11 e20';exact hK a11 w10 (((U9.mono rfl).trans (u10.mono rfl)).trans u11) e20' (((hx1.trans' hx2).trans' hx29).trans' hx10)
 ·refine wp_seq (wp_block (wp_seq (ud (m:=0) (z:=bE s) (RV:=fun u w'=>u=.pointer none∧Ext w w') sz e17 e19 e20 hi3 h.cG ((zH h.cor (fun q hq=>hq) h.ns gs (xU h.ss)).mono ?_) ?_)))
  ·rintro e w' ⟨rfl,h2⟩
   exact ⟨_,rfl,rfl,h2⟩
  rintro a1 u w1 ⟨rfl,hx1⟩ u1 e21 e22 e23;have h1:=h.ext hx1;have sz1:=u1.sz.trans sz;refine wp_seq (wp_seq (t8 sz1 (u1.get 19 e19) (u1.get 20 e20) hi3 h1.cG (eQ s _ vs w1 h1.ns hvl) ?_));intro a2 w2 hx2 u2 e73;have h2:=h1.ext hx2;have sz2:=u2.sz.trans sz1;have U2:=u1.trans (u2.mono rfl);refine wp_cond_true (e73.trans (congrArg Value.bool (bne_iff_ne.2 gs))) (wp_seq (wp_seq (DR sz2 (u2.get 21 e21) (u2.get 22 e22) (u2.get 23 e23) (U2.get 19 e19) (U2.get 20 e20) hi3 h2.cG (eQ s _ vs w2 h2.ns hvl) ?_)));intro a3 w3 hx3 u3 e88;refine wp_cond_false e88 (wp_skip (wp_exit (Bj (u3.sz.trans sz2) (u3.get 20 (U2.get 20 e20)) I ?_)));intro a4 u4 e20';exact hK a4 w3 (((U2.mono rfl).trans (u3.mono rfl)).trans u4) e20' ((hx1.trans' hx2).trans' hx3)
end
end Go.Proofs.YtkoeecdjijfjnaaGreatDoor
namespace Go.Proofs.YtkoeecdjijfjnaaGreatDoor
open Go.RowKit
section
variable {t:List GN}{raw p q:List Int}
theorem ki.same (h:ki t raw p)(h':ki t raw q):∀ j,j<=p.length->j<=q.length->p.take j=q.take j
 | 0,_,_=>by simp
 | j+1,h1,h2=>by
  have ih:=ki.same h h' j I I;have e1:=(h j I).2;have e2:=(h' j I).2;rw [ih] at e1;rw [<- e2] at e1;rw [List.take_add_one,List.take_add_one,ih];have g1:p[j]?=some (p.getD j 0):=by simp [List.getD,show j<p by omega]
  have g2:q[j]?=some (q.getD j 0):=by simp [List.getD,show j<q by omega]
  rw [g1,g2,e1]
theorem tZ.uniq {n m:Int}(h:tZ t raw p n)(h':tZ t raw q m):p=q∧n=m:=by
 rcases h with ⟨h1,rfl,rfl⟩ | ⟨h1,rfl,h2,h3⟩
 ·rcases h' with ⟨_,rfl,rfl⟩ | ⟨h4,_⟩
  ·exact ⟨rfl,rfl⟩
  ·omega
 ·rcases h' with ⟨h4,_⟩ | ⟨_,rfl,h4,h5⟩
  ·omega
  ·refine ⟨?_,rfl⟩
   rcases Nat.lt_trichotomy p q.length with hl | hl | hl
   ·have:=(h4 p hl).1
    rw [<- ki.same h2 h4 p (ab _) I,List.take_length] at this;exact absurd this h3
   ·have:=ki.same h2 h4 p (ab _) I
    rw [List.take_length,hl,List.take_length] at this;exact this
   ·have:=(h2 q hl).1
    rw [ki.same h2 h4 q I (ab _),List.take_length] at this;exact absurd this h5
end
section
variable {t:List GN}{l:List Int}{i k most:Nat}{gs gs':List GG}
theorem IK {x y:GG}(h:xS t l i x)(h':xS t l i y):x=y:=by
 obtain ⟨p,n,h1,rfl⟩:=h;obtain ⟨q,m,h2,rfl⟩:=h';obtain ⟨rfl,rfl⟩:=h1.uniq h2;rfl
theorem lD.uniq (h:lD t l most gs)(h':lD t l most gs'):gs=gs':=by
 have hl:gs.length=gs':=by
  rcases Nat.lt_trichotomy gs gs'.length with h1 | h1 | h1
  ·have:=(h'.2.1 _ h1).1
   exact absurd this (h.2.2 (by have:=h'.1;omega))
  ·exact h1
  ·have:=(h.2.1 _ h1).1
   exact absurd this (h'.2.2 j3)
 refine List.ext_getElem hl (fun i h1 h2=>?_);have:=IK (h.2.1 i h1).2 (h'.2.1 i h2).2
 simpa [List.getD,h1,h2] using this
end
end Go.Proofs.YtkoeecdjijfjnaaGreatDoor
namespace Go.Proofs.YtkoeecdjijfjnaaGreatDoor
open Go.RowKit
noncomputable abbrev c3:Code:=.seq (R3 0) (.seq (R3 1) (.seq (R3 2) (.seq (R3 3) (.seq (R3 4) (.seq (.seq (R3 5) (.cond (.tmp 44) (.seq (R3 6) .ret) .skip)) (.seq (R3 7) (.seq (.seq (R3 8) (.block 0 (.loop (.seq (.seq (R3 9) (.cond (.tmp 55) .skip (.exit 0))) cO)))) (.seq (R3 32) .ret))))))))
theorem b3:Tryz.f3.body=some c3:=av
section
variable {l k n:List Int}{Ql Qk Qn:Nat->Prop}{vl vk vn:Value}{bu k1 k2 k3:Int}{w:World}
theorem nO (hl:bL w Ql vl l)(hk:bL w Qk vk k)(hn:bL w Qn vn n)(hQk:∀ b,Qk b->b<w)(hbu:I64 bu)(h1:I64 k1)(h2:I64 k2)(h3:I64 k3)(hT:sP w) :
  qg 3 #[vl,vk,vn,↑bu,↑k1,↑k2,↑k3] w (dE true w):=by
 refine gD Tryz.func3 b3 rfl U (fun a Q sz df ea hQ=>?_);have e0:=ea 0 vl rfl;have e1:=ea 1 vk rfl;have e2:=ea 2 vn rfl;have e3:=ea 3 (↑bu) rfl;have e4:=ea 4 (↑k1) rfl;have e5:=ea 5 (↑k2) rfl;have e6:=ea 6 (↑k3) rfl;clear ea;replace sz:a.tmps.size=181:=sz;refine rS ?_;refine lv ?_;refine lN a [0,1,2,3,4,5,6] ?_;intro a0 u0;refine u0.c7 sz df e0 e1 e2 e3 e4 e5 e6 fun sz df e0 e1 e2 e3 e4 e5 e6=>?_
 refine wp_seq (FF sz e0 (Cq l Ql vl w hl) ?_);intro a1 A c t w1 W u1 hnd hgen hlen hx1 hxW hB e15;refine u1.c6 sz df e1 e2 e3 e4 e5 e6 fun sz df e1 e2 e3 e4 e5 e6=>?_
 have hb:=gM (n:=bu) (m:=80) I;refine wp_seq (Fu sz e3 (fL bu 80 W hbu I I) ?_);intro a2 u2 e16;refine u2.c6 sz df e1 e2 e4 e5 e6 e15 fun sz df e1 e2 e4 e5 e6 e15=>?_
 generalize fH bu 80=b at *;have hx0W:=hx1.trans' hxW;have hndW:Nds W (fun q=>q<W.heap.size) (.slice A t c) t:=(hnd.ext hxW).carry (fun _ _ _=>rfl) (fun q hq _=>hq);have hfw:∀ x ∈ t,x.kind=3->x.kids.length<=5:=fun x hx h3=>Nat.le_succ_of_le (hgen.few x hx h3)
 have hRd:∀ p:List Int,p.length<=1000000000->RdT t p:=fun p hp=>⟨dH.1 hgen.good,I,hfw,I⟩
 have hvl:∀ x ∈ t,x.values.length<=1000000000:=fun x hx=>(hgen.small x hx).2.2.1
 have c15:=hB.cell' (u:=.slice A t c) 0 rfl;refine wp_seq (C5 (RV:=fun u w'=>Bp t b k 12 W (.returned u) w') sz e15 e16 e1 c15 ((My (vn:=.slice A t c) (most:=12) hgen.good hfw hgen.small hlen I I (fun q hq=>hq) (fun q hq=>ac (hQk q hq) hx0W.size) hndW (hk.ext hx0W)).mono ?_) ?_)
 ·rintro e w' ⟨gs,n3,g3,P3,v3,q1,rfl,q2,q3⟩
  exact ⟨_,rfl,gs,n3,g3,P3,v3,q1,rfl,q2,q3⟩
 rintro a3 u w3 ⟨gs1,n1,gc,P1,v1,hs1',hu,hC,hx3⟩ u3 e17;injection hu with hu;subst hu
 refine u3.c7 sz df e1 e2 e4 e5 e6 e15 e16 fun sz df e1 e2 e4 e5 e6 e15 e16=>?_
 have hx03:=hx0W.trans' hx3;refine wp_seq (LJ (RV:=fun u w'=>Bh t (.slice A t c) b k 12 (fun q=>q<w3.heap.size) w3 (.returned u) w') sz e15 e16 e1 (aA hx3 c15) ((Hz (vn:=.slice A t c) (most:=12) hRd hvl hgen.good hfw hlen I I (fun q hq=>hq) (fun q hq=>ac (hQk q hq) hx03.size) ((hndW.ext hx3).carry (fun _ _ _=>rfl) (fun q hq _=>hq)) (hk.ext hx03)).mono ?_) ?_)
 ·rintro e w' ⟨gs,m,ve,P',q1,rfl,q2⟩
  exact ⟨_,rfl,gs,m,ve,P',q1,rfl,q2⟩
 rintro a4 u w4 ⟨gs2,mx,vx,Px,hs2',hu,hX,-,-,hx4⟩ u4 e18;injection hu with hu;subst hu;obtain rfl:=hs2'.uniq hs1'
 refine u4.c7 sz df e2 e4 e5 e6 e15 e16 e17 fun sz df e2 e4 e5 e6 e15 e16 e17=>?_
 have hx04:=hx03.trans' hx4;have hfl:=pG (t:=t) (b:=b) (gs:=gs2) gs2 (ab _);rw [List.take_length] at hfl;have hg2:=hs2'.1;refine wp_seq (wp_seq (Ju sz e17 ?_));intro a5 u5 e44;refine u5.c8 sz df e2 e4 e5 e6 e15 e16 e17 e18 fun sz df e2 e4 e5 e6 e15 e16 e17 e18=>?_
 have hnd4:Nds w4 (fun q=>q<w4.heap.size) (.slice A t c) t:=((hndW.ext hx3).ext hx4).carry (fun _ _ _=>rfl) (fun q hq _=>hq);refine wp_cond_false e44 (wp_skip (wp_seq (Fh (P:=fun q=>q<w4.heap.size) sz e2 e4 e5 e6 e15 (aA (hx3.trans' hx4) c15) (fun V hV=>Cq n Qn vn V (hn.ext (hx04.trans' hV))) (fun V hV=>FE (fun q hq=>ac hq hV.size) (hnd4.ext hV) I hgen.m h1 h2 h3) ?_)));intro a6 w6 G A1 c1 t1 A2 c2 t2 u6 e19 hB6 nd1 sm1 nd2 sm2 hx6;refine u6.c4 sz df e15 e16 e17 e18 fun sz df e15 e16 e17 e18=>?_
 have hx06:=hx04.trans' hx6;have hF:∀ (s:List GN) (vs:Value) (i:Nat),i<3->qc w6 G i vs->Nds w6 (fun q=>q<w6.heap.size) vs s->(∀ x ∈ s,dG x)->LF t s (.slice A t c) vs n1 b (kX t b gs2) w1 G i mx gc P1 Px v1 vx w6:=fun s vs i hi hc hs hss=>⟨hgen.good,xU hgen.small,(hnd4.ext hx6).carry (fun _ _ _=>rfl) (fun q hq _=>hq),hs,hss,aA ((hx3.trans' hx4).trans' hx6) c15,hc,(hC.cor.ext hx4).ext hx6,hX.ext hx6,hT.ext hx06,I,hi⟩
 have hF3:∀ i,i<3->∃ s vs,LF t s (.slice A t c) vs n1 b (kX t b gs2) w1 G i mx gc P1 Px v1 vx w6:=fun i hi=>by
  rcases (show i=0∨i=1∨i=2 by omega) with rfl | rfl | rfl
  ·exact ⟨t1,_,hF t1 _ 0 hi (hB6.cell' 0 rfl) nd1 sm1⟩
  ·exact ⟨t2,_,hF t2 _ 1 hi (hB6.cell' 1 rfl) nd2 sm2⟩
  ·exact ⟨t,_,hF t _ 2 hi (hB6.cell' 2 rfl) ((hnd4.ext hx6).carry (fun _ _ _=>rfl) (fun q hq _=>hq)) hgen.small⟩
 refine wp_seq (rS ?_);refine lv ?_;refine lE (v:=qz) a6 [15,16,17,18,19] 20 ?_ (he:=by simp [*]);intro a7 u7 e20;refine u7.c5 sz df e15 e16 e17 e18 e19 fun sz df e15 e16 e17 e18 e19=>?_
 refine wp_block (wp_loop (fun a' w'=>∃ i:Nat,Ag [15,16,17,18,19] a7 a'∧qq a' 20 (↑i)∧i<=3∧Ext w6 w') (fun a' _=>3 - (intOf (Ev a' (.tmp 20))).toNat) ⟨0,.rf,e20,I,aq w6⟩ ?_);rintro a8 w8 ⟨i,ag,e20',hi,hX8⟩;have sz8:=ag.sz.trans sz;refine wp_seq (wp_seq (Im sz8 e20' ?_));intro a9 u9 e55;have sz9:=u9.sz.trans sz8;by_cases hlt:i<3
 ·obtain ⟨s,vs,hLF⟩:=hF3 i hlt
  refine wp_cond_true (e55.trans (congrArg Value.bool (aYi I))) (wp_skip (Ih (hLF.ext hX8) sz9 (u9.get 15 (ag.get 15 e15)) (u9.get 16 (ag.get 16 e16)) (u9.get 17 (ag.get 17 e17)) (u9.get 18 (ag.get 18 e18)) (u9.get 19 (ag.get 19 e19)) (u9.get 20 e20') ?_));intro a10 w10 u10 e20'' hx10;refine ⟨⟨i+1,ag.trans ((u9.mono rfl).trans u10),e20'',I,hX8.trans' hx10⟩,?_⟩;rw [e20'',e20'];show 3 - ((i+1:Nat):Int).toNat<3 - ((i:Nat):Int).toNat;omega
 ·refine wp_cond_false (e55.trans (congrArg Value.bool (aYj I))) (wp_exit (wp_seq (Gv sz9 (JZ w8) ?_)))
  intro a11 w11 hx11 u11 e14;exact wp_ret (hQ a11 w11 true (u11.df.trans (u9.df.trans (ag.df.trans df))) (by simp [results,Tryz.results3,go_sem,evT e14]) ⟨rfl,(hx06.trans' hX8).trans' hx11⟩)
end
end Go.Proofs.YtkoeecdjijfjnaaGreatDoor
namespace Go.Proofs.YtkoeecdjijfjnaaGreatDoor
open Go.ChangeShapes Go.WideShapes Go.ChangeAt Go.RowKit
theorem Tryz.own:ownKnob Tryz.prog.godebug=none:=av
theorem Tryz.laidOut:laidOutB Tryz.prog=true:=av
theorem Tryz.cells3:Tryz.prog.cellsOf 3=1:=av
theorem Tryz.bytes3:Tryz.prog.bytesOf 3=8:=av
theorem kG {n:Int}(h:(Lit.int .i64 n).wf=true):I64 n:=by
 have h1:IntKind.i64.min=-9223372036854775808:=rfl;have h2:IntKind.i64.max=9223372036854775807:=rfl;simp only [Lit.wf,Bool.and_eq_true,decide_eq_true_eq] at h;unfold I64;omega
theorem wQ {H:Type}{enc:TypeId × Value->H}{W:World}{base:Nat}{v:Value}{d:DataW H}{p:List MemPlace}(hok:Value.okWide Tryz.prog W .any base 22 v)(h:DataW.Trod enc Tryz.prog W 0 (fun _=>true) true 22 v d p)(hlt:∀ x ∈ p,x.block<W.heap.size)
  (hw:∀ elems spare,d=.slice elems spare->(elems.length+spare)*8<=reachBytes):∃ l,bL W (fun b=>b<W.heap.size) v l:=by
 obtain ⟨a0,len,cap,rfl⟩:=okWide_slice Tryz.underlying22 hok;obtain ⟨fuel,hf⟩:=h;rcases open_ints Tryz.underlying22 Tryz.underlying3 Tryz.cells3 hf with ⟨hcs,hx⟩ | ⟨a,len',cap',zs,hcs,_,hl,hm,hz,hx,hcell,hwz⟩
 ·simp [Value.cells] at hcs
  obtain ⟨rfl,rfl,rfl⟩:=hcs;exact ⟨[],none,0,rfl,ab _,⟨U,I⟩,U,⟨rfl,fun h=>absurd h U⟩⟩
 ·simp [Value.cells] at hcs
  obtain ⟨rfl,rfl,rfl⟩:=hcs;simp only [Prod.mk.injEq] at hx;obtain ⟨rfl,rfl⟩:=hx;simp only [if_true] at hz
  have hreach:cap*8<=140737488351232:=by
   have:=hw _ _ rfl;simp only [lits,List.length_map,ak,am,reachBytes] at this;omega
  have hlen:(zs.take len)=len:=fd;refine ⟨zs.take len,some a,cap,by rw [hlen],by rw [hlen];exact hl,⟨by rw [hlen];omega,I⟩,fun x hx=>kG (hwz x (List.mem_of_mem_take hx)),U,?_⟩;intro hpos;rw [hlen] at hpos;obtain ⟨b,off,spot⟩:=a;have hspot:spot=none:=by simpa [Addr.add] using World.cell?_spot (hcell 0 I)
  subst hspot;refine ⟨b,off,rfl,hlt (.cell b off) (MemPlace.mem_row.2 ⟨0,I,U⟩),?_⟩;intro j u hu
  have hj:j<len:=by
   have:=(List.getElem?_eq_some_iff.1 hu).1;rw [List.length_map,hlen] at this;exact this
  have hc:=hcell j I;rw [add_plain] at hc;rw [hc];rw [List.getElem?_map,List.getElem?_take_of_lt hj] at hu;have hjz:j<zs:=by omega
  simp only [List.getElem?_eq_getElem hjz,Option.map_some,Option.some.injEq] at hu;rw [<- hu];simp [List.getD,hjz]
theorem pA {P:Program}{w:World}{n:String}{d:DataW Unit}:∀ {l:List (String × DataW Unit)}{ps:List MemPlace},DataW.LaidVars P w l ps->(n,d) ∈ l ->
  ∃ g t cs fuel p,P.globalNamed n=some g∧(P.globals[g]?).map (·.type)=some t∧w.var? P n=some cs∧DataW.trod (fun _=>()) P w 0 (fun _=>true) false fuel t cs.toList=some (d,p)∧∀ x ∈ MemPlace.row (qp g) cs.size,x ∈ ps
 | [],_,_,h=>by cases h
 | (m,e) :: l,_,hL,h=>by
  obtain ⟨g,t,cs,fuel,p,q,h1,h2,h3,h4,h5,rfl⟩:=hL;rcases ao.1 h with h6 | h6
  ·cases h6
   exact ⟨g,t,cs,fuel,p,h1,h2,h3,h4,fun x hx=>ap.2 (.inl (ap.2 (.inl hx)))⟩
  ·obtain ⟨g',t',cs',fuel',p',k1,k2,k3,k4,k5⟩:=pA h5 h6
   exact ⟨g',t',cs',fuel',p',k1,k2,k3,k4,fun x hx=>ap.2 (.inr (k5 x hx))⟩
theorem yR {H:Type}{enc:TypeId × Value->H}{P:Program}{w:World}{base:Nat}{sp:Nat->Bool}{held:Bool}{fuel n:Nat}{k:IntKind}{t e:TypeId}{cs:List Value}{p:List MemPlace}{D:List Int}(ht:P.underlying t=some (.array n e))(he:P.underlying e=some (.int k))(hc:P.cellsOf e=1)(hn:P.cellsOf t=n)
  (h:DataW.trod enc P w base sp held fuel t cs=some (.agg (D.map fun b=>.lit (.int k b)),p)):cs=D.map (Value.int k):=by
 obtain ⟨xs,m,rfl,hx,hlen,hxl,hel⟩:=DataW.trod_array ht h;simp only [Prod.mk.injEq,DataW.agg.injEq] at hx;obtain ⟨hx,-⟩:=hx;rw [hn] at hlen
 have hD:D=n:=by
  have:=congrArg List.length hx
  simpa [hxl] using this
 apply List.ext_getElem?;intro i;by_cases hi:i<n
 ·have h1:=hel i hi
  rw [hc,Nat.mul_one] at h1;obtain ⟨x,hxi⟩:∃ x,xs[i]?=some x:=⟨_,List.getElem?_eq_getElem I⟩;rw [hxi] at h1;obtain ⟨s,e1,e2,_⟩:=DataW.trod_int he h1
  have e3:cs[i]?=some (.int k s):=by
   have e4:((cs.drop i).take 1)[0]?=some (Value.int k s):=by rw [e1];rfl
   simpa using e4
  have e4:(D.map fun b=>(DataW.lit (.int k b):DataW H))[i]?=some x.1:=by rw [hx,List.getElem?_map,hxi];rfl
  rw [e2,List.getElem?_map] at e4;rw [e3,List.getElem?_map];cases hd:D[i]? with
  | none=>rw [hd] at e4;cases e4
  | some b =>
   rw [hd] at e4;simp only [Option.map_some,Option.some.injEq,DataW.lit.injEq,Lit.int.injEq,true_and] at e4;rw [e4];rfl
 ·rw [List.getElem?_eq_none I,List.getElem?_eq_none bh]
theorem xL {w:World}{n:String}{s:List UInt8}{t:TypeId}{ms:Array (String × TypeId)}{cs:Array Value}{fuel:Nat}{p:List MemPlace}(hu:Tryz.prog.underlying t=some (.interface ms))(hv:w.var? Tryz.prog n=some cs)
  (h:DataW.trod (fun _=>()) Tryz.prog w 0 (fun _=>true) false fuel t cs.toList=some (.iface "*errors.errorString" (.ptr (.agg [.lit (.string s)])),p)):∃ tp q,w.var? Tryz.prog n=some #[.iface tp q]:=by
 obtain ⟨_,u,v,e,-,-⟩:=iface_of_trod hu h;refine ⟨u,v,?_⟩;rw [hv];cases cs;simp only at e;rw [e]
theorem FO {w:World}(h:laidMetH Tryz.prog Rows.corpusCarriesRow.laid w):sP w:=by
 rw [MakeChecks.laidMetH_plain _ _ _ av] at h;obtain ⟨ps,hL,-⟩:=h;refine ⟨?_,?_,?_⟩
 ·obtain ⟨g,t,cs,fuel,p,h1,h2,h3,h4,-⟩:=pA (n:= "internal/strconv.uint64pow10") (d:=Rows.laid_internal_strconv_uint64pow10) hL i7
  obtain rfl:=Option.some.inj ((show Tryz.prog.globalNamed "internal/strconv.uint64pow10"=some 2 by kernel_rfl).symm.trans h1);obtain rfl:=Option.some.inj ((show (Tryz.prog.globals[2]?).map (·.type)=some 222 by kernel_rfl).symm.trans h2);have:=yR (D:=Lib.pow10Tab) (k:=.u64) Tryz.underlying222 Tryz.underlying167 av av (by rw [h4];rfl);rw [h3];cases cs;simp only at this;rw [this]
 ·obtain ⟨g,t,cs,fuel,p,h1,h2,h3,h4,-⟩:=pA (n:= "strconv.ErrSyntax") (d:=Rows.laid_strconv_ErrSyntax) hL i7
  obtain rfl:=Option.some.inj ((show Tryz.prog.globalNamed "strconv.ErrSyntax"=some 0 by kernel_rfl).symm.trans h1);obtain rfl:=Option.some.inj ((show (Tryz.prog.globals[0]?).map (·.type)=some 197 by kernel_rfl).symm.trans h2);exact xL Tryz.underlying197 h3 h4
 ·obtain ⟨g,t,cs,fuel,p,h1,h2,h3,h4,-⟩:=pA (n:= "strconv.ErrRange") (d:=Rows.laid_strconv_ErrRange) hL i7
  obtain rfl:=Option.some.inj ((show Tryz.prog.globalNamed "strconv.ErrRange"=some 1 by kernel_rfl).symm.trans h1);obtain rfl:=Option.some.inj ((show (Tryz.prog.globals[1]?).map (·.type)=some 197 by kernel_rfl).symm.trans h2);exact xL Tryz.underlying197 h3 h4
theorem JT (os:Os)(args:Array Value):laidMetH Tryz.prog Rows.corpusCarriesRow.laid (((World.laidAll Tryz.prog os Rows.corpusCarriesRow.laid).forCall (fun _ _=>0) ⟨#[],args,[]⟩).memory):=by
 rw [MakeChecks.laidMetH_plain _ _ _ av];exact laidMet_laidAll _ av av
theorem Is (os:Os)(args:Array Value):((World.laidAll Tryz.prog os Rows.corpusCarriesRow.laid).forCall (fun _ _=>0) ⟨#[],args,[]⟩).Shaped Tryz.prog:=World.shaped_of_ZipB av av
theorem kY (os:Os)(started:os.Started)(H:Type)(enc:TypeId × Value->H) :
  ReturnsInHanded {} Tryz.checked os 3 .any (fun w args=>(Rows.corpusCarriesSpec.pre enc Tryz.prog Tryz.f3 Rows.corpusCarriesRow.domain false w args∧laidMetH Tryz.prog Rows.corpusCarriesRow.laid w)∧sizedMet enc Tryz.prog Tryz.f3 (OpenSpec.ofChange Rows.corpusCarriesSpec) false w args)
   (Rows.corpusCarriesSpec.post enc Tryz.prog Tryz.f3 false true false false):=by
 refine returnsInHanded_of_change_and (C:=Tryz.checked) (X:=fun w _=>laidMetH Tryz.prog Rows.corpusCarriesRow.laid w) (fun _ _ _ hh h=>h.of_heap hh) Tryz.own started av Tryz.func3
  (ChangeSpec.witness_shaped (enc:=enc) (C:=Tryz.checked) (os:=os) (X:=fun w _=>laidMetH Tryz.prog Rows.corpusCarriesRow.laid w) false (World.laidAll Tryz.prog os Rows.corpusCarriesRow.laid) #[qn,qn,qn,qz,qz,qz,qz] 8 (World.laidAll_os _ _ _)
   (Is os _) av av av (JT os _)) ?_
 intro W base args ds gs before hval0 hW _ hsz0 hL _;have hsz:(DataW.weightsEach Tryz.prog (Tryz.f3.params.toList ++ Rows.corpusCarriesSpec.plain.varTypes Tryz.prog) (ds ++ gs)).all (·<=reachBytes)=true:=hsz0;clear hsz0;have hval:∀ (j:Nat) t v,Tryz.f3.params[j]?=some t->args[j]?=some v->Value.okWide Tryz.prog W .any base t v:=hval0;have hW':=hW;obtain ⟨p,q,hA0,hV,rfl,_,_⟩:=hW;have hA:DataW.TrodAll enc Tryz.prog W 0 (fun _=>true) true Tryz.f3.params.toList args.toList ds p:=hA0;rw [Tryz.params3] at hA hval hsz;obtain ⟨v0,vs0,d0,ds0,p0,q0,hargs0,rfl,rfl,h0,r0⟩:=trodAll_cons hA;obtain ⟨v1,vs1,d1,ds1,p1,q1,rfl,rfl,rfl,h1,r1⟩:=trodAll_cons r0;obtain ⟨v2,vs2,d2,ds2,p2,q2,rfl,rfl,rfl,h2,r2⟩:=trodAll_cons r1;obtain ⟨v3,vs3,d3,ds3,p3,q3,rfl,rfl,rfl,h3,r3⟩:=trodAll_cons r2;obtain ⟨v4,vs4,d4,ds4,p4,q4,rfl,rfl,rfl,h4,r4⟩:=trodAll_cons r3;obtain ⟨v5,vs5,d5,ds5,p5,q5,rfl,rfl,rfl,h5,r5⟩:=trodAll_cons r4;obtain ⟨v6,vs6,d6,ds6,p6,q6,rfl,rfl,rfl,h6,r6⟩:=trodAll_cons r5;obtain ⟨rfl,rfl,rfl⟩:=trodAll_nil r6;obtain rfl:args=#[v0,v1,v2,v3,v4,v5,v6]:=by cases args;simp_all
 obtain ⟨rfl,rfl⟩:=trodVars_none hV;obtain ⟨a3,rfl,rfl,rfl,w3⟩:=open_int Tryz.underlying3 (hval 3 3 v3 rfl rfl) h3;obtain ⟨a4,rfl,rfl,rfl,w4⟩:=open_int Tryz.underlying3 (hval 4 3 v4 rfl rfl) h4;obtain ⟨a5,rfl,rfl,rfl,w5⟩:=open_int Tryz.underlying3 (hval 5 3 v5 rfl rfl) h5;obtain ⟨a6,rfl,rfl,rfl,w6⟩:=open_int Tryz.underlying3 (hval 6 3 v6 rfl rfl) h6;have hlt:∀ x ∈ p0 ++ (p1 ++ (p2 ++ ([] ++ ([] ++ ([] ++ ([] ++ [])))))) ++ [],x.block<W.heap.size:=fun x hx=>by simpa using hW'.lt x hx
 have hlt0:∀ x ∈ p0,x.block<W.heap.size:=fun x hx=>hlt x (by simp [hx])
 have hlt1:∀ x ∈ p1,x.block<W.heap.size:=fun x hx=>hlt x (by simp [hx])
 have hlt2:∀ x ∈ p2,x.block<W.heap.size:=fun x hx=>hlt x (by simp [hx])
 obtain ⟨l,hl⟩:=wQ (hval 0 22 v0 rfl rfl) h0 hlt0 (fun elems spare he=>by
  have:=sized_slice hsz (j:=0) (t:=22) (e:=3) (elems:=elems) (spare:=spare) rfl j8 Tryz.underlying22;rw [Tryz.bytes3] at this;exact this)
 obtain ⟨k,hk⟩:=wQ (hval 1 22 v1 rfl rfl) h1 hlt1 (fun elems spare he=>by
  have:=sized_slice hsz (j:=1) (t:=22) (e:=3) (elems:=elems) (spare:=spare) rfl j8 Tryz.underlying22;rw [Tryz.bytes3] at this;exact this)
 obtain ⟨n,hn⟩:=wQ (hval 2 22 v2 rfl rfl) h2 hlt2 (fun elems spare he=>by
  have:=sized_slice hsz (j:=2) (t:=22) (e:=3) (elems:=elems) (spare:=spare) rfl j8 Tryz.underlying22;rw [Tryz.bytes3] at this;exact this)
 refine (nO hl hk hn (fun _ h=>h) (kG w3) (kG w4) (kG w5) (kG w6) (FO hL)).mono ?_;rintro e W' ⟨rfl,hx⟩;have k0:=Below.trod Tryz.laidOut av (of_decide_eq_true av) h0 hx hlt0;have k1:=Below.trod Tryz.laidOut av (of_decide_eq_true av) h1 hx hlt1;have k2:=Below.trod Tryz.laidOut av (of_decide_eq_true av) h2 hx hlt2;exact ⟨_,rfl,_,_,_,[],_,[],hW',trodAll_cons_mk (shut_bool Tryz.underlying4 _) trodAll_mk0,trodAll_cons_mk k0 (trodAll_cons_mk k1 (trodAll_cons_mk k2 (trodAll_cons_mk (shut_int Tryz.underlying3 w3) (trodAll_cons_mk (shut_int Tryz.underlying3 w4) (trodAll_cons_mk (shut_int Tryz.underlying3 w5) (trodAll_cons_mk (shut_int Tryz.underlying3 w6) trodAll_mk0)))))),rfl,hx.frame _,fun h=>by cases h⟩
theorem lO:Rows.CorpusCarriesSaid :=
 OpenClaim.holds_of_wide 3 Tryz.f3 rfl rfl rfl rfl rfl rfl rfl ⟨rfl,rfl,rfl,rfl,rfl⟩ rfl rfl rfl rfl rfl av Tryz.func3 av
  (of_decide_eq_true av) (by unfold Func.isWrapper;first | (rw [if_pos (by decide +kernel)];kernel_rfl) | (rw [if_neg (by decide +kernel)];exact ⟨rfl,rfl⟩))
  (fun os started H enc _=>kY os started H enc)
end Go.Proofs.YtkoeecdjijfjnaaGreatDoor
namespace Go.Proofs.YtkoeecdjijfjnaaGreatDoor
open Go
theorem corpusCarriesCard_holds:Rows.CorpusCarriesCardSaid :=
 Claim7.holds_tied_plain_at .later [] [.data,.data,.data,.sentinel,.sentinel] true (true,"65485bd235bdaafc0676d195bc5e2508990c8f65913d469d90cb90c29b3a0c3d") true
  lO (fun _ h=>by cases h) av (fun _ h=>by cases h) corpusCarries_row_tie rfl ⟨rfl,rfl⟩ av rfl
  (fun f fn hf hfn=>by
   obtain rfl:f=3:=Option.some.inj ((show Tryz.prog.funcNamed "refuter/refuterlaw33.CorpusCarries"=some 3 by kernel_rfl).symm.trans hf) |>.symm;obtain rfl:fn=Tryz.f3:=(Option.some.inj (Tryz.func3.symm.trans hfn)).symm
   exact ⟨av,fun j t ht=>by
    rw [Tryz.params3] at ht;have hm:t ∈ [22,22,22,3,3,3,3]:=by simpa using Array.mem_of_getElem? ht
    have hall:([22,22,22,3,3,3,3].all fun u=>!Tryz.prog.wantsStandIn u)=true:=av;exact (show Tryz.prog.wantsStandIn t=false by simpa using List.all_eq_true.1 hall t hm)⟩)
  av
#print axioms corpusCarriesCard_holds
end Go.Proofs.YtkoeecdjijfjnaaGreatDoor
