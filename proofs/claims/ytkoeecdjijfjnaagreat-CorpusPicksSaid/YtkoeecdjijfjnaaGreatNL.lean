/- Contracts of functions. Conditions: none. -/
import Derived.Test.YtkoeecdjijfjnaaGreatNE
import Derived.Test.YtkoeecdjijfjnaaGreatSJ
set_option maxRecDepth 100000
set_option maxHeartbeats 8000000
namespace Go.Proofs.YtkoeecdjijfjnaaGreat
open Go.RowKit
section
variable {w:World}{P P':Nat->Prop}{v vb:Value}{l:List Int}{n V:Int}
def aQs (m n:Int)(w:World)(e:Ending)(w':World):Prop :=
 ∃ O r A c A' c',e=.returned (.tuple #[.slice A (List.length O) c,.slice A' (List.length r) c'])∧aU w' (fun b=>w.heap.size<=b) (.slice A O.length c) O∧DgD O∧O.length<=100∧aU w' (fun b=>w.heap.size<=b) (.slice A' r.length c') r∧IsD (m % n) r∧Ext w w'
structure DV (w:World)(go:Nat)(l:List Int)(n:Int)(j:Nat)(r:List Int)(A9:Option Addr)(c9:Nat)(W:World):Prop where
 out:∃ O:List Int,Blk W go 3 (iH O)∧O.length=l.length∧DgD O
 rest:aU W (fun b=>go<b) (.slice A9 r.length c9) r
 isd:IsD (vlD (l.drop j) % n) r
 ext:Ext w W
 lt:w.heap.size<=go∧go<W.heap.size
theorem jZ.isD {w':World}{e:Ending}(h:jZ false l P w e w')(hD:DgD l):∃ l' A c,e=.returned (.agg #[.bool false,.slice A (List.length l') c])∧aU w' P (.slice A l'.length c) l'∧IsD (vlD l) l'∧Ext w w':=by
 obtain ⟨m,A,c,hm,rfl,hI,hd,hx'⟩:=h;have hl:(l.take m).length=m:=by rw [List.length_take];omega
 exact ⟨l.take m,A,c,by rw [hl];rfl,by rw [hl];exact hI,hd hD,hx'⟩
theorem eJ {W W':World}{g:Nat}{c0 c1:Value}(B:Blk W' g 223 #[c0,c1])(x:Ext W W')(hg:W.heap.size<=g)(A:Option Addr)(k c:Nat):Blk (W'.setCells g 0 [.bool false,.slice A k c]) g 223 #[.bool false,.slice A k c]∧Ext W (W'.setCells g 0 [.bool false,.slice A k c])∧(W'.setCells g 0 [.bool false,.slice A k c]).heap.size=W'.heap.size :=
 ⟨aJ [.bool false,.slice A k c] 0 B Y,((Fr.of_ext (M:=fun _=>False) x).setCells _ 0 (.inr hg)).ext,by simp [World.setCells,World.setCell]⟩
theorem aCl (a X n:Int):(a+10000*(X % n)) % n=(a+10000*X) % n:=by
 rw [Int.add_emod,Int.mul_emod,Int.emod_emod_of_dvd _ (Int.dvd_refl n),<- Int.mul_emod,<- Int.add_emod]
noncomputable abbrev aL0:Code:=.seq (lG 8) (.seq (lG 9) (.seq (lG 10) (.seq (.block 2 (.loop aP6)) (.seq (lG 16) (.seq (lG 17) (lG 18))))))
theorem aHo {a:Act}{W:World}{Q:Exit->Act->World->Prop}{A A9 B:Option Addr}{c c9 c' go j:Nat}{r:List Int}(sz:a.tmps.size=Tryz.f209.ntmps)(e0:Ev a (.tmp 0)=.slice A l.length c)(e1:Ev a (.tmp 1)=.slice B 1 c')(e6:Ev a (.tmp 6)=.slice (some ⟨go,0,none⟩) l.length l.length)(e9:Ev a (.tmp 9)=.slice A9 r.length c9)(e10:Ev a (.tmp 10)=↑(j:Int))
  (hl:aU w P (.slice A l.length c) l)(hD:DgD l)(_:l.length<=100)(hb:aU w P' (.slice B 1 c') [n])(hn:1<=n∧n<=9999)(hj:j<l.length)(h:DV w go l n (j+1) r A9 c9 W)
  (hQ:∀ a' W' r' A' c',Ag [0,1,6,10] a a'->Ev a' (.tmp 9)=.slice A' (List.length r') c'->DV w go l n j r' A' c' W'->Q .normal a' W'):Code.wp Tryz.prog aL0 Q a W:=by
 obtain ⟨⟨O,hO,hOl,hOD⟩,hrest,hisd,hext,hlt,hgo⟩:=h;have hlW:=hl.ext hext;have hbW:=hb.ext hext;obtain ⟨b,off,c2,he,-,-,-,-,hcell⟩:=hlW.at_ hj;injection he with q1 q2 q3;subst q1 q3;have hX:=Int.emod_nonneg (vlD (l.drop (j+1))) (show n ≠ 0 by omega);have hX2:=Int.emod_lt_of_pos (vlD (l.drop (j+1))) (show 0<n by omega);have hai:=hD.at_ j;have hst:=fZ l j;have hem:=aCl (l.getD j 0) (vlD (l.drop (j+1))) n;rw [<- hst] at hem;generalize hX0:vlD (l.drop (j+1)) % n=X at *;generalize l.getD j 0=ai at *;have hrl:=hisd.len_le (k:=2) U;have hjl:(j:Int)<l.length:=by omega
 refine wp_seq (rW ?_)
 iterate 4 refine lv ?_
 refine lv ?_;refine lv ?_;obtain ⟨A9',c9',hr1,hr2,hr3,hr4,hr5⟩:=hrest;injection hr1 with q1 q2 q3;subst q1 q3;refine la Tryz.underlying22 Tryz.info3 (aDw W ai) (hr5.keep (Q:=fun _=>True) (aB.of_ext ((Ext.refl W).alloc' _)) (fun _ _=>trivial)) U U Y af ?_;intro v1 w1 ho1 hf1 _;have x1:=Fr.new_ext ((Fr.of_ext ((Ext.refl W).alloc' _)).trans hf1) (fun b hb=>(aDw W ai).block_ge hb.symm);have hD1:DgD (ai :: r):=DgD.app (a:=[ai]) (.one hai.1 hai.2) hisd.1;obtain ⟨A1,c1,rfl,hI1⟩:=DgD.ints hD1 (ho1.len_cast ab Y) ab;have hV1:vlD (ai :: r)=ai+10000*X:=by rw [<- hisd.2.1];rfl
 clear ho1 hf1;refine lc Tryz.func195 (dM false hI1) ?_;intro e w2 hR;obtain ⟨l1,A2,c2,rfl,hI2,hd2,x2⟩:=hR.isD hD1;refine ⟨_,rfl,?_⟩;rw [hV1] at hd2;clear hV1 hI1 hD1;have B3:=Blk.new w2 223 #[.bool false,.slice none 0 0];have x3:Ext w2 (w2.alloc (.cells #[.bool false,.slice none 0 0] 223)):=(Ext.refl w2).alloc' _;refine lv ?_;generalize w2.alloc (.cells #[.bool false,.slice none 0 0] 223)=w3 at *;refine ls (w1:=w3.setCells w2.heap.size 0 [.bool false,.slice A2 l1.length c2]) ?_ rfl rfl (by simp [execOp,go_sem,B3.cell,B3.frozen,sz,World.setCells]);obtain ⟨B4,x4,s4⟩:=eJ B3 x3 (Nat.le_refl _) A2 l1.length c2;generalize w3.setCells w2.heap.size 0 [.bool false,.slice A2 l1.length c2]=w4 at *;clear B3 x3;refine lE a [0,1,6,10] 11 ?_;intro a1 u1 e11
 replace sz:=u1.sz.trans sz
 replace e0:=u1.get 0 e0
 replace e1:=u1.get 1 e1
 replace e6:=u1.get 6 e6
 replace e10:=u1.get 10 e10
 have X4:=(x1.trans' x2).trans' x4
 replace hI2:=hI2.carry (Q:=fun b=>go<b) (aB.of_ext x4) (fun b _ hb=>by omega)
 clear x1 x2;have c4:=B4.cell;refine wp_seq (rW ?_)
 iterate 3 refine lv ?_
 refine lE a1 [0,1,6,10] 9 ?_;intro a2 u2 e9
 replace sz:=u2.sz.trans sz
 replace e0:=u2.get 0 e0
 replace e1:=u2.get 1 e1
 replace e6:=u2.get 6 e6
 replace e10:=u2.get 10 e10
 clear c4;have hV0:0<=ai+10000*X:=by omega
 have hVn:ai+10000*X<10000*n:=U
 generalize hV:ai+10000*X=V at *;refine wp_seq (rW ?_)
 iterate 2 refine lv ?_
 refine lc Tryz.func221 (aEv hI2 hd2 hn hVn (hbW.ext X4)) ?_;rintro e w5 ⟨lo,rfl,h0,h1,x5⟩;refine ⟨_,rfl,?_⟩
 iterate 5 refine lv ?_
 refine lE2 a2 [0,1,6,9,10] 12 13 ?_;intro a3 u3 e12 e13
 replace sz:=u3.sz.trans sz
 replace e0:=u3.get 0 e0
 replace e1:=u3.get 1 e1
 replace e6:=u3.get 6 e6
 replace e9:=u3.get 9 e9
 replace e10:=u3.get 10 e10
 refine wp_seq (aP5 sz e1 e9 e12 e13 (hI2.ext x5) hd2 hn hVn (hbW.ext (X4.trans' x5)) h0 h1 ?_);clear e12 e13;intro a4 w6 u4 e12 x6
 replace u4:Ag [0,1,6,9,10] a3 a4:=u4.mono rfl
 replace sz:=u4.sz.trans sz
 replace e0:=u4.get 0 e0
 replace e1:=u4.get 1 e1
 replace e6:=u4.get 6 e6
 replace e9:=u4.get 9 e9
 replace e10:=u4.get 10 e10
 have hbd:IsD n [n]:=⟨.one U U,fv,ab⟩;have hq2:V / n<10000:=Int.ediv_lt_of_lt_mul U U;have hq0:0<=V / n:=Int.ediv_nonneg hV0 U;have hdm:=Int.emod_add_mul_ediv V n;have hm0:=Int.emod_nonneg V (show n ≠ 0 by omega);have X6:=X4.trans' (x5.trans' x6);refine wp_seq (rW ?_)
 iterate 3 refine lv ?_
 refine lc Tryz.func222 (rI (k:=V / n) (hbW.ext X6) hbd U ⟨hq0,hq2⟩) ?_;rintro e w7 ⟨l7,A7,c7,rfl,hI7,hd7,x7⟩;refine ⟨_,rfl,?_⟩;have hfew1:=hd2.len_le (k:=100) U;refine lc Tryz.func211 (wH (hI2.ext ((x5.trans' x6).trans' x7)) hI7 hd2.1 hd7.1 U (by rw [hd7.2.1,hd2.2.1];omega)) ?_;rintro e w8 ⟨l8,A8,c8,rfl,hI8,⟨hD8,hv8⟩,x8⟩;refine ⟨_,rfl,?_⟩;rw [hd7.2.1,hd2.2.1] at hv8;refine lc Tryz.func195 (dM false hI8) ?_;intro e w9 hR;obtain ⟨l9,A9,c9,rfl,hI9,hd9,x9⟩:=hR.isD hD8;refine ⟨_,rfl,?_⟩;rw [hv8,show V - n*(V / n)=V % n by omega] at hd9;have B10:=Blk.new w9 223 #[.bool false,.slice none 0 0];have x10:Ext w9 (w9.alloc (.cells #[.bool false,.slice none 0 0] 223)):=(Ext.refl w9).alloc' _;have s10:(w9.alloc (.cells #[.bool false,.slice none 0 0] 223)).heap.size=w9.heap.size+1:=by simp
 refine lv ?_;generalize w9.alloc (.cells #[.bool false,.slice none 0 0] 223)=w10 at *;refine ls (w1:=w10.setCells w9.heap.size 0 [.bool false,.slice A9 l9.length c9]) ?_ rfl rfl (by simp [execOp,go_sem,B10.cell,B10.frozen,sz,World.setCells]);obtain ⟨B11,x11,s11⟩:=eJ B10 x10 (Nat.le_refl _) A9 l9.length c9;generalize w10.setCells w9.heap.size 0 [.bool false,.slice A9 l9.length c9]=w11 at *;clear B10 x10;refine lE2 a4 [0,1,6,10,12] 12 15 ?_;clear e12;intro a5 u5 e12 e15
 replace sz:=u5.sz.trans sz
 replace e0:=u5.get 0 e0
 replace e1:=u5.get 1 e1
 replace e6:=u5.get 6 e6
 replace e10:=u5.get 10 e10
 have X11:=X6.trans' (x7.trans' (x8.trans' (x9.trans' x11)));have t6:=X6.size;have t7:=x7.size;have t8:=x8.size;have t9:=x9.size
 replace hI9:=hI9.carry (Q:=fun b=>go<b) (aB.of_ext x11) (fun b _ hb=>by omega)
 have hO11:=hO.ext X11;have hoc:w11.cell? ⟨go,j,none⟩=some (.int .i64 (O.getD j 0)):=hO11.cell' _ (fS U);have hfz:=hO11.frozen;refine wp_seq (rW ?_)
 iterate 4 refine lv ?_
 refine ls (w1:=w11.setCell ⟨go,j,none⟩ (.int .i64 (V / n))) ?_ rfl rfl (by simp [execOp,go_sem, *];try rfl);refine lE a5 [0,1,6,10] 15 ?_;intro a6 u6 f15
 replace sz:=u6.sz.trans sz
 replace e0:=u6.get 0 e0
 replace e1:=u6.get 1 e1
 replace e6:=u6.get 6 e6
 replace e10:=u6.get 10 e10
 have hO12:=hO11.set_ j (.int .i64 (V / n));rw [lY] at hO12;have B12:=B11.far (p:=⟨go,j,none⟩) (by show _ ≠ go;omega) (.int .i64 (V / n));have hI12:=hI9.carry (Q:=fun b=>go<b) (aB.set (w:=w11) (p:=⟨go,j,none⟩) (fun _ _ _=>rfl) (.int .i64 (V / n)) Y) (fun _ _ h=>h);have X12:=(hext.trans' X11).setCell' (p:=⟨go,j,none⟩) (by show w.heap.size<=go;omega) (.int .i64 (V / n));have s12:(w11.setCell ⟨go,j,none⟩ (.int .i64 (V / n))).heap.size=w11.heap.size:=by simp [World.setCell]
 clear hoc hfz;generalize w11.setCell ⟨go,j,none⟩ (.int .i64 (V / n))=w12 at *;have c12:=B12.cell;refine rW ?_
 iterate 3 refine lv ?_
 refine lE a6 [0,1,6,10] 9 ?_;intro a7 u7 g9;exact hQ a7 w12 l9 A9 c9 (((((((u1.trans (u2.mono rfl)).trans (u3.mono rfl)).trans (u4.mono rfl)).trans (u5.mono rfl)).trans u6).trans u7)) g9 ⟨⟨O.set j (V / n),hO12,by simpa using hOl,hOD.set j hq0 hq2⟩,hI12,by rw [<- hem];exact hd9,X12,U,U⟩
theorem zG {m:Int}(hl:aU w P v l)(hm:IsD m l)(hm2:m<10000 ^ 100)(hb:aU w P' vb [n])(hn:1<=n∧n<=9999):Calls Tryz.prog 209 #[v,vb] w (aQs m n w):=by
 refine cI Tryz.func209 aXo rfl Y (fun a Q sz df ea hQ=>?_);have hfew:=hm.few hm2;obtain ⟨A,c,rfl,hlc,hlc2⟩:=hl.form;obtain ⟨B,c',rfl,-,-⟩:=hb.form;have e0:=ea 0 (.slice A l.length c) rfl;have e1:=ea 1 (.slice B 1 c') rfl;refine wp_seq (rW ?_)
 iterate 2 refine lv ?_
 refine lN a [0,1] ?_;intro a1 u1
 replace sz:=u1.sz.trans sz
 replace df:=u1.df.trans df
 replace e0:=u1.get 0 e0
 replace e1:=u1.get 1 e1
 have hmk:=wI l.length U w;refine wp_seq (rW ?_)
 iterate 2 refine lv ?_
 refine lv (w1:=w.alloc (.cells (iH (List.replicate l.length 0)) 3)) (v:=.slice (some ⟨w.heap.size,0,none⟩) l.length l.length) ?_ rfl rfl (by simp [execOp,go_sem, *]);refine lv ?_;refine lE a1 [0,1] 6 ?_;intro a2 u2 e6
 replace sz:=u2.sz.trans sz
 replace df:=u2.df.trans df
 replace e0:=u2.get 0 e0
 replace e1:=u2.get 1 e1
 have hbo:=Blk.new w 3 (iH (List.replicate l.length 0));have hx1:Ext w (w.alloc (.cells (iH (List.replicate l.length 0)) 3)):=(Ext.refl w).alloc' _;have hs1:(w.alloc (.cells (iH (List.replicate l.length 0)) 3)).heap.size=w.heap.size+1:=by simp
 clear hmk;generalize w.alloc (.cells (iH (List.replicate l.length 0)) 3)=w1 at *;refine wp_seq (rW ?_)
 iterate 11 refine lv ?_
 refine lE a2 [0,1,6] 7 ?_;intro a3 u3 e7
 replace sz:=u3.sz.trans sz
 replace df:=u3.df.trans df
 replace e0:=u3.get 0 e0
 replace e1:=u3.get 1 e1
 replace e6:=u3.get 6 e6
 replace e7:=e7.trans (show _=Value.int .i64 (l.length:Int) by congr 1;split <;> omega)
 obtain ⟨A0,c0,hs0,hn0⟩:∃ A0 c0,Value.slice (if c=l.length then A else A.map (fun x=>x.add l.length)) 0 (c - l.length)=.slice A0 0 c0∧aU w1 (fun b=>w.heap.size<b) (.slice A0 0 c0) [] :=
  ⟨_,_,rfl,_,_,rfl,Nat.zero_le _,⟨Y,U⟩,Y,rfl,fun h=>absurd h Y⟩
 refine wp_seq (rW ?_)
 iterate 2 refine lv ?_
 refine lv (w1:=w1) (v:=.slice A0 0 c0) ?_ rfl rfl (by rw [<- hs0];simp [execOp,go_sem,sz]);clear hs0;refine lc Tryz.func195 (dM false hn0) ?_;intro e w2 hR;obtain ⟨l1,A1,c1,rfl,hI1,hd1,x2⟩:=hR.isD DgD.nil;refine ⟨_,rfl,?_⟩;have B3:=Blk.new w2 223 #[.bool false,.slice none 0 0];have x3:Ext w2 (w2.alloc (.cells #[.bool false,.slice none 0 0] 223)):=(Ext.refl w2).alloc' _;have s3:(w2.alloc (.cells #[.bool false,.slice none 0 0] 223)).heap.size=w2.heap.size+1:=by simp
 refine lv ?_;generalize w2.alloc (.cells #[.bool false,.slice none 0 0] 223)=w3 at *;refine ls (w1:=w3.setCells w2.heap.size 0 [.bool false,.slice A1 l1.length c1]) ?_ rfl rfl (by simp [execOp,go_sem,B3.cell,B3.frozen,sz,World.setCells]);obtain ⟨B4,x4,s4⟩:=eJ B3 x3 (Nat.le_refl _) A1 l1.length c1;generalize w3.setCells w2.heap.size 0 [.bool false,.slice A1 l1.length c1]=w4 at *;clear B3 x3;refine lE2 a3 [0,1,6] 7 8 ?_;clear e7;intro a4 u4 e7 e8
 replace sz:=u4.sz.trans sz
 replace df:=u4.df.trans df
 replace e0:=u4.get 0 e0
 replace e1:=u4.get 1 e1
 replace e6:=u4.get 6 e6
 have hbo4:=(hbo.ext x2).ext x4;have X4:=hx1.trans' (x2.trans' x4);have s2:=x2.size;have c4:=B4.cell
 replace hI1:=hI1.carry (Q:=fun b=>w.heap.size<b) (aB.of_ext x4) (fun _ _ h=>h)
 refine wp_seq (rW ?_)
 iterate 3 refine lv ?_
 refine lE2 a4 [0,1,6] 7 9 ?_;clear e7;intro a5 u5 e7 e9
 replace sz:=u5.sz.trans sz
 replace df:=u5.df.trans df
 replace e0:=u5.get 0 e0
 replace e1:=u5.get 1 e1
 replace e6:=u5.get 6 e6
 have dv0:DV w w.heap.size l n l.length l1 A1 c1 w4:=⟨⟨_,hbo4,Y,fun x hx=>by simp at hx;omega⟩,hI1,by simpa [vlD] using hd1,X4,U,U⟩;clear hbo hbo4 X4 hx1 x2 x4 B4 c4 hI1 hd1 u1 u2 u3 u4;refine wp_seq (wp_seq (rW ?_))
 iterate 3 refine lv ?_
 refine lE2 a5 [0,1,6] 9 10 ?_;clear e9 e7;intro a6 u6 e9 e10
 replace sz:=u6.sz.trans sz
 replace df:=u6.df.trans df
 replace e0:=u6.get 0 e0
 replace e1:=u6.get 1 e1
 replace e6:=u6.get 6 e6
 refine wp_block (wp_loop (fun a' W=>∃ (j:Nat) (r:List Int) (A9:Option Addr) (c9:Nat),Ag [0,1,6] a6 a'∧Ev a' (.tmp 9)=.slice A9 r.length c9∧Ev a' (.tmp 10)=.int .i64 ((j:Int) - 1)∧j<=l.length∧DV w w.heap.size l n j r A9 c9 W) (fun a' _=>(intOf (Ev a' (.tmp 10))+1).toNat) ⟨l.length,l1,A1,c1,.rf,e9,e10,Nat.le_refl _,dv0⟩ ?_);clear dv0 e9 e10;rintro a7 W ⟨j,r,A9,c9,u7,e9,e10,hj,h⟩
 replace sz:=u7.sz.trans sz
 replace df:=u7.df.trans df
 replace e0:=u7.get 0 e0
 replace e1:=u7.get 1 e1
 replace e6:=u7.get 6 e6
 refine wp_seq (wp_seq (rW ?_))
 iterate 2 refine lv ?_
 refine lE a7 [0,1,6,9,10] 38 ?_;intro a8 u8 e38;have m10:=e10
 replace sz:=u8.sz.trans sz
 replace df:=u8.df.trans df
 replace e0:=u8.get 0 e0
 replace e1:=u8.get 1 e1
 replace e6:=u8.get 6 e6
 replace e9:=u8.get 9 e9
 replace e10:=u8.get 10 e10
 by_cases h0:j=0
 ·subst h0
  refine wp_cond_false (e38.trans Y) (wp_exit (wp_seq (rW ?_)))
  iterate 4 refine lv ?_
  refine lE2 a8 [] 4 5 ?_;intro a9 u9 e4 e5;obtain ⟨⟨O,hO,hOl,hOD⟩,hrest,hisd,hext,-,-⟩:=h;rw [List.drop_zero,hm.2.1] at hisd;have hO':=aU.of_blk hO (fun x hx=>by have:=hOD x hx;unfold I64;omega) U;rw [<- hOl] at e4;exact wp_ret (hQ _ _ _ (u9.df.trans df) (by simp [results,Tryz.results209,go_sem,evT e4,evT e5];try rfl) ⟨O,r,_,_,_,_,rfl,hO'.carry (aB.of_ext (.refl _)) (fun b _ hb=>by omega),hOD,U,hrest.carry (aB.of_ext (.refl _)) (fun b _ hb=>by omega),hisd,hext⟩)
 ·obtain ⟨k,rfl⟩:∃ k,j=k+1:=⟨j - 1,U⟩
  refine wp_cond_true (e38.trans ab) (wp_skip (wp_seq (wp_block ?_)));have e10':Ev a8 (.tmp 10)=↑(k:Int):=e10.trans gn;clear e10;refine aHo sz e0 e1 e6 e9 e10' hl hm.1 hfew hb hn U h ?_;intro a9 W9 r9 A9' c9' u9 e9' h9;have g10:=u9.get 10 e10'
  replace sz:=u9.sz.trans sz
  refine rW ?_
  iterate 3 refine lv ?_
  refine lE2 a9 [0,1,6] 9 10 ?_;intro a10 u10 f9 f10;refine ⟨⟨k,r9,A9',c9',((u7.trans (u8.mono rfl)).trans (u9.mono rfl)).trans u10,f9,f10,U,h9⟩,?_⟩;rw [f10,m10];simp only [intOf];omega
end
section
variable {ops:Array Oper}{K:Act->World->Prop}{S:World->Prop}{bf:Nat->Bool}{n:Nat}{is:List Nat}{a:Act}{w w1 w2 w3 w4:World}{oi oj:Oper}
end
theorem aQe (w:World)(t:TypeId)(c1 c2 c3 c4:Array Value):Blk ((((w.alloc (.cells c1 t)).alloc (.cells c2 t)).alloc (.cells c3 t)).alloc (.cells c4 t)) w.heap.size t c1∧Blk ((((w.alloc (.cells c1 t)).alloc (.cells c2 t)).alloc (.cells c3 t)).alloc (.cells c4 t)) (w.heap.size+1) t c2∧Blk ((((w.alloc (.cells c1 t)).alloc (.cells c2 t)).alloc (.cells c3 t)).alloc (.cells c4 t)) (w.heap.size+1+1) t c3∧Blk ((((w.alloc (.cells c1 t)).alloc (.cells c2 t)).alloc (.cells c3 t)).alloc (.cells c4 t)) (w.heap.size+1+1+1) t c4∧Ext w ((((w.alloc (.cells c1 t)).alloc (.cells c2 t)).alloc (.cells c3 t)).alloc (.cells c4 t))∧((((w.alloc (.cells c1 t)).alloc (.cells c2 t)).alloc (.cells c3 t)).alloc (.cells c4 t)).heap.size=w.heap.size+4 :=
 ⟨(((Blk.new w t c1).alloc _).alloc _).alloc _,((Blk.new' _ t c2 Y).alloc _).alloc _,(Blk.new' _ t c3 Y).alloc _,Blk.new' _ t c4 Y,((((Ext.refl w).alloc' _).alloc' _).alloc' _).alloc' _,Y⟩
section
variable {w:World}{P P':Nat->Prop}{u u':Value}{m n:Int}
noncomputable def aIe:=RG Tryz.f191
noncomputable abbrev aWz:Code:=.seq (aIe 0) (.seq (aIe 1) (.seq (aIe 2) (.seq (aIe 3) (.seq (.seq (aIe 4) (.cond (.tmp 35) (.seq (aIe 5) (.seq (aIe 6) (aIe 7))) .skip)) (.seq (aIe 8) .ret)))))
theorem aXu:Tryz.f191.body=some aWz:=aa
theorem lE4 {ops:Array Oper}{Q:Exit->Act->World->Prop}{a:Act}{w:World}{v v' v2 v3:Value}(a0:Act)(L:List Nat)(d d' d2 d3:Nat)(h:∀ a',Ag L a0 a'->Ev a' (.tmp d)=v->Ev a' (.tmp d')=v'->Ev a' (.tmp d2)=v2->Ev a' (.tmp d3)=v3->Q .normal a' w)(hA:Ag L a0 a:=by (repeat refine .put ?_ rfl);exact .rf)(he:Ev a (.tmp d)=v:=by simp [*];rfl)(he':Ev a (.tmp d')=v':=by simp [*];rfl)(he2:Ev a (.tmp d2)=v2:=by simp [*];rfl)(he3:Ev a (.tmp d3)=v3:=by simp [*];rfl):WL ops Q [] a w:=cJ (h a hA he he' he2 he3)
def aQt (m n:Int)(w:World)(e:Ending)(w':World):Prop:=∃ A k c r,e=.returned (.tuple #[.agg #[.bool false,.slice A k c],r])∧NI w' (New (fun _=>False) w.heap.size) r (m % n)∧Ext w w'
theorem aEu (h1:NI w P u m)(h2:NI w P' u' n)(h0:0<=m)(hm:m<10000 ^ 100)(hn:1<=n∧n<=9999):Calls Tryz.prog 191 #[u,u'] w (aQt m n w):=by
 refine cI Tryz.func191 aXu rfl Y (fun a Q sz df ea hQ=>?_);obtain ⟨l,A,c,rfl,hl,hd⟩:=h1.pos h0;obtain ⟨l',A',c',rfl,hl',hd'⟩:=h2.pos U;have hbd:IsD n [n]:=⟨.one U U,fv,ab⟩;obtain rfl:l'=[n]:=hd'.inj hbd;obtain ⟨b1,b2,b3,b4,x0,s0⟩:=aQe w 223 #[.bool false,.slice A l.length c] #[.bool false,.slice A' [n].length c'] #[.bool false,.slice none 0 0] #[.bool false,.slice none 0 0];refine wp_seq (rW ?_)
 iterate 4 refine lv ?_
 generalize (((w.alloc (.cells #[.bool false,.slice A l.length c] 223)).alloc (.cells #[.bool false,.slice A' [n].length c'] 223)).alloc (.cells #[.bool false,.slice none 0 0] 223)).alloc (.cells #[.bool false,.slice none 0 0] 223)=W at *;refine lE4 a [] 2 3 4 5 ?_;intro a1 u1 e2 e3 e4 e5
 replace sz:=u1.sz.trans sz
 replace df:=u1.df.trans df
 have hlW:=hl.ext x0;have hl'W:=hl'.ext x0;have c1:=b1.cell;have c2:=b2.cell;refine wp_seq (rW ?_)
 iterate 4 refine lv ?_
 refine lc Tryz.func209 (zG hlW hd hm hl'W hn) ?_;rintro e w2 ⟨O,r,A1,k1,A2,k2,rfl,hO,hOD,hOl,hr,hrd,x2⟩;refine ⟨_,rfl,?_⟩
 iterate 5 refine lv ?_
 refine lE2 a1 [2,3,4,5] 6 7 ?_;intro a2 u2 e6 e7
 replace sz:=u2.sz.trans sz
 replace df:=u2.df.trans df
 replace e2:=u2.get 2 e2
 replace e3:=u2.get 3 e3
 replace e4:=u2.get 4 e4
 replace e5:=u2.get 5 e5
 clear c1 c2;have c1:=(b1.ext x2).cell;have c2:=(b2.ext x2).cell;refine wp_seq (rW ?_)
 iterate 6 refine lv ?_
 refine lc Tryz.func195 (dM false hO) ?_;intro e w3 hR;obtain ⟨l3,A3,k3,rfl,hI3,hd3,x3⟩:=hR.isD hOD;refine ⟨_,rfl,?_⟩;clear c1 c2;have B4:=Blk.new w3 223 #[.bool false,.slice none 0 0];have x4:Ext w3 (w3.alloc (.cells #[.bool false,.slice none 0 0] 223)):=(Ext.refl w3).alloc' _;have s4:(w3.alloc (.cells #[.bool false,.slice none 0 0] 223)).heap.size=w3.heap.size+1:=by simp
 refine lv ?_;generalize w3.alloc (.cells #[.bool false,.slice none 0 0] 223)=w4 at *;refine ls (w1:=w4.setCells w3.heap.size 0 [.bool false,.slice A3 l3.length k3]) ?_ rfl rfl (by simp [execOp,go_sem,B4.cell,B4.frozen,sz,World.setCells]);obtain ⟨B5,x5,s5⟩:=eJ B4 x4 (Nat.le_refl _) A3 l3.length k3;generalize w4.setCells w3.heap.size 0 [.bool false,.slice A3 l3.length k3]=w5 at *;clear B4 x4;refine lE2 a2 [2,3,4,5] 7 8 ?_;clear e7;intro a3 u3 e7 e8
 replace sz:=u3.sz.trans sz
 replace df:=u3.df.trans df
 replace e2:=u3.get 2 e2
 replace e3:=u3.get 3 e3
 replace e4:=u3.get 4 e4
 replace e5:=u3.get 5 e5
 have X5:=x3.trans' x5;refine wp_seq (rW ?_);refine lv ?_;refine lc Tryz.func195 (dM false (hr.ext X5)) ?_;intro e w6 hR;obtain ⟨l6,A6,k6,rfl,hI6,hd6,x6⟩:=hR.isD hrd.1;refine ⟨_,rfl,?_⟩;rw [hrd.2.1] at hd6;have B5':=B5.ext x6;have B7:=Blk.new w6 223 #[.bool false,.slice none 0 0];have x7:Ext w6 (w6.alloc (.cells #[.bool false,.slice none 0 0] 223)):=(Ext.refl w6).alloc' _;have s7:(w6.alloc (.cells #[.bool false,.slice none 0 0] 223)).heap.size=w6.heap.size+1:=by simp
 refine lv ?_;generalize w6.alloc (.cells #[.bool false,.slice none 0 0] 223)=w7 at *;refine ls (w1:=w7.setCells w6.heap.size 0 [.bool false,.slice A6 l6.length k6]) ?_ rfl rfl (by simp [execOp,go_sem,B7.cell,B7.frozen,sz,World.setCells]);obtain ⟨B8,x8,s8⟩:=eJ B7 x7 (Nat.le_refl _) A6 l6.length k6;generalize w7.setCells w6.heap.size 0 [.bool false,.slice A6 l6.length k6]=w8 at *;clear B7 x7;refine lE2 a3 [2,3,4,5] 8 9 ?_;clear e8;intro a4 u4 e8 e9
 replace sz:=u4.sz.trans sz
 replace df:=u4.df.trans df
 replace e2:=u4.get 2 e2
 replace e3:=u4.get 3 e3
 replace e4:=u4.get 4 e4
 replace e5:=u4.get 5 e5
 have X8:=x2.trans' (X5.trans' (x6.trans' x8));have c1:=(b1.ext X8).cell;have c2:=(b2.ext X8).cell;refine wp_seq (wp_seq (rW ?_))
 iterate 3 refine lv ?_
 iterate 4 refine ln ?_
 refine lv ?_;refine lE a4 [2,3,4,5,8,9] 35 ?_;intro a5 u5 e35
 replace sz:=u5.sz.trans sz
 replace df:=u5.df.trans df
 replace e2:=u5.get 2 e2
 replace e3:=u5.get 3 e3
 replace e4:=u5.get 4 e4
 replace e5:=u5.get 5 e5
 replace e8:=u5.get 8 e8
 replace e9:=u5.get 9 e9
 refine wp_cond_false (e35.trans Y) (wp_skip (wp_seq ?_));clear c1 c2;have t2:=x2.size;have t3:=x3.size;have t6:=x6.size;have hx0:Ext w8 w8.drew:=(Ext.refl w8).drew';have B5d:=(B5'.ext x8).ext hx0;have B8d:=B8.ext hx0;have Xd:=X8.trans' hx0;have b3d:=b3.ext Xd;have b4d:=b4.ext Xd;have hId:=hI6.carry (Q:=fun b=>W.heap.size<=b) (aB.of_ext (x8.trans' hx0)) (fun _ _ h=>h);have hXw:=x0.trans' Xd;have hS:w8.drew.cell? ⟨w3.heap.size,0,none⟩=some (.bool false)∧w8.drew.cell? ⟨w3.heap.size,1,none⟩=some (.slice A3 l3.length k3)∧w8.drew.cell? ⟨w6.heap.size,0,none⟩=some (.bool false)∧w8.drew.cell? ⟨w6.heap.size,1,none⟩=some (.slice A6 l6.length k6):=⟨B5d.cell' 0 rfl,B5d.cell' 1 rfl,B8d.cell' 0 rfl,B8d.cell' 1 rfl⟩;refine rD (fun w'=>w'.cell? ⟨w3.heap.size,0,none⟩=some (.bool false)∧w'.cell? ⟨w3.heap.size,1,none⟩=some (.slice A3 l3.length k3)∧w'.cell? ⟨w6.heap.size,0,none⟩=some (.bool false)∧w'.cell? ⟨w6.heap.size,1,none⟩=some (.slice A6 l6.length k6)) (fun q=>q != 3) 4 ?_;clear x2 x3 X5 x6 x8 X8 hx0 B5' B5 B8 b1 b2 b3 b4 hI6 hI3 hO hr hlW hl'W x0 Xd;generalize w8.drew=w9 at *;refine dt 2 [0,1] ?_
 iterate 2 refine tv ?_
 refine t_e ?_
 have fin:∀ (a6:Act) (w':World),Ag [4,5] a5 a6->Blk w' (w.heap.size+1+1) 223 #[.bool false,.slice A3 l3.length k3]->Blk w' (w.heap.size+1+1+1) 223 #[.bool false,.slice A6 l6.length k6]->Ext w w'->aU w' (fun b=>W.heap.size<=b) (.slice A6 l6.length k6) l6->Code.wp Tryz.prog .ret Q a6 w':=by
  intro a6 w' u6 B4' B5' hE hI;have f4:=u6.get 4 e4;have f5:=u6.get 5 e5;have hb4:=B4'.cell;have hb5:=B5'.cell;exact wp_ret (hQ _ _ _ (u6.df.trans df) (by simp [results,Tryz.results191,go_sem,evT f4,evT f5,hb4,hb5];try rfl) ⟨A3,l3.length,k3,_,rfl,NI.of_pos (hI.carry (Q:=New (fun _=>False) w.heap.size) (aB.of_ext (.refl _)) (fun b _ hb=>.inr U)) hd6,hE⟩)
 have K1:∀ (w':World) (g:Nat) (A:Option Addr) (k c:Nat),w.heap.size<=g->g<W.heap.size->Ext w w'->aU w' (fun b=>W.heap.size<=b) (.slice A6 l6.length k6) l6->Ext w (w'.setCells g 0 [.bool false,.slice A k c])∧aU (w'.setCells g 0 [.bool false,.slice A k c]) (fun b=>W.heap.size<=b) (.slice A6 l6.length k6) l6:=fun w' g A k c h1 h2 hE hI =>
  ⟨((Fr.of_ext (M:=fun _=>False) hE).setCells _ 0 (.inr h1)).ext,hI.carry (aB.setCells U _ 0 (fun _ _ _=>rfl)) (fun _ _ h=>h)⟩
 obtain ⟨hE1,hI1⟩:=K1 w9 (w.heap.size+1+1) A3 l3.length k3 U U hXw hId;have q4:=aJ [.bool false,.slice A3 l3.length k3] 0 b3d Y;have q5:=b4d.farCells (g':=w.heap.size+1+1) U [.bool false,.slice A3 l3.length k3] 0;have q8:=B5d.farCells (g':=w.heap.size+1+1) U [.bool false,.slice A3 l3.length k3] 0;have q9:=B8d.farCells (g':=w.heap.size+1+1) U [.bool false,.slice A3 l3.length k3] 0;refine dq 2 (w1:=w9.setCells (w.heap.size+1+1) 0 [.bool false,.slice A3 l3.length k3]) ?_ (fun _=>⟨q8.cell' 0 rfl,q8.cell' 1 rfl,q9.cell' 0 rfl,q9.cell' 1 rfl⟩) (hrun:=by simp [execOp,go_sem,b3d.cell,b3d.frozen,sz,e4,World.setCells]);generalize w9.setCells (w.heap.size+1+1) 0 [.bool false,.slice A3 l3.length k3]=w10 at *;obtain ⟨hE2,hI2⟩:=K1 w10 (w.heap.size+1+1+1) A6 l6.length k6 U U hE1 hI1;have r5:=aJ [.bool false,.slice A6 l6.length k6] 0 q5 Y;have r4:=Blk.farCells (g:=w.heap.size+1+1) (g':=w.heap.size+1+1+1) U [.bool false,.slice A6 l6.length k6] 0 q4;refine dq 3 (w1:=w10.setCells (w.heap.size+1+1+1) 0 [.bool false,.slice A6 l6.length k6]) ?_ (hrun:=by simp [execOp,go_sem,q5.cell,q5.frozen,sz,e5,World.setCells]);refine d_E a5 [4,5] ?_
 intro a6 u6;exact fin a6 _ u6 r4 r5 hE2 hI2
end
section
variable {ops:Array Oper}{K:Act->World->Prop}{S:World->Prop}{bf:Nat->Bool}{n d gd j:Nat}{is:List Nat}{a:Act}{w w1:World}{o:Oper}{v:Value}{want b:Bool}
theorem dy (i:Nat)(h:WD ops K S bf n (i :: is) (Pt a d v) w1)(hS:bf i=true->S w1:=by exact fun _=>hS)(hr:Region.ready .any ops (mkL ops.size is)=[i]:=by kernel_rfl)(hi:ops[i]?=some o:=by exact rfl)(hg:o.guard=some (j,want):=by exact rfl)(hj:(ops[j]?).bind (fun x=>x.dst)=some gd:=by exact rfl)(hd:o.dst=some d:=by exact rfl)(hs:gd<a.tmps.size:=by simp [*])(he:Ev a (.tmp gd)=.bool b:=by simp [*];rfl)(hb:(b == want)=true:=by exact rfl)
  (hrun:(execOp (Ev a) o).run Tryz.prog w=.ok (.value v) w1:=by simp [execOp,go_sem, *];rfl):WD ops K S bf (n+1) is a w:=by
 refine aEx i hr hi (fun K' hK=>?_);have hw:Region.wanted o (yielded ops a.tmps)=true:=by rw [eD hg hj hs he,hb]
 rw [if_pos hw];unfold Oper.wp;rw [show (execOp a.eval o).run Tryz.prog w=.ok (.value v) w1 from hrun]
 show K' (a.put o.dst v) w1
 rw [hd];exact hK _ _ hS h
end
section
variable {w:World}{P P':Nat->Prop}{u u':Value}{m n:Int}
noncomputable def aFv:=RG Tryz.f164
noncomputable abbrev aW2:Code:=.seq (aFv 0) (.seq (.seq (aFv 1) (.cond (.tmp 15) (.seq (aFv 2) .ret) .skip)) (.seq (aFv 3) (.seq (.seq (aFv 4) (.block 0 (.loop (.seq (.seq (aFv 5) (.cond (.tmp 21) .skip (.exit 0))) (.seq (.block 1 (.seq (aFv 7) (.cond (.tmp 25) (aFv 8) (aFv 9)))) (aFv 6)))))) (.seq (aFv 10) .ret))))
theorem aXx:Tryz.f164.body=some aW2:=aa
theorem vM (h1:NI w P u n)(h0:0<=n)(hn:n<10000):Calls Tryz.prog 164 #[u] w fun e w'=>e=.returned (.tuple #[↑n,.bool true])∧Ext w w':=by
 refine cI Tryz.func164 aXx rfl Y (fun a Q sz df ea hQ=>?_);obtain ⟨l,A,c,rfl,hl,hd⟩:=h1.pos h0;have hl1:=hd.len_le (k:=1) U;have e0:=ea 0 (.agg #[.bool false,.slice A l.length c]) rfl;have b1:=Blk.new w 223 #[.bool false,.slice A l.length c];have x0:Ext w (w.alloc (.cells #[.bool false,.slice A l.length c] 223)):=(Ext.refl w).alloc' _;refine wp_seq (rW ?_)
 iterate 3 refine lv ?_
 generalize w.alloc (.cells #[.bool false,.slice A l.length c] 223)=W at *;refine lE a [] 1 ?_;intro a1 u1 e1
 replace sz:=u1.sz.trans sz
 replace df:=u1.df.trans df
 refine wp_seq (wp_seq ?_);have hx0:Ext w W.drew:=x0.trans' (Ext.refl W).drew';have b1d:=b1.ext (Ext.refl W).drew';have hS:W.drew.cell? ⟨w.heap.size,0,none⟩=some (.bool false)∧W.drew.cell? ⟨w.heap.size,1,none⟩=some (.slice A l.length c):=⟨b1d.cell' 0 rfl,b1d.cell' 1 rfl⟩;refine rD (fun w'=>w'.cell? ⟨w.heap.size,0,none⟩=some (.bool false)∧w'.cell? ⟨w.heap.size,1,none⟩=some (.slice A l.length c)) (fun _=>true) 10 ?_;generalize W.drew=w1 at *;refine dt 9 [0] ?_;refine tv ?_;refine t_e ?_;refine dc 1 Tryz.func163 (iS 9223372036854775807 w1 ak) ?_;rintro e w2 ⟨u2,rfl,hN2,x2⟩;have b2:=b1d.ext x2;refine ⟨_,rfl,fun _=>⟨b2.cell' 0 rfl,b2.cell' 1 rfl⟩,?_⟩;refine dc 2 Tryz.func194 (lB (NI.of_pos (hl.ext (hx0.trans' x2)) hd) hN2 h0) ?_;rintro e w3 ⟨rfl,x3⟩;have b3:=b2.ext x3;have hS:w3.cell? ⟨w.heap.size,0,none⟩=some (.bool false)∧w3.cell? ⟨w.heap.size,1,none⟩=some (.slice A l.length c):=⟨b3.cell' 0 rfl,b3.cell' 1 rfl⟩;refine ⟨_,rfl,fun _=>hS,?_⟩;have hc1:rX n 9223372036854775807=-1:=by unfold rX;rw [if_pos U]
 rw [hc1];refine dv 3 ?_;refine dv 4 ?_;refine dt 4 [5] ?_
 iterate 1 refine t_y rfl rfl rfl rfl ah aw rfl (fun w hw=>by simp [execOp,go_sem, *];rfl) ?_
 refine t_e ?_;refine aUz 6 aa rfl rfl rfl ah aw rfl rfl rfl Tryz.func163 al al (iS (-9223372036854775808) w3 ak) ah ?_;rintro e w4 ⟨u4,rfl,hN4,x4⟩;have b4:=b3.ext x4;refine ⟨_,rfl,fun _=>⟨b4.cell' 0 rfl,b4.cell' 1 rfl⟩,?_⟩;refine aUz 7 aa rfl rfl rfl ah aw rfl rfl rfl Tryz.func194 al al (lB (NI.of_pos (hl.ext (hx0.trans' ((x2.trans' x3).trans' x4))) hd) hN4 h0) ah ?_;rintro e w5 ⟨rfl,x5⟩;have b5:=b4.ext x5;have hS:w5.cell? ⟨w.heap.size,0,none⟩=some (.bool false)∧w5.cell? ⟨w.heap.size,1,none⟩=some (.slice A l.length c):=⟨b5.cell' 0 rfl,b5.cell' 1 rfl⟩;refine ⟨_,rfl,fun _=>hS,?_⟩;have hc2:rX n (-9223372036854775808)=1:=by unfold rX;rw [if_neg U,if_pos U]
 rw [hc2];refine dy 8 ?_;refine dv 9 ?_;refine aRb a1 [1] 15 ?_;intro a2 u2' e15
 replace sz:=u2'.sz.trans sz
 replace df:=u2'.df.trans df
 replace e1:=u2'.get 1 e1
 refine wp_cond_false (e15.trans Y) (wp_skip (wp_seq (rW ?_)));have hE:=hx0.trans' ((x2.trans' x3).trans' (x4.trans' x5));have hl5:=hl.ext hE;clear hl hx0 x2 x3 x4 x5 b1 b1d b2 b3 b4 hN2 hN4 x0;refine lv ?_;refine lE a2 [1] 4 ?_;intro a3 u3 e4
 replace sz:=u3.sz.trans sz
 replace df:=u3.df.trans df
 replace e1:=u3.get 1 e1
 have c1:=b5.cell;refine wp_seq (wp_seq (rW ?_))
 iterate 5 refine lv ?_
 refine lE2 a3 [1] 4 5 ?_;clear e4;intro a4 u4' e4 e5
 replace sz:=u4'.sz.trans sz
 replace df:=u4'.df.trans df
 replace e1:=u4'.get 1 e1
 refine wp_block (wp_loop (fun a' W=>∃ (j:Nat),Ag [1] a4 a'∧Ev a' (.tmp 5)=.int .i64 ((j:Int) - 1)∧Ev a' (.tmp 4)=.int .i64 (vlD (l.drop j))∧j<=l.length∧W=w5) (fun a' _=>(intOf (Ev a' (.tmp 5))+1).toNat) ⟨l.length,.rf,e5,by rw [e4];simp [vlD],Nat.le_refl _,rfl⟩ ?_);clear e4 e5;rintro a5 W5 ⟨j,u5,e5,e4,hj,rfl⟩
 replace sz:=u5.sz.trans sz
 replace df:=u5.df.trans df
 replace e1:=u5.get 1 e1
 refine wp_seq (wp_seq (rW ?_))
 iterate 2 refine lv ?_
 refine lE a5 [1,4,5] 21 ?_;intro a6 u6 e21;have m5:=e5
 replace sz:=u6.sz.trans sz
 replace df:=u6.df.trans df
 replace e1:=u6.get 1 e1
 replace e4:=u6.get 4 e4
 replace e5:=u6.get 5 e5
 by_cases h0:j=0
 ·subst h0
  refine wp_cond_false (e21.trans Y) (wp_exit (wp_seq (rW ?_)))
  iterate 3 refine lv ?_
  refine lE2 a6 [] 2 3 ?_;intro a7 u7 e2 e3;rw [hd.2.1] at e2;exact wp_ret (hQ _ _ _ (u7.df.trans df) (by simp [results,Tryz.results164,go_sem,evT e2,evT e3];try rfl) ⟨rfl,hE⟩)
 ·obtain ⟨k,rfl⟩:∃ k,j=k+1:=⟨j - 1,U⟩
  obtain rfl:k=0:=U
  refine wp_cond_true (e21.trans Y) (wp_skip (wp_seq (wp_block (wp_seq (rW ?_)))))
  iterate 2 refine lv ?_
  refine lE a6 [1,4,5] 25 ?_;intro a7 u7 e25
  replace sz:=u7.sz.trans sz
  replace df:=u7.df.trans df
  replace e1:=u7.get 1 e1
  replace e4:=u7.get 4 e4
  replace e5:=u7.get 5 e5
  refine wp_cond_false (e25.trans Y) (rW ?_);obtain ⟨b,off,c2,he,-,-,-,-,hcell⟩:=hl5.at_ hj;injection he with q1 q2 q3;subst q1 q3;rw [Nat.add_zero] at hcell;have hst:=fZ l 0;have hx:=hd.1.at_ 0;have hz:vlD (l.drop 1)=0:=by rw [List.drop_eq_nil_of_le U];rfl
  rw [hz] at e4 hst;generalize l.getD 0 0=x at *;have hjl:0<l.length:=by omega
  have e5':Ev a7 (.tmp 5)=.int .i64 0:=e5.trans Y;clear e5
  iterate 9 refine lv ?_
  refine lE2 a7 [1] 4 5 ?_;intro a8 u8 e4' e5;have sz8:=u8.sz.trans sz;refine rW ?_
  iterate 3 refine lv ?_
  refine lE2 a8 [1] 4 5 ?_;intro a9 u9 g4 g5;refine ⟨⟨0,(((u5.trans (u6.mono rfl)).trans (u7.mono rfl)).trans u8).trans u9,g5,?_,U,rfl⟩,?_⟩
  ·rw [hst];exact g4.trans gn
  ·rw [g5,m5]
   simp only [intOf];omega
end
section
variable {w:World}{P P':Nat->Prop}{u u':Value}{m n:Int}
noncomputable def aT2:=RG Tryz.f213
noncomputable abbrev aWp:Code:=.seq (aT2 0) (.seq (aT2 1) (.seq (aT2 2) .ret))
theorem aXk:Tryz.f213.body=some aWp:=aa
theorem aHq {x:Int}(h0:0<=x)(h1:x<18446744073709551616)(w:World):Calls Tryz.prog 213 #[.int .u64 x] w (aL6 w (fun _=>False) x):=by
 refine cI Tryz.func213 aXk rfl Y (fun a Q sz df ea hQ=>?_);have e0:=ea 0 (.int .u64 x) rfl;have B2:=Blk.new w 223 #[.bool false,.slice none 0 0];have x0:Ext w (w.alloc (.cells #[.bool false,.slice none 0 0] 223)):=(Ext.refl w).alloc' _;have s0:(w.alloc (.cells #[.bool false,.slice none 0 0] 223)).heap.size=w.heap.size+1:=by simp
 refine wp_seq (rW ?_);refine lv ?_;refine lE a [0] 2 ?_;intro a1 u1 e2
 replace sz:=u1.sz.trans sz
 replace df:=u1.df.trans df
 replace e0:=u1.get 0 e0
 refine wp_seq (rW ?_);generalize w.alloc (.cells #[.bool false,.slice none 0 0] 223)=w1 at *;have hq0:0<=x / 4294967296:=by omega
 have hq1:x / 4294967296<4294967296:=U
 have hw1:IntKind.u64.wrap (x.tdiv 4294967296)=x / 4294967296:=by
  rw [Int.tdiv_eq_ediv_of_nonneg h0];simp [IntKind.wrap,IntKind.bits,IntKind.signed];omega
 have hw2:IntKind.i64.wrap (x / 4294967296)=x / 4294967296:=wrI U U;refine lv ?_;refine lv (w1:=w1) (v:=.int .u64 (x / 4294967296)) ?_ rfl rfl (by simp [execOp,go_sem, *]);refine lv (w1:=w1) (v:=.int .i64 (x / 4294967296)) ?_ rfl rfl (by simp [execOp,go_sem, *]);refine lc Tryz.func163 (iS (x / 4294967296) w1 aj) ?_;rintro e w2 ⟨u2,rfl,hN2,x2⟩;refine ⟨_,rfl,?_⟩;obtain ⟨l2,A2,k2,rfl,hl2,hd2⟩:=hN2.pos hq0;have B3:=Blk.new w2 223 #[.bool false,.slice none 0 0];have x3:Ext w2 (w2.alloc (.cells #[.bool false,.slice none 0 0] 223)):=(Ext.refl w2).alloc' _;have s3:(w2.alloc (.cells #[.bool false,.slice none 0 0] 223)).heap.size=w2.heap.size+1:=by simp
 refine lv ?_;generalize w2.alloc (.cells #[.bool false,.slice none 0 0] 223)=w3 at *;refine ls (w1:=w3.setCells w2.heap.size 0 [.bool false,.slice A2 l2.length k2]) ?_ rfl rfl (by simp [execOp,go_sem,B3.cell,B3.frozen,sz,World.setCells]);obtain ⟨B4,x4,s4⟩:=eJ B3 x3 (Nat.le_refl _) A2 l2.length k2;generalize w3.setCells w2.heap.size 0 [.bool false,.slice A2 l2.length k2]=w4 at *;clear B3 x3;refine lE a1 [0,2] 3 ?_;intro a2 u2 e3
 replace sz:=u2.sz.trans sz
 replace df:=u2.df.trans df
 replace e0:=u2.get 0 e0
 replace e2:=u2.get 2 e2
 refine wp_seq ?_;have hx0:Ext w4 w4.drew:=(Ext.refl w4).drew';have t2:=x2.size;have X4:=x2.trans' x4;have hE4:=(x0.trans' X4).trans' hx0;have B4d:=B4.ext hx0;have hl4:=(hl2.ext x4).ext hx0;have B2d:=((B2.ext X4).ext hx0);have hS:w4.drew.cell? ⟨w2.heap.size,0,none⟩=some (.bool false)∧w4.drew.cell? ⟨w2.heap.size,1,none⟩=some (.slice A2 l2.length k2):=⟨B4d.cell' 0 rfl,B4d.cell' 1 rfl⟩;refine rD (fun w'=>w'.cell? ⟨w2.heap.size,0,none⟩=some (.bool false)∧w'.cell? ⟨w2.heap.size,1,none⟩=some (.slice A2 l2.length k2)) (fun q=>q != 8) 9 ?_;have t4:w4.drew.heap.size=w4.heap.size:=by simp
 clear hx0 B4 X4;generalize w4.drew=w5 at *;have hr0:=Int.emod_nonneg x (show (4294967296:Int) ≠ 0 by omega)
 have hw3:IntKind.u64.wrap (x % 4294967296)=x % 4294967296:=by
  simp [IntKind.wrap,IntKind.bits,IntKind.signed];omega
 have hw4:IntKind.i64.wrap (x % 4294967296)=x % 4294967296:=wrI U U;have htm:x.tmod 4294967296=x % 4294967296:=Int.tmod_eq_emod_of_nonneg h0;refine dt 5 [0,3,4,5] ?_;refine tv ?_;refine tv ?_;refine t_v (v:=.int .u64 (x % 4294967296)) rfl rfl rfl (fun w hw=>by simp [execOp,go_sem, *]) ?_;refine t_v (v:=.int .i64 (x % 4294967296)) rfl rfl rfl (fun w hw=>by simp [execOp,go_sem, *]) ?_;refine t_e ?_;refine dc 1 Tryz.func163 (iS 4294967296 w5 ak) ?_;rintro e w6 ⟨u6,rfl,hN6,x6⟩;have B6:=B4d.ext x6;refine ⟨_,rfl,fun _=>⟨B6.cell' 0 rfl,B6.cell' 1 rfl⟩,?_⟩;refine dc 2 Tryz.func208 (lU (NI.of_pos (hl4.ext x6) hd2) hN6 hq0 U U U) ?_;rintro e w7 ⟨u7,rfl,hN7,x7⟩;have B7:=B6.ext x7;refine ⟨_,rfl,fun _=>⟨B7.cell' 0 rfl,B7.cell' 1 rfl⟩,?_⟩;refine dc 6 Tryz.func163 (iS (x % 4294967296) w7 aj) ?_;rintro e w8 ⟨u8,rfl,hN8,x8⟩;have B8:=B7.ext x8;refine ⟨_,rfl,fun _=>⟨B8.cell' 0 rfl,B8.cell' 1 rfl⟩,?_⟩;refine dc 7 Tryz.func210 (uM (hN7.ext x8) hN8 (Int.mul_nonneg hq0 U) (.inl hr0) U U) ?_;rintro e w9 ⟨u9,rfl,hN9,x9⟩;have B9:=B8.ext x9;refine ⟨_,rfl,fun _=>⟨B9.cell' 0 rfl,B9.cell' 1 rfl⟩,?_⟩;rw [show x / 4294967296*4294967296+x % 4294967296=x by omega] at hN9
 have hE9:=x6.trans' (x7.trans' (x8.trans' x9));have t6:=x6.size;have t7:=x7.size;have t8:=x8.size;have B29:=B2d.ext hE9;obtain ⟨z',A7,k7,c7,rfl,hN',hb',hE⟩:=hN9.box (g:=w.heap.size) (Q:=New (fun _=>False) w.heap.size) (fun b hb=>hb.elim False.elim (fun h=>by omega)) (fun b hb=>hb.elim False.elim (fun h=>.inr U)) B29 (hE4.trans' hE9) U;refine dq 8 (w1:=w9.setCells w.heap.size 0 [.bool z',.slice A7 k7 c7]) ?_ (hrun:=by simp [execOp,go_sem,B29.cell,B29.frozen,sz,e2,World.setCells]);refine d_E a2 [2] ?_;intro a6 u6;have f2:=u6.get 2 e2;have hb:=hb'.cell;exact wp_ret (hQ _ _ _ (u6.df.trans df) (by simp [results,Tryz.results213,go_sem,evT f2,hb];try rfl) ⟨_,rfl,hN',hE⟩)
end
def qF (sv tx:Value)(w0:World)(wd:Nat->Int):Prop:=∀ (i:Nat)(w:World),i<4000000000000000000->Ext w0 w->Calls Tryz.prog 214 #[sv,tx,↑(i:Int)] w fun e w'=>e=.returned (.int .u64 (wd i))∧(0<=wd i∧wd i<18446744073709551616)∧Ext w w'
section
variable {w w0:World}{sv tx:Value}{wd:Nat->Int}
noncomputable def aMe:=RG Tryz.f193
noncomputable abbrev aWx:Code:=.seq (aMe 0) (.seq (aMe 1) (.seq (.seq (aMe 2) (.block 0 (.loop (.seq (.seq (aMe 3) (.cond (.tmp 15) .skip (.exit 0))) (.seq (.block 1 (aMe 5)) (aMe 4)))))) (.seq (aMe 6) .ret)))
theorem aXs:Tryz.f193.body=some aWx:=aa
theorem wY (hW:qF sv tx w0 wd)(i:Nat)(hi:i<1000000000000000000)(hw:Ext w0 w):Calls Tryz.prog 193 #[sv,tx,↑(i:Int),.int .i64 1] w fun e w'=>(0<=wd i∧wd i<18446744073709551616)∧aL6 w (fun _=>False) (wd i) e w':=by
 refine cI Tryz.func193 aXs rfl Y (fun a Q sz df ea hQ=>?_);have e0:=ea 0 sv rfl;have e1:=ea 1 tx rfl;have e2:=ea 2 (↑(i:Int)) rfl;have e3:=ea 3 (.int .i64 1) rfl;have B8:=Blk.new w 223 #[.bool false,.slice none 0 0];have x0:Ext w (w.alloc (.cells #[.bool false,.slice none 0 0] 223)):=(Ext.refl w).alloc' _;have s0:w.heap.size<(w.alloc (.cells #[.bool false,.slice none 0 0] 223)).heap.size:=by simp
 refine wp_seq (rW ?_);refine lv ?_;refine lE a [0,1,2,3] 8 ?_;intro a1 u1 e8
 replace sz:=u1.sz.trans sz
 replace df:=u1.df.trans df
 replace e0:=u1.get 0 e0
 replace e1:=u1.get 1 e1
 replace e2:=u1.get 2 e2
 replace e3:=u1.get 3 e3
 refine wp_seq (rW ?_);generalize w.alloc (.cells #[.bool false,.slice none 0 0] 223)=w1 at *;refine lv ?_;have B2:=Blk.new w1 223 #[.bool false,.slice none 0 0];have x2:Ext w1 (w1.alloc (.cells #[.bool false,.slice none 0 0] 223)):=(Ext.refl w1).alloc' _;have s2:(w1.alloc (.cells #[.bool false,.slice none 0 0] 223)).heap.size=w1.heap.size+1:=by simp
 refine lv ?_;generalize w1.alloc (.cells #[.bool false,.slice none 0 0] 223)=w2 at *;refine ls (w1:=w2.setCells w1.heap.size 0 [.bool false,.slice none 0 0]) ?_ rfl rfl (by simp [execOp,go_sem,B2.cell,B2.frozen,sz,World.setCells]);obtain ⟨B3,x3,s3⟩:=eJ B2 x2 (Nat.le_refl _) none 0 0;generalize w2.setCells w1.heap.size 0 [.bool false,.slice none 0 0]=w3 at *;clear B2 x2;refine lE a1 [0,1,2,3,8] 9 ?_;intro a2 u2 e9
 replace sz:=u2.sz.trans sz
 replace df:=u2.df.trans df
 replace e0:=u2.get 0 e0
 replace e1:=u2.get 1 e1
 replace e2:=u2.get 2 e2
 replace e3:=u2.get 3 e3
 replace e8:=u2.get 8 e8
 refine wp_seq (wp_seq (rW ?_))
 iterate 3 refine lv ?_
 refine lE a2 [0,1,2,8,9] 10 ?_;intro a3 u3 e10
 replace sz:=u3.sz.trans sz
 replace df:=u3.df.trans df
 replace e0:=u3.get 0 e0
 replace e1:=u3.get 1 e1
 replace e2:=u3.get 2 e2
 replace e8:=u3.get 8 e8
 replace e9:=u3.get 9 e9
 have z3:oN w3 w1.heap.size (fun b=>w1.heap.size<b) 0:=⟨none,0,0,B3,NI.of_pos (l:=[]) ⟨_,_,rfl,Nat.le_refl _,⟨Y,U⟩,Y,rfl,fun h=>absurd h Y⟩ .zero⟩;have B8':=(B8.ext x3);refine wp_block (wp_loop (fun a' W=>∃ (j:Nat),Ag [0,1,2,8,9] a3 a'∧Ev a' (.tmp 10)=.int .i64 ((j:Int) - 1)∧j<=1∧oN W w1.heap.size (fun b=>w1.heap.size<b) (if j=0 then wd i else 0)∧(j=0->0<=wd i∧wd i<18446744073709551616)∧Blk W w.heap.size 223 #[.bool false,.slice none 0 0]∧Ext w W) (fun a' _=>(intOf (Ev a' (.tmp 10))+1).toNat) ⟨1,.rf,e10,Nat.le_refl _,z3,fun h=>by omega,B8',x0.trans' x3⟩ ?_);clear z3 B8' B8 B3 x3 e10 x0 s3;rintro a4 W ⟨j,u4,e10,hj,hH,hwd,hB,hE⟩
 replace sz:=u4.sz.trans sz
 replace df:=u4.df.trans df
 replace e0:=u4.get 0 e0
 replace e1:=u4.get 1 e1
 replace e2:=u4.get 2 e2
 replace e8:=u4.get 8 e8
 replace e9:=u4.get 9 e9
 refine wp_seq (wp_seq (rW ?_))
 iterate 2 refine lv ?_
 refine lE a4 [0,1,2,8,9,10] 15 ?_;intro a5 u5 e15;have m10:=e10
 replace sz:=u5.sz.trans sz
 replace df:=u5.df.trans df
 replace e0:=u5.get 0 e0
 replace e1:=u5.get 1 e1
 replace e2:=u5.get 2 e2
 replace e8:=u5.get 8 e8
 replace e9:=u5.get 9 e9
 replace e10:=u5.get 10 e10
 obtain ⟨A,kk,c,q1,q2⟩:=hH
 by_cases h0:j=0
 ·subst h0
  refine wp_cond_false (e15.trans Y) (wp_exit (wp_seq (rW ?_)));have c3:=q1.cell;refine lv ?_;rw [if_pos rfl] at q2;obtain ⟨z',A7,k7,c7,e,hN',hb',hE'⟩:=q2.box (g:=w.heap.size) (Q:=New (fun _=>False) w.heap.size) (fun b hb=>by omega) (fun b hb=>.inr U) hB hE U;injection e with e;have e:=congrArg Array.toList e;simp only [List.cons.injEq,Value.bool.injEq,Value.slice.injEq,and_true] at e;obtain ⟨rfl,rfl,rfl,rfl⟩:=e;refine ls (w1:=W.setCells w.heap.size 0 [.bool false,.slice A kk c]) ?_ rfl rfl (by simp [execOp,go_sem,hB.cell,hB.frozen,sz,e8,World.setCells]);refine lE a5 [] 8 ?_;intro a6 u6 g8;have hbc:=hb'.cell;exact wp_ret (hQ _ _ _ (u6.df.trans df) (by simp [results,Tryz.results193,go_sem,evT g8,hbc];try rfl) ⟨hwd rfl,_,rfl,hN',hE'⟩)
 ·obtain rfl:j=1:=by omega
  rw [if_neg h0] at q2;refine wp_cond_true (e15.trans Y) (wp_skip (wp_seq (wp_block ?_)));have e10':Ev a5 (.tmp 10)=.int .i64 0:=e10.trans Y;clear e10;have hx0:Ext W W.drew:=(Ext.refl W).drew';have B9:=q1.ext hx0;have t0:=q1.lt;have N9:=q2.ext hx0;have hE':=hE.trans' hx0;have B8d:=hB.ext hx0;have hS:W.drew.cell? ⟨w1.heap.size,0,none⟩=some (.bool false)∧W.drew.cell? ⟨w1.heap.size,1,none⟩=some (.slice A kk c):=⟨B9.cell' 0 rfl,B9.cell' 1 rfl⟩;refine rD (fun w'=>w'.cell? ⟨w1.heap.size,0,none⟩=some (.bool false)∧w'.cell? ⟨w1.heap.size,1,none⟩=some (.slice A kk c)) (fun q=>q != 11) 12 ?_;have t1:W.drew.heap.size=W.heap.size:=by simp
  clear hx0;generalize W.drew=w5 at *;refine dt 6 [0,3,4,5,6,7] ?_
  iterate 6 refine tv ?_
  refine t_e ?_;refine dc 1 Tryz.func190 (vZ 64 U w5) ?_;rintro e w6 ⟨u6,rfl,hN6,x6⟩;have B6:=B9.ext x6;refine ⟨_,rfl,fun _=>⟨B6.cell' 0 rfl,B6.cell' 1 rfl⟩,?_⟩;refine dc 2 Tryz.func208 (lU (N9.ext x6) hN6 U am am am) ?_;rintro e w7 ⟨u7,rfl,hN7,x7⟩;have B7:=B6.ext x7;refine ⟨_,rfl,fun _=>⟨B7.cell' 0 rfl,B7.cell' 1 rfl⟩,?_⟩;refine dc 8 Tryz.func214 (hW i w7 U ((hw.trans' hE').trans' (x6.trans' x7))) ?_;rintro e w8 ⟨rfl,hb,x8⟩;have B8:=B7.ext x8;refine ⟨_,rfl,fun _=>⟨B8.cell' 0 rfl,B8.cell' 1 rfl⟩,?_⟩;refine dc 9 Tryz.func213 (aHq hb.1 hb.2 w8) ?_;rintro e w9 ⟨u9,rfl,hN9,x9⟩;have B9':=B8.ext x9;refine ⟨_,rfl,fun _=>⟨B9'.cell' 0 rfl,B9'.cell' 1 rfl⟩,?_⟩;refine dc 10 Tryz.func210 (uM ((hN7.ext x8).ext x9) hN9 U (.inl hb.1) U U) ?_;rintro e w10 ⟨u10,rfl,hN10,x10⟩;have B10:=B9'.ext x10;refine ⟨_,rfl,fun _=>⟨B10.cell' 0 rfl,B10.cell' 1 rfl⟩,?_⟩;have hEE:=x6.trans' (x7.trans' (x8.trans' (x9.trans' x10)));have t6:=x6.size;have t7:=x7.size;have t8:=x8.size;have t9:=x9.size;rw [show (0:Int)*2 ^ 64+wd i=wd i by omega] at hN10;obtain ⟨A7,k7,c7,rfl,hH7,hO7,hB7,hX7,hS7,-⟩:=hN10.put (P:=fun b=>w1.heap.size<b) hb.1 (fun b h=>h.elim False.elim (fun h=>by omega)) (fun h=>by omega) B10
  refine dq 11 (w1:=w10.setCells w1.heap.size 0 [.bool false,.slice A7 k7 c7]) ?_ (hrun:=by simp [execOp,go_sem,B10.cell,B10.frozen,sz,e9,World.setCells]);refine d_E a5 [0,1,2,8,9,10] ?_;intro a6 u6;have B88:=hB7 _ _ (show w.heap.size ≠ w1.heap.size by omega) (B8d.ext hEE);have X10:=hX7 w (hE'.trans' hEE) U;have g10:=u6.get 10 e10';have sz6:=u6.sz.trans sz;generalize w10.setCells w1.heap.size 0 [.bool false,.slice A7 k7 c7]=w11 at *;refine rW ?_
  iterate 3 refine lv ?_
  refine lE a6 [0,1,2,8,9] 10 ?_;intro a7 u7 f10;refine ⟨⟨0,((u4.trans (u5.mono rfl)).trans (u6.mono rfl)).trans u7,f10,U,by rw [if_pos rfl];exact hH7,fun _=>hb,B88,X10⟩,?_⟩;rw [f10,m10];simp only [intOf];omega
end
section
variable {w w0:World}{sv tx u:Value}{wd:Nat->Int}{n:Int}{P:Nat->Prop}
noncomputable def zO:=RG Tryz.f162
noncomputable abbrev aW4:Code:=.seq (zO 0) (.seq (zO 1) (.seq (zO 2) (.seq (zO 3) (.seq (zO 4) (.seq (zO 5) (.seq (.seq (zO 6) (.block 0 (.loop (.seq (.seq (zO 7) (.cond (.tmp 46) .skip (.exit 0))) (.seq (.block 1 (.seq (zO 9) (zO 10))) (zO 8)))))) (.seq (zO 11) (.seq (zO 12) .ret))))))))
theorem aXz:Tryz.f162.body=some aW4:=aa
theorem aQd (hW:qF sv tx w0 wd)(i:Nat)(hi:i<100000000000000000)(hw:Ext w0 w)(hN:NI w P u n)(hn:1<=n∧n<=9999):Calls Tryz.prog 162 #[sv,tx,↑(i:Int),u,.int .i64 1] w fun e w'=>∃ v,e=.returned (.tuple #[v,.int .i64 ((yJ wd (18446744073709551616 - 18446744073709551616 % n) 63 i:Nat)+1:Int)])∧NI w' (New (fun _=>False) w.heap.size) v (wd (yJ wd (18446744073709551616 - 18446744073709551616 % n) 63 i) % n)∧Ext w w':=by
 refine cI Tryz.func162 aXz rfl Y (fun a Q sz df ea hQ=>?_);obtain ⟨l,A,c,rfl,hl,hd⟩:=hN.pos U;have e0:=ea 0 sv rfl;have e1:=ea 1 tx rfl;have e2:=ea 2 (↑(i:Int)) rfl;have e4:=ea 4 (.int .i64 1) rfl;obtain ⟨B8,B10,x0,s0⟩:=xI w 223 223 #[.bool false,.slice A l.length c] #[.bool false,.slice none 0 0];refine wp_seq (rW ?_)
 iterate 3 refine lv ?_
 generalize (w.alloc (.cells #[.bool false,.slice A l.length c] 223)).alloc (.cells #[.bool false,.slice none 0 0] 223)=w1 at *;refine lE2 a [0,1,2,4] 8 10 ?_;intro a1 u1 e8 e10
 replace sz:=u1.sz.trans sz
 replace df:=u1.df.trans df
 replace e0:=u1.get 0 e0
 replace e1:=u1.get 1 e1
 replace e2:=u1.get 2 e2
 replace e4:=u1.get 4 e4
 have hl1:=hl.ext x0;refine wp_seq (rW ?_)
 iterate 2 refine lv ?_
 refine lc Tryz.func190 (vZ 64 U w1) ?_;rintro e w2 ⟨u2,rfl,hN2,x2⟩;refine ⟨_,rfl,?_⟩;obtain ⟨l2,A2,k2,rfl,hl2,hd2⟩:=hN2.pos am;have B3:=Blk.new w2 223 #[.bool false,.slice none 0 0];have x3:Ext w2 (w2.alloc (.cells #[.bool false,.slice none 0 0] 223)):=(Ext.refl w2).alloc' _;have s3:(w2.alloc (.cells #[.bool false,.slice none 0 0] 223)).heap.size=w2.heap.size+1:=by simp
 refine lv ?_;generalize w2.alloc (.cells #[.bool false,.slice none 0 0] 223)=w3 at *;refine ls (w1:=w3.setCells w2.heap.size 0 [.bool false,.slice A2 l2.length k2]) ?_ rfl rfl (by simp [execOp,go_sem,B3.cell,B3.frozen,sz,World.setCells]);obtain ⟨B4,x4,s4⟩:=eJ B3 x3 (Nat.le_refl _) A2 l2.length k2;generalize w3.setCells w2.heap.size 0 [.bool false,.slice A2 l2.length k2]=w4 at *;clear B3 x3;refine lE a1 [0,1,2,4,8,10] 12 ?_;intro a2 u2 e12
 replace sz:=u2.sz.trans sz
 replace df:=u2.df.trans df
 replace e0:=u2.get 0 e0
 replace e1:=u2.get 1 e1
 replace e2:=u2.get 2 e2
 replace e4:=u2.get 4 e4
 replace e8:=u2.get 8 e8
 replace e10:=u2.get 10 e10
 have X4:=x2.trans' x4;have c8:=(B8.ext X4).cell;have c12:=B4.cell;refine wp_seq (rW ?_)
 iterate 2 refine lv ?_
 refine lc Tryz.func191 (aEu (NI.of_pos (hl2.ext x4) hd2) (NI.of_pos (hl1.ext X4) hd) am am hn) ?_;rintro e w5 ⟨A5,k5,c5,v5,rfl,hN5,x5⟩;refine ⟨_,rfl,?_⟩;obtain ⟨l6,A6,k6,rfl,hl6,hd6⟩:=hN5.pos (Int.emod_nonneg _ U)
 iterate 3 refine lv ?_
 obtain ⟨B13,B14,x7,s7⟩:=xI w5 223 223 #[.bool false,.slice none 0 0] #[.bool false,.slice none 0 0];clear c8 c12
 iterate 2 refine lv ?_
 generalize (w5.alloc (.cells #[.bool false,.slice none 0 0] 223)).alloc (.cells #[.bool false,.slice none 0 0] 223)=w7 at *;refine ls (w1:=w7.setCells w5.heap.size 0 [.bool false,.slice A5 k5 c5]) ?_ rfl rfl (by simp [execOp,go_sem,B13.cell,B13.frozen,sz,World.setCells]);obtain ⟨-,x8,s8⟩:=eJ B13 x7 (Nat.le_refl _) A5 k5 c5
 replace B14:=B14.farCells (g':=w5.heap.size) U [.bool false,.slice A5 k5 c5] 0
 generalize w7.setCells w5.heap.size 0 [.bool false,.slice A5 k5 c5]=w8 at *;refine ls (w1:=w8.setCells (w5.heap.size+1) 0 [.bool false,.slice A6 l6.length k6]) ?_ rfl rfl (by simp [execOp,go_sem,B14.cell,B14.frozen,sz,World.setCells]);obtain ⟨B9,x9,s9⟩:=eJ B14 x8 (Nat.le_succ _) A6 l6.length k6;generalize w8.setCells (w5.heap.size+1) 0 [.bool false,.slice A6 l6.length k6]=w9 at *;clear B13 x7 B14 x8;refine lE3 a2 [0,1,2,4,8,10] 12 14 12 ?_;clear e12;intro a3 u3 e12 e14 _
 replace sz:=u3.sz.trans sz
 replace df:=u3.df.trans df
 replace e0:=u3.get 0 e0
 replace e1:=u3.get 1 e1
 replace e2:=u3.get 2 e2
 replace e4:=u3.get 4 e4
 replace e8:=u3.get 8 e8
 replace e10:=u3.get 10 e10
 have X9:=x5.trans' x9;have c12:=(B4.ext X9).cell;have c14:=B9.cell;have hm0:=Int.emod_nonneg (2 ^ 64) (show n ≠ 0 by omega);have hm1:=Int.emod_lt_of_pos (2 ^ 64) (show 0<n by omega);refine wp_seq (rW ?_)
 iterate 2 refine lv ?_
 refine lc Tryz.func192 (aGf (NI.of_pos ((hl2.ext x4).ext X9) hd2) (NI.of_pos (hl6.ext x9) hd6) hm0 U am) ?_;rintro e w10 ⟨u10,rfl,hN10,x10⟩;refine ⟨_,rfl,?_⟩;obtain ⟨l10,A10,k10,rfl,hl10,hd10⟩:=hN10.pos U;clear c12 c14;have B11:=Blk.new w10 223 #[.bool false,.slice none 0 0];have x11:Ext w10 (w10.alloc (.cells #[.bool false,.slice none 0 0] 223)):=(Ext.refl w10).alloc' _;have s11:(w10.alloc (.cells #[.bool false,.slice none 0 0] 223)).heap.size=w10.heap.size+1:=by simp
 refine lv ?_;generalize w10.alloc (.cells #[.bool false,.slice none 0 0] 223)=w11 at *;refine ls (w1:=w11.setCells w10.heap.size 0 [.bool false,.slice A10 l10.length k10]) ?_ rfl rfl (by simp [execOp,go_sem,B11.cell,B11.frozen,sz,World.setCells]);obtain ⟨B12,x12,s12⟩:=eJ B11 x11 (Nat.le_refl _) A10 l10.length k10;generalize w11.setCells w10.heap.size 0 [.bool false,.slice A10 l10.length k10]=w12 at *;clear B11 x11;refine lE a3 [0,1,2,4,8,10] 15 ?_;intro a4 u4 e15
 replace sz:=u4.sz.trans sz
 replace df:=u4.df.trans df
 replace e0:=u4.get 0 e0
 replace e1:=u4.get 1 e1
 replace e2:=u4.get 2 e2
 replace e4:=u4.get 4 e4
 replace e8:=u4.get 8 e8
 replace e10:=u4.get 10 e10
 refine wp_seq (rW ?_)
 iterate 2 refine lv ?_
 refine lE a4 [0,1,4,8,10,15] 16 ?_;intro a5 u5 e16
 replace sz:=u5.sz.trans sz
 replace df:=u5.df.trans df
 replace e0:=u5.get 0 e0
 replace e1:=u5.get 1 e1
 replace e4:=u5.get 4 e4
 replace e8:=u5.get 8 e8
 replace e10:=u5.get 10 e10
 replace e15:=u5.get 15 e15
 have X12:=X4.trans' (X9.trans' (x10.trans' x12));refine wp_seq (rW ?_)
 iterate 4 refine lv ?_
 refine lc Tryz.func193 (wY hW i U (hw.trans' (x0.trans' X12))) ?_;rintro e w13 ⟨hb0,u13,rfl,hN13,x13⟩;refine ⟨_,rfl,?_⟩;obtain ⟨l13,A13,k13,rfl,hl13,hd13⟩:=hN13.pos hb0.1;have B14:=Blk.new w13 223 #[.bool false,.slice none 0 0];have x14:Ext w13 (w13.alloc (.cells #[.bool false,.slice none 0 0] 223)):=(Ext.refl w13).alloc' _;have s14:(w13.alloc (.cells #[.bool false,.slice none 0 0] 223)).heap.size=w13.heap.size+1:=by simp
 refine lv ?_;generalize w13.alloc (.cells #[.bool false,.slice none 0 0] 223)=w14 at *;refine ls (w1:=w14.setCells w13.heap.size 0 [.bool false,.slice A13 l13.length k13]) ?_ rfl rfl (by simp [execOp,go_sem,B14.cell,B14.frozen,sz,World.setCells]);obtain ⟨B15,x15,s15⟩:=eJ B14 x14 (Nat.le_refl _) A13 l13.length k13;generalize w14.setCells w13.heap.size 0 [.bool false,.slice A13 l13.length k13]=w15 at *;clear B14 x14;refine lE2 a5 [0,1,4,8,10,15] 16 17 ?_;clear e16;intro a6 u6 e16 e17
 replace sz:=u6.sz.trans sz
 replace df:=u6.df.trans df
 replace e0:=u6.get 0 e0
 replace e1:=u6.get 1 e1
 replace e4:=u6.get 4 e4
 replace e8:=u6.get 8 e8
 replace e10:=u6.get 10 e10
 replace e15:=u6.get 15 e15
 refine wp_seq (wp_seq (rW ?_));refine lv ?_;refine lE a6 [0,1,4,8,10,15,16,17] 18 ?_;intro a7 u7 e18
 replace sz:=u7.sz.trans sz
 replace df:=u7.df.trans df
 replace e0:=u7.get 0 e0
 replace e1:=u7.get 1 e1
 replace e4:=u7.get 4 e4
 replace e8:=u7.get 8 e8
 replace e10:=u7.get 10 e10
 replace e15:=u7.get 15 e15
 replace e16:=u7.get 16 e16
 replace e17:=u7.get 17 e17
 have X15:=X12.trans' (x13.trans' x15);have t2:=x2.size;have t5:=x5.size;have t9:=x9.size;have t10:=x10.size;have t13:=x13.size;have hN8:oN w15 w.heap.size (fun b=>b ≠ w.heap.size+1∧b ≠ w13.heap.size) n:=⟨A,_,c,B8.ext X15,NI.of_pos (hl.carry (aB.of_ext (x0.trans' X15)) (fun b hb _=>by omega)) hd⟩;have hL15:oN w15 w10.heap.size (fun b=>b ≠ w.heap.size+1∧b ≠ w13.heap.size) (18446744073709551616 - 18446744073709551616 % n):=⟨A10,_,k10,B12.ext (x13.trans' x15),NI.of_pos (hl10.carry (aB.of_ext (x12.trans' (x13.trans' x15))) (fun b hb h=>h.elim False.elim (fun h=>by omega))) (by simpa using hd10)⟩;have hV17:oN w15 w13.heap.size (fun b=>b ≠ w.heap.size+1∧b ≠ w13.heap.size) (wd i):=⟨A13,_,k13,B15,NI.of_pos (hl13.carry (aB.of_ext x15) (fun b hb h=>h.elim False.elim (fun h=>by omega))) hd13⟩;have hR10:=B10.ext X15;have hE15:=x0.trans' X15;have hne:w.heap.size+1 ≠ w13.heap.size∧w.heap.size ≠ w13.heap.size∧w10.heap.size ≠ w13.heap.size∧w.heap.size<=w13.heap.size:=by omega
 have hlt:w13.heap.size<w15.heap.size:=U
 clear B8 B10 B12 B15 B4 B9 X4 X9 X12 X15 x0 x2 x4 x5 x9 x10 x12 x13 x15 hl hl1 hl2 hl6 hl10 hl13 hN2 hN5 hN10 hN13 hd hd2 hd6 hd10 hd13 s0 s3 s7 s8 s9 s11 s14 s4 s12 s15 hm0 hm1;generalize 18446744073709551616 - 18446744073709551616 % n=L at *;generalize w13.heap.size=g17 at *;generalize w10.heap.size=g15 at *;refine wp_block (wp_loop (fun a' W=>∃ (t i':Nat),Ag [0,1,4,8,10,15,17] a7 a'∧Ev a' (.tmp 18)=↑(t:Int)∧Ev a' (.tmp 16)=↑(i':Int)∧(1<=t∧t<=64∧i'+1=i+t)∧yJ wd L (64 - t) i'=yJ wd L 63 i∧(0<=wd i'∧wd i'<18446744073709551616)∧oN W g17 (fun b=>b ≠ w.heap.size+1∧b ≠ g17) (wd i')∧oN W g15 (fun b=>b ≠ w.heap.size+1∧b ≠ g17) L∧oN W w.heap.size (fun b=>b ≠ w.heap.size+1∧b ≠ g17) n∧Blk W (w.heap.size+1) 223 #[.bool false,.slice none 0 0]∧Ext w W∧g17<W.heap.size) (fun a' _=>(64 - intOf (Ev a' (.tmp 18))).toNat) ⟨1,i,.rf,e18,e16,U,rfl,hb0,hV17,hL15,hN8,hR10,hE15,hlt⟩ ?_);clear e16 e18 hV17 hL15 hN8 hR10 hE15 hlt u1 u2 u3 u4 u5 u6 u7;rintro a8 W ⟨t,i',u8,e18,e16,ht,hs,hb,hV,hL,hN',hR,hE,hlt⟩
 replace sz:=u8.sz.trans sz
 replace df:=u8.df.trans df
 replace e0:=u8.get 0 e0
 replace e1:=u8.get 1 e1
 replace e4:=u8.get 4 e4
 replace e8:=u8.get 8 e8
 replace e10:=u8.get 10 e10
 replace e15:=u8.get 15 e15
 replace e17:=u8.get 17 e17
 have m18:=e18;obtain ⟨AV,kV,cV,qV,NV⟩:=hV;obtain ⟨AL,kL,cL,qL,NL⟩:=hL;have c17:=qV.cell;have c15:=qL.cell;refine wp_seq (wp_seq (rW ?_))
 have out:∀ (a9:Act) (W9:World),Ag [0,1,4,8,10,15,16,17] a8 a9->Ext W W9->yJ wd L (64 - t) i'=i'->Code.wp Tryz.prog (.seq (zO 11) (.seq (zO 12) .ret)) Q a9 W9:=by
  intro a9 W9 u9 hx hsk;rw [hs] at hsk;rw [hsk] at hQ
  replace sz:=u9.sz.trans sz
  replace df:=u9.df.trans df
  replace e4:=u9.get 4 e4
  replace e8:=u9.get 8 e8
  replace e10:=u9.get 10 e10
  replace e16:=u9.get 16 e16
  replace e17:=u9.get 17 e17
  obtain ⟨AN,kN,cN,qN,NN⟩:=hN';have f17:=(qV.ext hx).cell;have f8:=(qN.ext hx).cell;refine wp_seq (rW ?_)
  iterate 2 refine lv ?_
  refine lc Tryz.func191 (aEu (NV.ext hx) (NN.ext hx) hb.1 U hn) ?_;rintro e w5 ⟨A5,k5,c5,v5,rfl,hN5,x5⟩;refine ⟨_,rfl,?_⟩;have hm0:=Int.emod_nonneg (wd i') (show n ≠ 0 by omega);obtain ⟨l6,A6,k6,rfl,hl6,hd6⟩:=hN5.pos hm0
  iterate 3 refine lv ?_
  obtain ⟨B13,B14,x7,s7⟩:=xI w5 223 223 #[.bool false,.slice none 0 0] #[.bool false,.slice none 0 0];clear f17 f8 c17 c15
  iterate 2 refine lv ?_
  generalize (w5.alloc (.cells #[.bool false,.slice none 0 0] 223)).alloc (.cells #[.bool false,.slice none 0 0] 223)=w7 at *;refine ls (w1:=w7.setCells w5.heap.size 0 [.bool false,.slice A5 k5 c5]) ?_ rfl rfl (by simp [execOp,go_sem,B13.cell,B13.frozen,sz,World.setCells]);obtain ⟨-,x8,s8⟩:=eJ B13 x7 (Nat.le_refl _) A5 k5 c5
  replace B14:=B14.farCells (g':=w5.heap.size) U [.bool false,.slice A5 k5 c5] 0
  generalize w7.setCells w5.heap.size 0 [.bool false,.slice A5 k5 c5]=w8 at *;refine ls (w1:=w8.setCells (w5.heap.size+1) 0 [.bool false,.slice A6 l6.length k6]) ?_ rfl rfl (by simp [execOp,go_sem,B14.cell,B14.frozen,sz,World.setCells]);obtain ⟨B9,x9,s9⟩:=eJ B14 x8 (Nat.le_succ _) A6 l6.length k6;generalize w8.setCells (w5.heap.size+1) 0 [.bool false,.slice A6 l6.length k6]=w9 at *;clear B13 x7 B14 x8;refine lE3 a9 [4,10] 16 20 17 ?_;clear e16;intro a10 u10 e16 e20 _
  replace sz:=u10.sz.trans sz
  replace df:=u10.df.trans df
  replace e4:=u10.get 4 e4
  replace e10:=u10.get 10 e10
  have c20:=B9.cell;have t9:=hx.size;have t5:=x5.size;have X9:=hx.trans' (x5.trans' x9);have R9:=hR.ext X9;have N9:=NI.of_pos (hl6.ext x9) hd6;obtain ⟨z',A7,k7,c7,e,hN',hb',hE'⟩:=N9.box (g:=w.heap.size+1) (Q:=New (fun _=>False) w.heap.size) (fun b hb=>hb.elim False.elim (fun h=>by omega)) (fun b hb=>hb.elim False.elim (fun h=>.inr U)) R9 (hE.trans' X9) U;injection e with e;have e:=congrArg Array.toList e;simp only [List.cons.injEq,Value.bool.injEq,Value.slice.injEq,and_true] at e;obtain ⟨rfl,rfl,rfl,rfl⟩:=e;refine wp_seq (rW ?_)
  iterate 4 refine lv ?_
  refine ls (w1:=w9.setCells (w.heap.size+1) 0 [.bool false,.slice A6 l6.length k6]) ?_ rfl rfl (by simp [execOp,go_sem,R9.cell,R9.frozen,sz,e10,World.setCells]);refine lv ?_;refine lE2 a10 [10] 10 11 ?_;intro a11 u11 f10 f11;have hbc:=hb'.cell;exact wp_ret (hQ _ _ _ (u11.df.trans df) (by simp [results,Tryz.results162,go_sem,evT f10,evT f11,hbc];try rfl) ⟨_,rfl,hN',hE'⟩)
 by_cases h64:t<64
 ·have h64':(t:Int)<64:=by omega
  iterate 3 refine lv ?_
  iterate 2 refine ly ?_
  refine lcg Tryz.func194 (lB NV NL hb.1) ?_;rintro e w9 ⟨rfl,x9⟩;refine ⟨_,rfl,?_⟩;refine ly ?_;refine lv ?_;refine lE a8 [0,1,4,8,10,15,16,17,18] 46 ?_;intro a9 u9 e46
  by_cases hge:wd i'<L
  ·have hc:rX (wd i') L=-1:=by unfold rX;rw [if_pos hge]
   refine wp_cond_false (e46.trans (by simp [hc])) (wp_exit ?_);refine out a9 w9 (u9.mono rfl) x9 ?_;rw [show 64 - t=(63 - t)+1 by omega];simp [yJ,hge]
  ·have hc:0<=rX (wd i') L:=by have:=@aEz (wd i') L;omega
   refine wp_cond_true (e46.trans (by simp [hc])) (wp_skip (wp_seq (wp_block (wp_seq (rW ?_)))))
   replace sz:=u9.sz.trans sz
   replace df:=u9.df.trans df
   replace e0:=u9.get 0 e0
   replace e1:=u9.get 1 e1
   replace e4:=u9.get 4 e4
   replace e8:=u9.get 8 e8
   replace e10:=u9.get 10 e10
   replace e15:=u9.get 15 e15
   replace e16:=u9.get 16 e16
   replace e17:=u9.get 17 e17
   replace e18:=u9.get 18 e18
   iterate 4 refine lv ?_
   refine lE a9 [0,1,4,8,10,15,17,18] 16 ?_;clear e16;intro a10 u10 e16
   replace e16:Ev a10 (.tmp 16)=.int .i64 ((i'+1:Nat):Int):=e16.trans Y
   replace sz:=u10.sz.trans sz
   replace df:=u10.df.trans df
   replace e0:=u10.get 0 e0
   replace e1:=u10.get 1 e1
   replace e4:=u10.get 4 e4
   replace e8:=u10.get 8 e8
   replace e10:=u10.get 10 e10
   replace e15:=u10.get 15 e15
   replace e17:=u10.get 17 e17
   replace e18:=u10.get 18 e18
   refine rW ?_
   iterate 4 refine lv ?_
   refine lc Tryz.func193 (wY hW (i'+1) U (hw.trans' (hE.trans' x9))) ?_;rintro e w11 ⟨hb1,u11,rfl,hN11,x11⟩;refine ⟨_,rfl,?_⟩;have t9:=x9.size;have t11:=x11.size;have q17:=(qV.ext x9).ext x11;obtain ⟨A7,k7,c7,rfl,hH7,hO7,hB7,hX7,hS7,-⟩:=hN11.put (P:=fun b=>b ≠ w.heap.size+1∧b ≠ g17) hb1.1 (fun b h=>h.elim False.elim (fun h=>by omega)) (fun h=>by omega) q17;refine ls (w1:=w11.setCells g17 0 [.bool false,.slice A7 k7 c7]) ?_ rfl rfl (by simp [execOp,go_sem,q17.cell,q17.frozen,sz,e17,World.setCells]);have HL:=hO7 g15 L U ((show oN W g15 (fun b=>b ≠ w.heap.size+1∧b ≠ g17) L from ⟨AL,kL,cL,qL,NL⟩).ext (x9.trans' x11));have HN:=hO7 w.heap.size n U (hN'.ext (x9.trans' x11));have HR:=hB7 _ _ (show w.heap.size+1 ≠ g17 by omega) ((hR.ext x9).ext x11);have HX:=hX7 w (hE.trans' (x9.trans' x11)) U;refine lE a10 [0,1,4,8,10,15,17,18] 16 ?_;clear e16;intro a11 u11 e16
   replace sz:=u11.sz.trans sz
   replace df:=u11.df.trans df
   replace e0:=u11.get 0 e0
   replace e1:=u11.get 1 e1
   replace e4:=u11.get 4 e4
   replace e8:=u11.get 8 e8
   replace e10:=u11.get 10 e10
   replace e15:=u11.get 15 e15
   replace e17:=u11.get 17 e17
   replace e18:=u11.get 18 e18
   generalize w11.setCells g17 0 [.bool false,.slice A7 k7 c7]=w12 at *;refine rW ?_
   iterate 3 refine lv ?_
   refine lE2 a11 [0,1,4,8,10,15,17] 16 18 ?_;intro a12 u12 f16 f18;refine ⟨⟨t+1,i'+1,((((u8.trans (u9.mono rfl)).trans (u10.mono rfl)).trans (u11.mono rfl)).trans u12),f18.trans Y,f16.trans gn,U,?_,hb1,hH7,HL,HN,HR,HX,U⟩,?_⟩
   ·rw [<- hs,show 64 - t=(64 - (t+1))+1 by omega]
    simp [yJ,hge]
   ·rw [f18]
    simp only [intOf,m18];omega
 ·have h64':¬ (t:Int)<64:=by omega
  iterate 3 refine lv ?_
  iterate 4 refine ln ?_
  refine lv ?_;refine lE a8 [0,1,4,8,10,15,16,17,18] 46 ?_;intro a9 u9 e46;refine wp_cond_false (e46.trans Y) (wp_exit ?_);exact out a9 W (u9.mono rfl) (.refl _) (by rw [show 64 - t=0 by omega];rfl)
end
end Go.Proofs.YtkoeecdjijfjnaaGreat
