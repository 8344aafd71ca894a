/- CorpusPicks: for every input the law returns true, and each argument reads behind the call as it read before. Conditions: none besides the statement's own. -/
import Derived.Test.YtkoeecdjijfjnaaGreatRows
import Derived.WalkKit
import Derived.ProofKit
import Derived.OpenShut
import Derived.SizedLaws
import Derived.Test.YtkoeecdjijfjnaaGreatNR
import Derived.Test.YtkoeecdjijfjnaaGreatNL
import Derived.Test.YtkoeecdjijfjnaaGreatMF
set_option maxRecDepth 100000
set_option maxHeartbeats 8000000
namespace Go.Proofs.YtkoeecdjijfjnaaGreat
open Go.RowKit
section
variable {w w0:World}{sv tx u:Value}{wd:Nat->Int}{n:Int}{P:Nat->Prop}
noncomputable def aMr:=RG Tryz.f119
noncomputable abbrev aW5:Code:=.seq (aMr 0) (.seq (.seq (aMr 1) (.cond (.tmp 19) (.seq (aMr 2) .ret) .skip)) (.seq (aMr 3) (.seq (aMr 4) (.seq (aMr 5) .ret))))
theorem aX0:Tryz.f119.body=some aW5:=aa
theorem aH4 (hW:qF sv tx w0 wd)(i:Nat)(hi:i<100000000000000000)(hw:Ext w0 w)(hn:1<=n∧n<=9999):Calls Tryz.prog 119 #[sv,tx,↑(i:Int),↑n] w fun e w'=>e=.returned (.tuple #[.int .i64 (wd (place wd n i) % n),.int .i64 ((place wd n i:Nat)+1:Int)])∧Ext w w':=by
 refine cI Tryz.func119 aX0 rfl Y (fun a Q sz df ea hQ=>?_);have e0:=ea 0 sv rfl;have e1:=ea 1 tx rfl;have e2:=ea 2 (↑(i:Int)) rfl;have e3:=ea 3 (↑n) rfl;refine wp_seq (rW ?_)
 iterate 2 refine lv ?_
 refine lN a [0,1,2,3] ?_;intro a1 u1
 replace sz:=u1.sz.trans sz
 replace df:=u1.df.trans df
 replace e0:=u1.get 0 e0
 replace e1:=u1.get 1 e1
 replace e2:=u1.get 2 e2
 replace e3:=u1.get 3 e3
 have h1:¬ n<1:=U
 have h2:¬ (4611686018427387904:Int)<n:=U
 refine wp_seq (wp_seq (rW ?_))
 iterate 3 refine lv ?_
 iterate 2 refine ly ?_
 refine lv ?_;refine lE a1 [0,1,2,3] 19 ?_;intro a2 u2 e19
 replace sz:=u2.sz.trans sz
 replace df:=u2.df.trans df
 replace e0:=u2.get 0 e0
 replace e1:=u2.get 1 e1
 replace e2:=u2.get 2 e2
 replace e3:=u2.get 3 e3
 refine wp_cond_false (e19.trans (by simp)) (wp_skip (wp_seq (rW ?_)))
 iterate 4 refine lv ?_
 refine lc Tryz.func163 (iS n w aj) ?_;rintro e w1 ⟨u1,rfl,hN1,x1⟩;refine ⟨_,rfl,?_⟩;refine lc Tryz.func162 (aQd hW i hi (hw.trans' x1) hN1 hn) ?_;rintro e w2 ⟨v,rfl,hN2,x2⟩;have hm0:=Int.emod_nonneg (wd (place wd n i)) (show n ≠ 0 by omega);have hm1:=Int.emod_lt_of_pos (wd (place wd n i)) (show 0<n by omega)
 change NI w2 _ v (wd (place wd n i) % n) at hN2
 change ∃ v_1,_=Ending.returned v_1∧_
 generalize hpl:yJ wd (18446744073709551616 - 18446744073709551616 % n) 63 i=pl
 change place wd n i=pl at hpl
 subst hpl;refine ⟨_,rfl,?_⟩;obtain ⟨l2,A2,k2,rfl,hl2,hd2⟩:=hN2.pos hm0
 iterate 3 refine lv ?_
 have B3:=Blk.new w2 223 #[.bool false,.slice none 0 0];have x3:Ext w2 (w2.alloc (.cells #[.bool false,.slice none 0 0] 223)):=(Ext.refl w2).alloc' _;refine lv ?_;generalize w2.alloc (.cells #[.bool false,.slice none 0 0] 223)=w3 at *;refine ls (w1:=w3.setCells w2.heap.size 0 [.bool false,.slice A2 l2.length k2]) ?_ rfl rfl (by simp [execOp,go_sem,B3.cell,B3.frozen,sz,World.setCells]);obtain ⟨B4,x4,s4⟩:=eJ B3 x3 (Nat.le_refl _) A2 l2.length k2;generalize w3.setCells w2.heap.size 0 [.bool false,.slice A2 l2.length k2]=w4 at *;clear B3 x3;refine lv ?_;refine lE2 a2 [] 10 11 ?_;intro a3 u3 e10 e11
 replace sz:=u3.sz.trans sz
 replace df:=u3.df.trans df
 have c10:=B4.cell;refine wp_seq (rW ?_);refine lv ?_;refine lc Tryz.func164 (vM (NI.of_pos (hl2.ext x4) hd2) hm0 U) ?_;rintro e w5 ⟨rfl,x5⟩;refine ⟨_,rfl,?_⟩
 iterate 5 refine lv ?_
 refine lE2 a3 [11] 12 11 ?_;clear e11;intro a4 u4 e12 e11
 replace sz:=u4.sz.trans sz
 replace df:=u4.df.trans df
 refine wp_seq (rW ?_)
 iterate 4 refine lv ?_
 refine lE2 a4 [] 8 9 ?_;intro a5 u5 e8 e9;exact wp_ret (hQ _ _ _ (u5.df.trans df) (by simp [results,Tryz.results119,go_sem,evT e8,evT e9];try rfl) ⟨rfl,x1.trans' (x2.trans' (x4.trans' x5))⟩)
end
end Go.Proofs.YtkoeecdjijfjnaaGreat
namespace Go.Proofs.YtkoeecdjijfjnaaGreat
open Go.RowKit
def xR (l:List Int)(r:Int):Nat->Nat->Nat
 | 0,j=>j
 | f+1,j=>if r<(l.take (j+1)).sum then j else xR l r f (j+1)
theorem lL {l:List Int}{j:Nat}(h:j<l.length):(l.take (j+1)).sum=(l.take j).sum+l.getD j 0:=by
 rw [List.take_add_one,List.sum_append];simp [h]
section
variable {w w0:World}{sv tx u:Value}{wd:Nat->Int}{l:List Int}{P:Nat->Prop}{A:Option Addr}{c:Nat}
noncomputable def R67:=RG Tryz.f67
noncomputable abbrev c67:Code:=.seq (R67 0) (.seq (R67 1) (.seq (.seq (R67 2) (.block 0 (.loop (.seq (.seq (R67 3) (.cond (.tmp 20) .skip (.exit 0))) (.seq (.block 1 (.seq (.seq (R67 5) (.cond (.tmp 34) (.seq (R67 6) .ret) .skip)) (R67 7))) (R67 4)))))) (.seq (.seq (R67 8) (.cond (.tmp 48) (.seq (R67 9) .ret) .skip)) (.seq (R67 10) (.seq (R67 11) (.seq (.seq (R67 12) (.block 2 (.loop (.seq (.seq (R67 13) (.cond (.tmp 61) .skip (.exit 2))) (.seq (.block 3 (.seq (R67 15) (.seq (R67 16) (.cond (.tmp 72) (.seq (R67 17) .ret) .skip)))) (R67 14)))))) (.seq (R67 18) .ret)))))))
theorem b67:Tryz.f67.body=some c67:=aa
theorem aPb (hW:qF sv tx w0 wd)(i:Nat)(hi:i<100000000000000000)(hw:Ext w0 w)(hl:aU w P (.slice A l.length c) l)(hn:1<=l.sum∧l.sum<=9999)(h4:l.length<=4096)(hx:∀ j,0<=l.getD j 0∧l.getD j 0<=64)(hp:∀ j,0<=(l.take j).sum∧(l.take j).sum<=9999):Calls Tryz.prog 67 #[sv,tx,↑(i:Int),.slice A l.length c] w fun e w'=>e=.returned (.tuple #[.int .i64 (xR l (wd (place wd l.sum i) % l.sum) l.length 0:Nat),.int .i64 ((place wd l.sum i:Nat)+1:Int),.int .i64 0])∧Ext w w':=by
 refine cI Tryz.func67 b67 rfl Y (fun a Q sz df ea hQ=>?_);have e0:=ea 0 sv rfl;have e1:=ea 1 tx rfl;have e2:=ea 2 (↑(i:Int)) rfl;have e3:=ea 3 (.slice A l.length c) rfl;refine wp_seq (rW ?_)
 iterate 3 refine lv ?_
 refine lN a [0,1,2,3] ?_;intro a1 u1
 replace sz:=u1.sz.trans sz
 replace df:=u1.df.trans df
 replace e0:=u1.get 0 e0
 replace e1:=u1.get 1 e1
 replace e2:=u1.get 2 e2
 replace e3:=u1.get 3 e3
 refine wp_seq (rW ?_);refine lv ?_;refine lE a1 [0,1,2,3] 11 ?_;intro a2 u2 e11
 replace sz:=u2.sz.trans sz
 replace df:=u2.df.trans df
 replace e0:=u2.get 0 e0
 replace e1:=u2.get 1 e1
 replace e2:=u2.get 2 e2
 replace e3:=u2.get 3 e3
 refine wp_seq (wp_seq (rW ?_));refine lv ?_;refine lE2 a2 [0,1,2,3] 11 12 ?_;clear e11;intro a3 u3 e11 e12
 replace sz:=u3.sz.trans sz
 replace df:=u3.df.trans df
 replace e0:=u3.get 0 e0
 replace e1:=u3.get 1 e1
 replace e2:=u3.get 2 e2
 replace e3:=u3.get 3 e3
 refine wp_block (wp_loop (fun a' W=>∃ (j:Nat),Ag [0,1,2,3] a3 a'∧Ev a' (.tmp 11)=.int .i64 ((l.take j).sum)∧Ev a' (.tmp 12)=↑(j:Int)∧j<=l.length∧W=w) (fun a' _=>(l.length - intOf (Ev a' (.tmp 12))).toNat) ⟨0,.rf,by simpa using e11,by simpa using e12,U,rfl⟩ ?_);clear e11 e12;rintro a4 W ⟨j,u4,e11,e12,hj,rfl⟩
 replace sz:=u4.sz.trans sz
 replace df:=u4.df.trans df
 replace e0:=u4.get 0 e0
 replace e1:=u4.get 1 e1
 replace e2:=u4.get 2 e2
 replace e3:=u4.get 3 e3
 refine wp_seq (wp_seq (rW ?_))
 iterate 4 refine lv ?_
 refine lE a4 [0,1,2,3,11,12] 20 ?_;intro a5 u5 e20;have m12:=e12
 replace sz:=u5.sz.trans sz
 replace df:=u5.df.trans df
 replace e0:=u5.get 0 e0
 replace e1:=u5.get 1 e1
 replace e2:=u5.get 2 e2
 replace e3:=u5.get 3 e3
 replace e11:=u5.get 11 e11
 replace e12:=u5.get 12 e12
 by_cases hlt:j<l.length
 ·refine wp_cond_true (e20.trans ar) (wp_skip (wp_seq (wp_block (wp_seq (wp_seq (rW ?_))))))
  obtain ⟨bx,ox,hAx,-,-,hcx⟩:=hl.get hlt;have hxj:=hx j;have hp1:=hp (j+1);have hts:=lL hlt;generalize l.getD j 0=x at *;generalize (l.take j).sum=s at *;generalize hs1:(l.take (j+1)).sum=s1 at *;have h1:¬ x<0:=by omega
  have h2:¬ (1099511627776:Int)<x:=U
  iterate 6 refine lv ?_
  iterate 5 refine ly ?_
  refine lv ?_;refine lE a5 [0,1,2,3,11,12] 34 ?_;intro a6 u6 e34
  replace sz:=u6.sz.trans sz
  replace df:=u6.df.trans df
  replace e0:=u6.get 0 e0
  replace e1:=u6.get 1 e1
  replace e2:=u6.get 2 e2
  replace e3:=u6.get 3 e3
  replace e11:=u6.get 11 e11
  replace e12:=u6.get 12 e12
  refine wp_cond_false (e34.trans (by simp)) (wp_skip (rW ?_))
  iterate 7 refine lv ?_
  refine lE2 a6 [0,1,2,3] 12 11 ?_;clear e11 e12;intro a7 u7 e12 e11
  replace sz:=u7.sz.trans sz
  replace df:=u7.df.trans df
  replace e0:=u7.get 0 e0
  replace e1:=u7.get 1 e1
  replace e2:=u7.get 2 e2
  replace e3:=u7.get 3 e3
  refine rW ?_
  iterate 3 refine lv ?_
  refine lE2 a7 [0,1,2,3] 11 12 ?_;intro a8 u8 f11 f12;refine ⟨⟨j+1,(((u4.trans (u5.mono rfl)).trans (u6.mono rfl)).trans u7).trans u8,f11.trans fs,f12.trans Y,hlt,rfl⟩,?_⟩;rw [f12,m12];simp only [intOf];omega
 ·refine wp_cond_false (e20.trans ar) (wp_exit (wp_seq (wp_seq (rW ?_))))
  obtain rfl:j=l.length:=U
  rw [List.take_length] at e11;have h1:(l.sum == 0)=false:=by simp;omega
  have h2:¬ (4096:Int)<l.length:=U
  iterate 3 refine lv ?_
  iterate 3 refine ly ?_
  refine lv ?_;refine lE a5 [0,1,2,3,11] 48 ?_;intro a6 u6 e48
  replace sz:=u6.sz.trans sz
  replace df:=u6.df.trans df
  replace e0:=u6.get 0 e0
  replace e1:=u6.get 1 e1
  replace e2:=u6.get 2 e2
  replace e3:=u6.get 3 e3
  replace e11:=u6.get 11 e11
  refine wp_cond_false (e48.trans (by simp;try omega)) (wp_skip (wp_seq (rW ?_)))
  iterate 4 refine lv ?_
  refine lc Tryz.func119 (aH4 hW i hi hw hn) ?_;rintro e w1 ⟨rfl,x1⟩;refine ⟨_,rfl,?_⟩
  iterate 5 refine lv ?_
  refine lE2 a6 [3] 13 14 ?_;intro a7 u7 e13 e14
  replace sz:=u7.sz.trans sz
  replace df:=u7.df.trans df
  replace e3:=u7.get 3 e3
  have hm0:=Int.emod_nonneg (wd (place wd l.sum i)) (show l.sum ≠ 0 by omega);have hm1:=Int.emod_lt_of_pos (wd (place wd l.sum i)) (show 0<l.sum by omega);generalize wd (place wd l.sum i) % l.sum=r at *;refine wp_seq (rW ?_);refine lv ?_;refine lE2 a7 [3,13] 14 15 ?_;clear e14;intro a8 u8 e14 e15
  replace sz:=u8.sz.trans sz
  replace df:=u8.df.trans df
  replace e3:=u8.get 3 e3
  replace e13:=u8.get 13 e13
  refine wp_seq (wp_seq (rW ?_));refine lv ?_;refine lE3 a8 [3,13] 14 15 16 ?_;clear e14 e15;intro a9 u9 e14 e15 e16
  replace sz:=u9.sz.trans sz
  replace df:=u9.df.trans df
  replace e3:=u9.get 3 e3
  replace e13:=u9.get 13 e13
  refine wp_block (wp_loop (fun a' W=>∃ (j:Nat),Ag [3,13,14] a9 a'∧Ev a' (.tmp 15)=.int .i64 ((l.take j).sum)∧Ev a' (.tmp 16)=↑(j:Int)∧j<=l.length∧(l.take j).sum<=r∧xR l r (l.length - j) j=xR l r l.length 0∧W=w1) (fun a' _=>(l.length - intOf (Ev a' (.tmp 16))).toNat) ⟨0,.rf,by simpa using e15,by simpa using e16,U,by simpa using hm0,rfl,rfl⟩ ?_);clear e15 e16;rintro a10 W ⟨j,u10,e15,e16,hj,hr,hc,rfl⟩
  replace sz:=u10.sz.trans sz
  replace df:=u10.df.trans df
  replace e3:=u10.get 3 e3
  replace e13:=u10.get 13 e13
  replace e14:=u10.get 14 e14
  refine wp_seq (wp_seq (rW ?_))
  iterate 4 refine lv ?_
  refine lE a10 [3,13,14,15,16] 61 ?_;intro a11 u11 e61;have m16:=e16
  replace sz:=u11.sz.trans sz
  replace df:=u11.df.trans df
  replace e3:=u11.get 3 e3
  replace e13:=u11.get 13 e13
  replace e14:=u11.get 14 e14
  replace e15:=u11.get 15 e15
  replace e16:=u11.get 16 e16
  have hlt:j<l.length:=by
   by_cases h:j<l.length
   ·exact h
   ·obtain rfl:j=l.length:=by omega
    rw [List.take_length] at hr;omega
  refine wp_cond_true (e61.trans ar) (wp_skip (wp_seq (wp_block (wp_seq (rW ?_)))));obtain ⟨bx,ox,hAx,-,-,hcx⟩:=hl.get hlt
  replace hcx:=aA x1 hcx
  have hxj:=hx j;have hp1:=hp (j+1);have hts:=lL hlt;generalize l.getD j 0=x at *;generalize hs0:(l.take j).sum=s at *;generalize hs1:(l.take (j+1)).sum=s1 at *
  iterate 7 refine lv ?_
  refine lE2 a11 [3,13,14,16] 16 15 ?_;clear e15 e16;intro a12 u12 e16 e15
  replace sz:=u12.sz.trans sz
  replace df:=u12.df.trans df
  replace e3:=u12.get 3 e3
  replace e13:=u12.get 13 e13
  replace e14:=u12.get 14 e14
  refine wp_seq (rW ?_)
  iterate 3 refine lv ?_
  refine lE3 a12 [3,13,14] 72 15 16 ?_;clear e15 e16;intro a13 u13 e72 e15 e16
  replace sz:=u13.sz.trans sz
  replace df:=u13.df.trans df
  replace e3:=u13.get 3 e3
  replace e13:=u13.get 13 e13
  replace e14:=u13.get 14 e14
  have hun:xR l r (l.length - j) j=if r<s1 then j else xR l r (l.length - (j+1)) (j+1):=by
   rw [show l.length - j=(l.length - (j+1))+1 by omega];simp only [xR,hs1]
  by_cases hgt:r<s1
  ·refine wp_cond_true (e72.trans ab) (wp_seq (rW ?_))
   iterate 5 refine lv ?_
   refine lE3 a13 [] 8 9 10 ?_;intro a14 u14 e8 e9 e10;rw [hun,if_pos hgt] at hc;rw [<- hc] at hQ;exact wp_ret (hQ _ _ _ (u14.df.trans df) (by simp [results,Tryz.results67,go_sem,evT e8,evT e9,evT e10];try rfl) ⟨rfl,x1⟩)
  ·refine wp_cond_false (e72.trans ab) (wp_skip ?_)
   refine rW ?_
   iterate 3 refine lv ?_
   refine lE2 a13 [3,13,14] 15 16 ?_;intro a14 u14 f15 f16;rw [hun,if_neg hgt] at hc;refine ⟨⟨j+1,(((u10.trans (u11.mono rfl)).trans (u12.mono rfl)).trans u13).trans u14,f15.trans fs,f16.trans Y,hlt,by rw [hs1];omega,hc,rfl⟩,?_⟩;rw [f16,m16];simp only [intOf];omega
end
end Go.Proofs.YtkoeecdjijfjnaaGreat
namespace Go.Proofs.YtkoeecdjijfjnaaGreat
open Go.RowKit
section
variable {w:World}{x:Int}{l:List Int}{P:Nat->Prop}{A:Option Addr}{c:Nat}
noncomputable def R66:=RG Tryz.f66
noncomputable abbrev c66:Code:=.seq (R66 0) (.seq (.seq (R66 1) (.cond (.tmp 25) (.seq (R66 2) .ret) .skip)) (.seq (R66 3) (.seq (.seq (R66 4) (.block 0 (.loop (.seq (R66 5) (.seq (.cond (.tmp 30) .skip (.exit 0)) (.seq (.block 1 (.seq (R66 6) (.seq (.seq (R66 7) (.cond (.tmp 38) (.seq (R66 8) .ret) .skip)) (R66 9)))) (R66 10))))))) (.seq (.seq (R66 11) (.cond (.tmp 45) (.seq (R66 12) .ret) .skip)) (.seq (R66 13) (.seq (.seq (R66 14) (.block 2 (.loop (.seq (R66 15) (.seq (.cond (.tmp 58) .skip (.exit 2)) (.seq (.block 3 (.seq (R66 16) (.seq (.seq (R66 17) (.cond (.tmp 64) (.seq (R66 18) .ret) .skip)) (R66 19)))) (R66 20))))))) (.seq (R66 21) .ret)))))))
theorem b66:Tryz.f66.body=some c66:=aa
theorem aPc (hx':0<=x∧x<18446744073709551616)(hl:aU w P (.slice A l.length c) l)(hn:1<=l.sum∧l.sum<=9999)(h4:l.length<=4096)(hx:∀ j,0<=l.getD j 0∧l.getD j 0<=64)(hp:∀ j,0<=(l.take j).sum∧(l.take j).sum<=9999):Calls Tryz.prog 66 #[.int .u64 x,lbl,.int .i64 0,.slice A l.length c] w fun e w'=>e=.returned (.tuple #[.int .i64 (xR l (dB x (place (fun j=>dB x j) l.sum 0:Nat) % l.sum) l.length 0:Nat),.int .i64 ((place (fun j=>dB x j) l.sum 0:Nat)+1:Int),.int .i64 0])∧Ext w w':=by
 refine cI Tryz.func66 b66 rfl Y (fun a Q sz df ea hQ=>?_);have e0:=ea 0 (.int .u64 x) rfl;have e1:=ea 1 lbl rfl;have e2:=ea 2 (.int .i64 0) rfl;have e3:=ea 3 (.slice A l.length c) rfl
 have hne:l.length ≠ 0:=by
  intro h;rw [List.length_eq_zero_iff] at h;rw [h] at hn;simp at hn
 refine wp_seq (rW ?_)
 iterate 3 refine lv ?_
 refine lN a [0,1,2,3] ?_;intro a1 u1
 replace sz:=u1.sz.trans sz
 replace df:=u1.df.trans df
 replace e0:=u1.get 0 e0
 replace e1:=u1.get 1 e1
 replace e2:=u1.get 2 e2
 replace e3:=u1.get 3 e3
 have hq1:((l.length:Int) == 0)=false:=aYm U;have hq2:¬ (4096:Int)<l.length:=by omega
 refine wp_seq (wp_seq (rW ?_))
 iterate 4 refine lv ?_
 iterate 3 refine ly ?_
 refine lv ?_;refine lE a1 [0,1,2,3] 25 ?_;intro a2 u2 e25
 replace sz:=u2.sz.trans sz
 replace df:=u2.df.trans df
 replace e0:=u2.get 0 e0
 replace e1:=u2.get 1 e1
 replace e2:=u2.get 2 e2
 replace e3:=u2.get 3 e3
 refine wp_cond_false e25 (wp_skip (wp_seq (rW ?_)));refine lv ?_;refine lE a2 [0,1,2,3] 11 ?_;intro a3 u3 e11
 replace sz:=u3.sz.trans sz
 replace df:=u3.df.trans df
 replace e0:=u3.get 0 e0
 replace e1:=u3.get 1 e1
 replace e2:=u3.get 2 e2
 replace e3:=u3.get 3 e3
 refine wp_seq (wp_seq (rW ?_))
 iterate 3 refine lv ?_
 refine lE3 a3 [0,1,2,3,11] 27 28 29 ?_;intro a4 u4 e27 e28 e29
 replace sz:=u4.sz.trans sz
 replace df:=u4.df.trans df
 replace e0:=u4.get 0 e0
 replace e1:=u4.get 1 e1
 replace e2:=u4.get 2 e2
 replace e3:=u4.get 3 e3
 replace e11:=u4.get 11 e11
 refine wp_block (wp_loop (fun a' W=>∃ (j:Nat),Ag [0,1,2,3,27,28] a4 a'∧Ev a' (.tmp 11)=.int .i64 ((l.take j).sum)∧Ev a' (.tmp 29)=↑(j:Int)∧j<=l.length∧W=w) (fun a' _=>(l.length - intOf (Ev a' (.tmp 29))).toNat) ⟨0,.rf,by simpa using e11,by simpa using e29,U,rfl⟩ ?_);clear e11 e29;rintro a5 W ⟨j,u5,e11,e29,hj,rfl⟩
 replace sz:=u5.sz.trans sz
 replace df:=u5.df.trans df
 replace e0:=u5.get 0 e0
 replace e1:=u5.get 1 e1
 replace e2:=u5.get 2 e2
 replace e3:=u5.get 3 e3
 replace e27:=u5.get 27 e27
 replace e28:=u5.get 28 e28
 refine wp_seq (rW ?_);refine lv ?_;refine lE a5 [0,1,2,3,27,28,11,29] 30 ?_;intro a6 u6 e30;have m29:=e29
 replace sz:=u6.sz.trans sz
 replace df:=u6.df.trans df
 replace e0:=u6.get 0 e0
 replace e1:=u6.get 1 e1
 replace e2:=u6.get 2 e2
 replace e3:=u6.get 3 e3
 replace e27:=u6.get 27 e27
 replace e28:=u6.get 28 e28
 replace e11:=u6.get 11 e11
 replace e29:=u6.get 29 e29
 by_cases hlt:j<l.length
 ·refine wp_seq (wp_cond_true (e30.trans ar) (wp_skip (wp_seq (wp_block (wp_seq (rW ?_))))))
  obtain ⟨bx,ox,hAx,-,-,hcx⟩:=hl.get hlt;have hxj:=hx j;have hp1:=hp (j+1);have hts:=lL hlt;generalize l.getD j 0=y at *;generalize (l.take j).sum=s at *;generalize hs1:(l.take (j+1)).sum=s1 at *;have h1:¬ y<0:=by omega
  have h2:¬ (1099511627776:Int)<y:=U
  iterate 3 refine lv ?_
  refine lE a6 [0,1,2,3,27,28,11,29] 13 ?_;intro a7 u7 e13
  replace sz:=u7.sz.trans sz
  replace df:=u7.df.trans df
  replace e0:=u7.get 0 e0
  replace e1:=u7.get 1 e1
  replace e2:=u7.get 2 e2
  replace e3:=u7.get 3 e3
  replace e27:=u7.get 27 e27
  replace e28:=u7.get 28 e28
  replace e11:=u7.get 11 e11
  replace e29:=u7.get 29 e29
  refine wp_seq (wp_seq (rW ?_))
  iterate 3 refine lv ?_
  iterate 2 refine ly ?_
  refine lv ?_;refine lE a7 [0,1,2,3,27,28,11,29,13] 38 ?_;intro a8 u8 e38
  replace sz:=u8.sz.trans sz
  replace df:=u8.df.trans df
  replace e0:=u8.get 0 e0
  replace e1:=u8.get 1 e1
  replace e2:=u8.get 2 e2
  replace e3:=u8.get 3 e3
  replace e27:=u8.get 27 e27
  replace e28:=u8.get 28 e28
  replace e11:=u8.get 11 e11
  replace e29:=u8.get 29 e29
  replace e13:=u8.get 13 e13
  refine wp_cond_false (e38.trans (by simp)) (wp_skip (rW ?_))
  iterate 4 refine lv ?_
  refine lE a8 [0,1,2,3,27,28,29] 11 ?_;clear e11;intro a9 u9 e11
  replace sz:=u9.sz.trans sz
  replace df:=u9.df.trans df
  replace e0:=u9.get 0 e0
  replace e1:=u9.get 1 e1
  replace e2:=u9.get 2 e2
  replace e3:=u9.get 3 e3
  replace e27:=u9.get 27 e27
  replace e28:=u9.get 28 e28
  replace e29:=u9.get 29 e29
  refine rW ?_
  iterate 2 refine lv ?_
  refine lE2 a9 [0,1,2,3,27,28] 11 29 ?_;intro a10 u10 f11 f29;refine ⟨⟨j+1,(((u5.trans (u6.mono rfl)).trans (u7.mono rfl)).trans (u8.mono rfl)).trans ((u9.mono rfl).trans u10),f11.trans fs,f29.trans Y,hlt,rfl⟩,?_⟩;rw [f29,m29];simp only [intOf];omega
 ·refine wp_seq (wp_cond_false (e30.trans ar) (wp_exit (wp_seq (wp_seq (rW ?_)))))
  obtain rfl:j=l.length:=U
  rw [List.take_length] at e11;have h1:(l.sum == 0)=false:=aYm U
  iterate 2 refine lv ?_
  refine lE a6 [0,1,2,3,11] 45 ?_;intro a7 u7 e45
  replace sz:=u7.sz.trans sz
  replace df:=u7.df.trans df
  replace e0:=u7.get 0 e0
  replace e1:=u7.get 1 e1
  replace e2:=u7.get 2 e2
  replace e3:=u7.get 3 e3
  replace e11:=u7.get 11 e11
  refine wp_cond_false e45 (wp_skip (wp_seq (rW ?_)))
  iterate 4 refine lv ?_
  refine lc Tryz.func118 (aH5 hx' 0 U hn) ?_ (hv:=by simp [*]);rintro e w1 ⟨rfl,x1⟩;refine ⟨_,rfl,?_⟩
  iterate 5 refine lv ?_
  refine lE2 a7 [3] 14 15 ?_;intro a8 u8 e14 e15
  replace sz:=u8.sz.trans sz
  replace df:=u8.df.trans df
  replace e3:=u8.get 3 e3
  have hm0:=Int.emod_nonneg (dB x (place (fun j=>dB x j) l.sum 0:Nat)) (show l.sum ≠ 0 by omega);have hm1:=Int.emod_lt_of_pos (dB x (place (fun j=>dB x j) l.sum 0:Nat)) (show 0<l.sum by omega);generalize dB x (place (fun j=>dB x j) l.sum 0:Nat) % l.sum=r at *;generalize place (fun j=>dB x j) l.sum 0=pl at *;refine wp_seq (wp_seq (rW ?_))
  iterate 3 refine lv ?_
  refine lE3 a8 [3,14,15] 55 56 57 ?_;intro a9 u9 e55 e56 e57
  replace sz:=u9.sz.trans sz
  replace df:=u9.df.trans df
  replace e3:=u9.get 3 e3
  replace e14:=u9.get 14 e14
  replace e15:=u9.get 15 e15
  refine wp_block (wp_loop (fun a' W=>∃ (j:Nat),Ag [15,55,56] a9 a'∧Ev a' (.tmp 14)=.int .i64 (r - (l.take j).sum)∧Ev a' (.tmp 57)=↑(j:Int)∧j<=l.length∧(l.take j).sum<=r∧xR l r (l.length - j) j=xR l r l.length 0∧W=w1) (fun a' _=>(l.length - intOf (Ev a' (.tmp 57))).toNat) ⟨0,.rf,by simpa using e14,by simpa using e57,U,by simpa using hm0,rfl,rfl⟩ ?_);clear e14 e57;rintro a10 W ⟨j,u10,e14,e57,hj,hr,hc,rfl⟩
  replace sz:=u10.sz.trans sz
  replace df:=u10.df.trans df
  replace e15:=u10.get 15 e15
  replace e55:=u10.get 55 e55
  replace e56:=u10.get 56 e56
  have m57:=e57;refine wp_seq (rW ?_);refine lv ?_;refine lE a10 [14,15,55,56,57] 58 ?_;intro a11 u11 e58
  replace sz:=u11.sz.trans sz
  replace df:=u11.df.trans df
  replace e14:=u11.get 14 e14
  replace e15:=u11.get 15 e15
  replace e55:=u11.get 55 e55
  replace e56:=u11.get 56 e56
  replace e57:=u11.get 57 e57
  have hlt:j<l.length:=by
   by_cases h:j<l.length
   ·exact h
   ·obtain rfl:j=l.length:=by omega
    rw [List.take_length] at hr;omega
  refine wp_seq (wp_cond_true (e58.trans ar) (wp_skip (wp_seq (wp_block (wp_seq (rW ?_))))));obtain ⟨bx,ox,hAx,-,-,hcx⟩:=hl.get hlt
  replace hcx:=aA x1 hcx
  have hxj:=hx j;have hp1:=hp (j+1);have hts:=lL hlt;generalize l.getD j 0=y at *;generalize hs0:(l.take j).sum=s at *;generalize hs1:(l.take (j+1)).sum=s1 at *
  iterate 5 refine lv ?_
  refine lE2 a11 [14,15,55,56,57] 16 17 ?_;intro a12 u12 e16 e17
  replace sz:=u12.sz.trans sz
  replace df:=u12.df.trans df
  replace e14:=u12.get 14 e14
  replace e15:=u12.get 15 e15
  replace e55:=u12.get 55 e55
  replace e56:=u12.get 56 e56
  replace e57:=u12.get 57 e57
  refine wp_seq (wp_seq (rW ?_))
  iterate 3 refine lv ?_
  refine lE a12 [14,15,55,56,57,16,17] 64 ?_;intro a13 u13 e64
  replace sz:=u13.sz.trans sz
  replace df:=u13.df.trans df
  replace e14:=u13.get 14 e14
  replace e15:=u13.get 15 e15
  replace e55:=u13.get 55 e55
  replace e56:=u13.get 56 e56
  replace e57:=u13.get 57 e57
  replace e16:=u13.get 16 e16
  replace e17:=u13.get 17 e17
  have hun:xR l r (l.length - j) j=if r<s1 then j else xR l r (l.length - (j+1)) (j+1):=by
   rw [show l.length - j=(l.length - (j+1))+1 by omega];simp only [xR,hs1]
  by_cases hgt:r<s1
  ·refine wp_cond_true (e64.trans ab) (wp_seq (rW ?_))
   iterate 5 refine lv ?_
   refine lE3 a13 [] 8 9 10 ?_;intro a14 u14 e8 e9 e10;rw [hun,if_pos hgt] at hc;rw [<- hc] at hQ;exact wp_ret (hQ _ _ _ (u14.df.trans df) (by simp [results,Tryz.results66,go_sem,evT e8,evT e9,evT e10];try rfl) ⟨rfl,x1⟩)
  ·refine wp_cond_false (e64.trans ab) (wp_skip (rW ?_))
   iterate 4 refine lv ?_
   refine lE a13 [15,55,56,57] 14 ?_;clear e14;intro a14 u14 e14
   replace sz:=u14.sz.trans sz
   replace df:=u14.df.trans df
   replace e15:=u14.get 15 e15
   replace e55:=u14.get 55 e55
   replace e56:=u14.get 56 e56
   replace e57:=u14.get 57 e57
   refine rW ?_
   iterate 2 refine lv ?_
   refine lE2 a14 [15,55,56] 14 57 ?_;intro a15 u15 f14 f57;rw [hun,if_neg hgt] at hc;refine ⟨⟨j+1,((((u10.trans (u11.mono rfl)).trans (u12.mono rfl)).trans (u13.mono rfl)).trans (u14.mono rfl)).trans u15,f14.trans fs,f57.trans Y,hlt,by rw [hs1];omega,hc,rfl⟩,?_⟩;rw [f57,m57];simp only [intOf];omega
end
end Go.Proofs.YtkoeecdjijfjnaaGreat
namespace Go.Proofs.YtkoeecdjijfjnaaGreat
open Go.RowKit
def wtE (e:GE):Int:=if e.fresh then 4 else 1
def wtL (L:List GE):List Int:=L.map wtE
def pkE (x:Int)(L:List GE):Nat:=xR (wtL L) (dB x (place (fun j=>dB x j) (wtL L).sum 0:Nat) % (wtL L).sum) L.length 0
theorem zU (e:GE):1<=wtE e∧wtE e<=4:=by unfold wtE;split <;> omega
theorem aC5:∀ L:List GE,(L.length:Int)<=(wtL L).sum∧(wtL L).sum<=4*(L.length:Int)
 | []=>by simp [wtL]
 | e :: L=>by
  have ih:=aC5 L;have h:=zU e;have h1:(wtL (e :: L)).sum=wtE e+(wtL L).sum:=by simp [wtL]
  rw [h1,List.length_cons];omega
theorem sJ (L:List GE):(wtL L).length=L.length:=by simp [wtL]
theorem aF9 (L:List GE)(j:Nat):(wtL L).take j=wtL (L.take j):=by simp [wtL]
theorem aIh (L:List GE)(j:Nat):0<=(wtL L).getD j 0∧(wtL L).getD j 0<=64:=by
 by_cases h:j<L.length
 ·rw [List.getD,wtL,List.getElem?_map,List.getElem?_eq_getElem h]
  have:=zU L[j];simp;omega
 ·rw [List.getD,wtL,List.getElem?_map,List.getElem?_eq_none U]
  simp
theorem zS {L:List GE}(h:L.length<=1000)(j:Nat):0<=((wtL L).take j).sum∧((wtL L).take j).sum<=9999:=by
 rw [aF9];have:=aC5 (L.take j);have h1:(L.take j).length<=L.length:=by rw [List.length_take];omega
 omega
theorem xT {L:List GE}(h:L.length<=1000)(h0:L ≠ []):1<=(wtL L).sum∧(wtL L).sum<=9999:=by
 have:=aC5 L;have:=List.length_pos_iff.2 h0;omega
theorem zT {L:List GE}{j:Nat}(h:j<L.length):wtL (L.take (j+1))=wtL (L.take j) ++ [wtE (L.getD j default)]:=by
 rw [zZ default h];simp [wtL]
theorem aEy {l:List Int}{r:Int}(hr:r<l.sum):∀ (f j:Nat),j+f=l.length->(l.take j).sum<=r->xR l r f j<l.length
 | 0,j,h,h'=>by
  rw [show j=l.length by omega,List.take_length] at h';omega
 | f+1,j,h,h'=>by
  unfold xR
  split
  ·omega
  ·exact aEy hr f (j+1) U U
theorem aDu {x:Int}{L:List GE}(h:L.length<=1000)(h0:L ≠ []):pkE x L<L.length:=by
 have hs:=xT h h0;have h1:=Int.emod_nonneg (dB x (place (fun j=>dB x j) (wtL L).sum 0:Nat)) (show (wtL L).sum ≠ 0 by omega);have h2:=Int.emod_lt_of_pos (dB x (place (fun j=>dB x j) (wtL L).sum 0:Nat)) (show 0<(wtL L).sum by omega);have:=aEy h2 L.length 0 (by rw [sJ];omega) (by simpa using h1);rw [sJ] at this;exact this
section
variable {w:World}{x b:Int}{L:List GE}{t:List GN}{vn ve:Value}{g:CA}{P:Nat->Prop}{m:Nat}
noncomputable def R31:=RG Tryz.f31
noncomputable abbrev c31:Code:=.seq (R31 0) (.seq (.seq (R31 1) (.cond (.tmp 17) (.seq (R31 2) .ret) .skip)) (.seq (R31 3) (.seq (.seq (R31 4) (.block 0 (.loop (.seq (R31 5) (.seq (.cond (.tmp 24) .skip (.exit 0)) (.seq (.block 1 (.seq (R31 6) (.seq (R31 7) (.cond (.tmp 28) (R31 8) (R31 9))))) (R31 10))))))) (.seq (R31 11) (.seq (R31 12) .ret)))))
theorem b31:Tryz.f31.body=some c31:=aa
noncomputable def R32:=RG Tryz.f32
noncomputable abbrev c32:Code:=.seq (R32 0) (.seq (.seq (R32 1) (.cond (.tmp 16) (.seq (R32 2) .ret) .skip)) (.seq (R32 3) (.seq (.seq (R32 4) (.block 0 (.loop (.seq (.seq (R32 5) (.cond (.tmp 23) .skip (.exit 0))) (.seq (.block 1 (.seq (R32 7) (.cond (.tmp 33) (R32 8) (R32 9)))) (R32 6)))))) (.seq (R32 10) (.seq (R32 11) .ret)))))
theorem b32:Tryz.f32.body=some c32:=aa
theorem aJl {w0:World}(hx:0<=x∧x<18446744073709551616):qF (.int .u64 x) lbl w0 (fun i=>dB x i):=fun i w hi _=>(aJm hx ⟨U,U⟩).mono (fun _ _ h=>⟨h.1,aAm _ _,h.2⟩)
def uR (L:List GE)(x:Int)(w:World)(e:Ending)(w':World):Prop :=
 Ext w w'∧((L=[]∧e=.returned (.tuple #[.slice none 0 0,.bool false]))∨(L ≠ []∧∃ A d Q,e=.returned (.tuple #[.slice A (L.getD (pkE x L) default).path.length d,.bool true])∧aU w' Q (.slice A (L.getD (pkE x L) default).path.length d) (L.getD (pkE x L) default).path))
theorem aPe (hx':0<=x∧x<18446744073709551616)(h:dO t vn b L g P ve w)(h16:L.length<=1000):Calls Tryz.prog 31 #[.pointer (some ⟨g.c,0,none⟩),.int .u64 x] w (uR L x w):=by
 have c3:=h.cell3;have hE:=h.ens;have hsh:=h.short;clear h;obtain ⟨Al,cl,rfl,-,-⟩:=Lst.form hE;refine cI Tryz.func31 b31 rfl Y (fun a Q sz df ea hQ=>?_);have e0:=ea 0 (.pointer (some ⟨g.c,0,none⟩)) rfl;have e1:=ea 1 (.int .u64 x) rfl;refine wp_seq (rW ?_)
 iterate 2 refine lv ?_
 refine lN a [0,1] ?_;intro a1 u1
 replace sz:=u1.sz.trans sz
 replace df:=u1.df.trans df
 replace e0:=u1.get 0 e0
 replace e1:=u1.get 1 e1
 refine wp_seq (wp_seq (rW ?_))
 iterate 6 refine lv ?_
 refine lE a1 [0,1] 17 ?_;intro a2 u2 e17
 replace sz:=u2.sz.trans sz
 replace df:=u2.df.trans df
 replace e0:=u2.get 0 e0
 replace e1:=u2.get 1 e1
 by_cases h0:L=[]
 ·subst h0
  refine wp_cond_true (e17.trans Y) (wp_seq (rW ?_))
  iterate 2 refine lv ?_
  refine lE2 a2 [] 4 5 ?_;intro a3 u3 e4 e5;exact wp_ret (hQ _ _ _ (u3.df.trans df) (by simp [results,Tryz.results31,go_sem,evT e4,evT e5];try rfl) ⟨Ext.refl w,.inl ⟨rfl,rfl⟩⟩)
 have hlp:=List.length_pos_iff.2 h0;refine wp_cond_false (e17.trans fc) (wp_skip (wp_seq (rW ?_)));refine lv ?_;refine lE a2 [0,1] 6 ?_;intro a3 u3 e6
 replace sz:=u3.sz.trans sz
 replace df:=u3.df.trans df
 replace e0:=u3.get 0 e0
 replace e1:=u3.get 1 e1
 refine wp_seq (wp_seq (rW ?_))
 iterate 6 refine lv ?_
 refine lE3 a3 [0,1,6] 21 22 23 ?_;intro a4 u4 e21 e22 e23
 replace sz:=u4.sz.trans sz
 replace df:=u4.df.trans df
 replace e0:=u4.get 0 e0
 replace e1:=u4.get 1 e1
 replace e6:=u4.get 6 e6
 refine wp_block (wp_loop (fun a' W=>∃ (j:Nat) (v:Value),Ag [0,1,21,22] a4 a'∧Ev a' (.tmp 23)=↑(j:Int)∧j<=L.length∧Ev a' (.tmp 6)=v∧W.ownsRow w.heap.size 3 1 v j ((wtL (L.take j)).map (Value.int .i64))∧Ext w W) (fun a' _=>(L.length - intOf (Ev a' (.tmp 23))).toNat) ⟨0,_,.rf,by simpa using e23,U,e6,aN _ _ _ _,Ext.refl w⟩ ?_);clear e23 e6;rintro a5 W ⟨j,v,u5,e23,hj,e6,ho,hx⟩
 replace sz:=u5.sz.trans sz
 replace df:=u5.df.trans df
 replace e0:=u5.get 0 e0
 replace e1:=u5.get 1 e1
 replace e21:=u5.get 21 e21
 replace e22:=u5.get 22 e22
 have m23:=e23;refine wp_seq (rW ?_);refine lv ?_;refine lE a5 [0,1,21,22,23,6] 24 ?_;intro a6 u6 e24
 replace sz:=u6.sz.trans sz
 replace df:=u6.df.trans df
 replace e0:=u6.get 0 e0
 replace e1:=u6.get 1 e1
 replace e21:=u6.get 21 e21
 replace e22:=u6.get 22 e22
 replace e23:=u6.get 23 e23
 replace e6:=u6.get 6 e6
 by_cases hlt:j<L.length
 ·refine wp_seq (wp_cond_true (e24.trans ar) (wp_skip (wp_seq (wp_block (wp_seq (rW ?_))))))
  have hsn:=zT hlt;obtain ⟨bx,ox,A1,d1,rfl,-,-,gc⟩:=(hE.ext hx).get hlt;generalize hy:L.getD j default=y at *;have g0:=gc 0 _ rfl;have g1:=gc 1 _ rfl;have g2:=gc 2 _ rfl;have g3:=gc 3 _ rfl;have g4:=gc 4 _ rfl;have g5:=gc 5 _ rfl;simp only [Nat.add_zero] at g0;have hji:(j:Int)<L.length:=by omega
  iterate 2 refine lv ?_
  have B8:=Blk.new W 102 #[.slice none 0 0,.int .i64 0,.int .i64 0,.int .i64 0,.bool false,.int .i64 0];have x8:Ext W (W.alloc (.cells #[.slice none 0 0,.int .i64 0,.int .i64 0,.int .i64 0,.bool false,.int .i64 0] 102)):=(Ext.refl W).alloc' _;refine lv ?_;generalize W.alloc (.cells #[.slice none 0 0,.int .i64 0,.int .i64 0,.int .i64 0,.bool false,.int .i64 0] 102)=W8 at *;refine ls (w1:=W8.setCells W.heap.size 0 [.slice A1 y.path.length d1,.int .i64 y.kind,.int .i64 y.at_,.int .i64 y.code,.bool y.fresh,.int .i64 y.hits]) ?_ rfl rfl (by simp [execOp,go_sem,B8.cell,B8.frozen,sz,World.setCells]);have B9:=aJ [.slice A1 y.path.length d1,.int .i64 y.kind,.int .i64 y.at_,.int .i64 y.code,.bool y.fresh,.int .i64 y.hits] (cs:=[.slice none 0 0,.int .i64 0,.int .i64 0,.int .i64 0,.bool false,.int .i64 0]) 0 B8 Y;have x9:Ext W (W8.setCells W.heap.size 0 [.slice A1 y.path.length d1,.int .i64 y.kind,.int .i64 y.at_,.int .i64 y.code,.bool y.fresh,.int .i64 y.hits]):=((Fr.of_ext (M:=fun k=>W.heap.size<=k) x8).setCells _ _ (.inl (Nat.le_refl _))).new_ext (fun _ h=>h);generalize W8.setCells W.heap.size 0 [.slice A1 y.path.length d1,.int .i64 y.kind,.int .i64 y.at_,.int .i64 y.code,.bool y.fresh,.int .i64 y.hits]=W9 at *
  refine lE a6 [0,1,21,22,23,6] 8 ?_;intro a7 u7 e8
  replace sz:=u7.sz.trans sz
  replace df:=u7.df.trans df
  replace e0:=u7.get 0 e0
  replace e1:=u7.get 1 e1
  replace e21:=u7.get 21 e21
  replace e22:=u7.get 22 e22
  replace e23:=u7.get 23 e23
  replace e6:=u7.get 6 e6
  have c4:W9.cell? ⟨W.heap.size,4,none⟩=some (.bool y.fresh):=B9.cell' 4 rfl;have ho9:=ho.ext_ x9;have hx9:=hx.trans' x9;have hz9:=hx9.size;clear x9 x8 B8 B9 g0 g1 g2 g3 g4 g5 ho hx gc;refine wp_seq (rW ?_)
  iterate 2 refine lv ?_
  refine lE a7 [0,1,21,22,23,6] 28 ?_;intro a8 u8 e28
  replace sz:=u8.sz.trans sz
  replace df:=u8.df.trans df
  replace e0:=u8.get 0 e0
  replace e1:=u8.get 1 e1
  replace e21:=u8.get 21 e21
  replace e22:=u8.get 22 e22
  replace e23:=u8.get 23 e23
  replace e6:=u8.get 6 e6
  have hcd:Code.wp Tryz.prog (.cond (.tmp 28) (R31 8) (R31 9)) (fun e a9 W'=>e=.normal∧Ag [0,1,21,22,23] a8 a9∧∃ v',Ev a9 (.tmp 6)=v'∧W'.ownsRow w.heap.size 3 1 v' (j+1) ((wtL (L.take j)).map (Value.int .i64) ++ [.int .i64 (wtE y)])∧Ext w W') a8 W9:=by
   cases hf:y.fresh
   ·refine wp_cond_false (e28.trans (by rw [hf])) (rW ?_)
    iterate 2 refine lv ?_
    refine la Tryz.underlying22 Tryz.info3 (ho9.alloc _) (T:=fun _=>True) (Sl.new W9 [.int .i64 1] _ 1 1 rfl) U U ab af ?_;intro v' w1 hoA hfA _;refine lv ?_;refine lE a8 [0,1,21,22,23] 6 ?_;intro a9 u9 f6;exact ⟨rfl,u9,v',f6,fp,((Fr.of_ext (hx9.alloc' _)).trans hfA).new_ext (fun k hk=>ho9.block_ge hk.symm)⟩
   ·refine wp_cond_true (e28.trans (by rw [hf])) (rW ?_)
    iterate 2 refine lv ?_
    refine la Tryz.underlying22 Tryz.info3 (ho9.alloc _) (T:=fun _=>True) (Sl.new W9 [.int .i64 4] _ 1 1 rfl) U U ab af ?_;intro v' w1 hoA hfA _;refine lv ?_;refine lE a8 [0,1,21,22,23] 6 ?_;intro a9 u9 f6;exact ⟨rfl,u9,v',f6,fp,((Fr.of_ext (hx9.alloc' _)).trans hfA).new_ext (fun k hk=>ho9.block_ge hk.symm)⟩
  refine wp_mono hcd ?_;rintro e a9 W' ⟨rfl,u9,v',f6,ho',hx'⟩;have gz:=u9.sz.trans sz;have g23:=u9.get 23 e23;refine rW ?_
  iterate 2 refine lv ?_
  refine lE2 a9 [0,1,21,22] 23 6 ?_;intro a10 u10 f23 f6;refine ⟨⟨j+1,v',((((u5.trans (u6.mono rfl)).trans (u7.mono rfl)).trans (u8.mono rfl)).trans (u9.mono rfl)).trans u10,f23.trans Y,hlt,f6,?_,hx'⟩,?_⟩
  ·rw [hsn,List.map_append]
   exact ho'
  ·rw [f23,m23]
   simp only [intOf];omega
 ·refine wp_seq (wp_cond_false (e24.trans ar) (wp_exit (wp_seq (rW ?_))))
  obtain rfl:j=L.length:=U
  rw [List.take_length] at ho;have hsm:=xT h16 h0;have hll:=sJ L
  have hI:aU W (fun _=>True) v (wtL L):=aU.of_own (by rw [hll];exact ho) (fun z hz=>by
   obtain ⟨e,_,rfl⟩:=List.mem_map.1 hz;have:=zU e;unfold I64;omega) U (fun _ _=>trivial)
  obtain ⟨Av,cv,rfl,-,-⟩:=hI.form
  iterate 2 refine lv ?_
  refine lc Tryz.func66 (aPc hx' hI hsm U (aIh L) (zS h16)) ?_;rintro e w1 ⟨rfl,x1⟩;refine ⟨_,rfl,?_⟩
  iterate 7 refine lv ?_
  refine lE a6 [0] 9 ?_;intro a7 u7 e9
  replace sz:=u7.sz.trans sz
  replace df:=u7.df.trans df
  replace e0:=u7.get 0 e0
  have hpk:=aDu (x:=x) h16 h0
  change Ev a7 (.tmp 9)=.int .i64 (pkE x L:Nat) at e9
  have hx1:=hx.trans' x1;have c3':=aA hx1 c3;obtain ⟨bx,ox,A1,d1,rfl,-,ea,gc⟩:=(hE.ext hx1).get hpk;have hsh1:=hsh _ (aF (d:=default) hpk);have g0:=gc 0 _ rfl;simp only [Nat.add_zero] at g0;generalize hy:L.getD (pkE x L) default=y at *;have hpi:(pkE x L:Int)<L.length:=by omega
  generalize hpp:pkE x L=p at *;refine wp_seq (rW ?_);have c3a:=aA ((Ext.refl w1).alloc' (.cells #[] 3)) c3';have g0a:=aA ((Ext.refl w1).alloc' (.cells #[] 3)) g0;refine lv ?_
  iterate 8 refine lv ?_
  obtain ⟨A',c',e',-,q2,q3,hsl⟩:=ea.path
  cases e'
  refine la Tryz.underlying22 Tryz.info3 (World.ownsRow_lit w1 #[] 0 (Nat.le_refl _) cj rfl) (hsl.ext ((Ext.refl w1).alloc' (.cells #[] 3))) U U Y (fun u hu=>by
   obtain ⟨z,_,rfl⟩:=List.mem_map.1 hu
   rfl) ?_
  intro v' w2 ho' hf' _;simp only [Nat.zero_add,List.nil_append] at ho';have hI2:aU w2 (fun _=>True) v' y.path:=aU.of_own ho' q3 q2.1 (fun _ _=>trivial);obtain ⟨Av',cv',rfl,-,-⟩:=hI2.form;have x2:Ext w1 w2:=((Fr.of_ext ((Ext.refl w1).alloc' (.cells #[] 3))).trans hf').new_ext (fun k hk=>by cases hk;exact Nat.le_refl _)
  iterate 2 refine lv ?_
  refine lE2 a7 [] 4 5 ?_;intro a8 u8 e4 e5;exact wp_ret (hQ _ _ _ (u8.df.trans df) (by simp [results,Tryz.results31,go_sem,evT e4,evT e5];try rfl) ⟨hx1.trans' x2,.inr ⟨h0,Av',cv',_,by rw [hpp,hy],by rw [hpp,hy];exact hI2⟩⟩)
theorem aPd (hx':0<=x∧x<18446744073709551616)(h:MAt t vn b L m P ve w)(h16:L.length<=1000):Calls Tryz.prog 32 #[.pointer (some ⟨m,0,none⟩),.int .u64 x] w (uR L x w):=by
 have c3:=h.cell2;have hE:=h.ens;have hsh:=h.short;clear h;obtain ⟨Al,cl,rfl,-,-⟩:=Lst.form hE;refine cI Tryz.func32 b32 rfl Y (fun a Q sz df ea hQ=>?_);have e0:=ea 0 (.pointer (some ⟨m,0,none⟩)) rfl;have e1:=ea 1 (.int .u64 x) rfl;refine wp_seq (rW ?_)
 iterate 2 refine lv ?_
 refine lN a [0,1] ?_;intro a1 u1
 replace sz:=u1.sz.trans sz
 replace df:=u1.df.trans df
 replace e0:=u1.get 0 e0
 replace e1:=u1.get 1 e1
 refine wp_seq (wp_seq (rW ?_))
 iterate 6 refine lv ?_
 refine lE a1 [0,1] 16 ?_;intro a2 u2 e16
 replace sz:=u2.sz.trans sz
 replace df:=u2.df.trans df
 replace e0:=u2.get 0 e0
 replace e1:=u2.get 1 e1
 by_cases h0:L=[]
 ·subst h0
  refine wp_cond_true (e16.trans Y) (wp_seq (rW ?_))
  iterate 2 refine lv ?_
  refine lE2 a2 [] 4 5 ?_;intro a3 u3 e4 e5;exact wp_ret (hQ _ _ _ (u3.df.trans df) (by simp [results,Tryz.results32,go_sem,evT e4,evT e5];try rfl) ⟨Ext.refl w,.inl ⟨rfl,rfl⟩⟩)
 have hlp:=List.length_pos_iff.2 h0;refine wp_cond_false (e16.trans fc) (wp_skip (wp_seq (rW ?_)));refine lv ?_;refine lE a2 [0,1] 6 ?_;intro a3 u3 e6
 replace sz:=u3.sz.trans sz
 replace df:=u3.df.trans df
 replace e0:=u3.get 0 e0
 replace e1:=u3.get 1 e1
 refine wp_seq (wp_seq (rW ?_));refine lv ?_;refine lE a3 [0,1,6] 7 ?_;intro a4 u4 e7
 replace sz:=u4.sz.trans sz
 replace df:=u4.df.trans df
 replace e0:=u4.get 0 e0
 replace e1:=u4.get 1 e1
 replace e6:=u4.get 6 e6
 refine wp_block (wp_loop (fun a' W=>∃ (j:Nat) (v:Value),Ag [0,1] a4 a'∧Ev a' (.tmp 7)=↑(j:Int)∧j<=L.length∧Ev a' (.tmp 6)=v∧W.ownsRow w.heap.size 3 1 v j ((wtL (L.take j)).map (Value.int .i64))∧Ext w W) (fun a' _=>(L.length - intOf (Ev a' (.tmp 7))).toNat) ⟨0,_,.rf,by simpa using e7,U,e6,aN _ _ _ _,Ext.refl w⟩ ?_);clear e7 e6;rintro a5 W ⟨j,v,u5,e7,hj,e6,ho,hx⟩
 replace sz:=u5.sz.trans sz
 replace df:=u5.df.trans df
 replace e0:=u5.get 0 e0
 replace e1:=u5.get 1 e1
 have m7:=e7;have c3W:=aA hx c3;refine wp_seq (wp_seq (rW ?_))
 iterate 7 refine lv ?_
 refine lE a5 [0,1,7,6] 23 ?_;intro a6 u6 e23
 replace sz:=u6.sz.trans sz
 replace df:=u6.df.trans df
 replace e0:=u6.get 0 e0
 replace e1:=u6.get 1 e1
 replace e7:=u6.get 7 e7
 replace e6:=u6.get 6 e6
 by_cases hlt:j<L.length
 ·refine wp_cond_true (e23.trans ar) (wp_skip (wp_seq (wp_block (wp_seq (rW ?_)))))
  have hsn:=zT hlt;obtain ⟨bx,ox,A1,d1,rfl,-,-,gc⟩:=(hE.ext hx).get hlt;generalize hy:L.getD j default=y at *;have g4:=gc 4 _ rfl;have hji:(j:Int)<L.length:=by omega
  iterate 8 refine lv ?_
  refine lE a6 [0,1,7,6] 33 ?_;intro a8 u8 e33
  replace sz:=u8.sz.trans sz
  replace df:=u8.df.trans df
  replace e0:=u8.get 0 e0
  replace e1:=u8.get 1 e1
  replace e7:=u8.get 7 e7
  replace e6:=u8.get 6 e6
  have hxz:=hx.size
  have hcd:Code.wp Tryz.prog (.cond (.tmp 33) (R32 8) (R32 9)) (fun e a9 W'=>e=.normal∧Ag [0,1,7] a8 a9∧∃ v',Ev a9 (.tmp 6)=v'∧W'.ownsRow w.heap.size 3 1 v' (j+1) ((wtL (L.take j)).map (Value.int .i64) ++ [.int .i64 (wtE y)])∧Ext w W') a8 W:=by
   cases hf:y.fresh
   ·refine wp_cond_false (e33.trans (by rw [hf])) (rW ?_)
    iterate 2 refine lv ?_
    refine la Tryz.underlying22 Tryz.info3 (ho.alloc _) (T:=fun _=>True) (Sl.new W [.int .i64 1] _ 1 1 rfl) U U ab af ?_;intro v' w1 hoA hfA _;refine lv ?_;refine lE a8 [0,1,7] 6 ?_;intro a9 u9 f6;exact ⟨rfl,u9,v',f6,fp,((Fr.of_ext (hx.alloc' _)).trans hfA).new_ext (fun k hk=>ho.block_ge hk.symm)⟩
   ·refine wp_cond_true (e33.trans (by rw [hf])) (rW ?_)
    iterate 2 refine lv ?_
    refine la Tryz.underlying22 Tryz.info3 (ho.alloc _) (T:=fun _=>True) (Sl.new W [.int .i64 4] _ 1 1 rfl) U U ab af ?_;intro v' w1 hoA hfA _;refine lv ?_;refine lE a8 [0,1,7] 6 ?_;intro a9 u9 f6;exact ⟨rfl,u9,v',f6,fp,((Fr.of_ext (hx.alloc' _)).trans hfA).new_ext (fun k hk=>ho.block_ge hk.symm)⟩
  refine wp_mono hcd ?_;rintro e a9 W' ⟨rfl,u9,v',f6,ho',hx'⟩;have gz:=u9.sz.trans sz;have g7:=u9.get 7 e7;refine rW ?_
  iterate 3 refine lv ?_
  refine lE2 a9 [0,1] 7 6 ?_;intro a10 u10 f7 f6;refine ⟨⟨j+1,v',(((u5.trans (u6.mono rfl)).trans (u8.mono rfl)).trans (u9.mono rfl)).trans u10,f7.trans Y,hlt,f6,?_,hx'⟩,?_⟩
  ·rw [hsn,List.map_append]
   exact ho'
  ·rw [f7,m7]
   simp only [intOf];omega
 ·refine wp_cond_false (e23.trans ar) (wp_exit (wp_seq (rW ?_)))
  obtain rfl:j=L.length:=U
  rw [List.take_length] at ho;have hsm:=xT h16 h0;have hll:=sJ L
  have hI:aU W (fun _=>True) v (wtL L):=aU.of_own (by rw [hll];exact ho) (fun z hz=>by
   obtain ⟨e,_,rfl⟩:=List.mem_map.1 hz;have:=zU e;unfold I64;omega) U (fun _ _=>trivial)
  obtain ⟨Av,cv,rfl,-,-⟩:=hI.form
  iterate 2 refine lv ?_
  have h67:=aPb (sv:=.int .u64 x) (tx:=lbl) (w0:=w) (wd:=fun i=>dB x i) (aJl hx') 0 U hx hI hsm U (aIh L) (zS h16);refine lc Tryz.func67 h67 ?_;rintro e w1 ⟨rfl,x1⟩;refine ⟨_,rfl,?_⟩
  iterate 7 refine lv ?_
  refine lE a6 [0] 8 ?_;intro a7 u7 e8
  replace sz:=u7.sz.trans sz
  replace df:=u7.df.trans df
  replace e0:=u7.get 0 e0
  have hpk:=aDu (x:=x) h16 h0
  change Ev a7 (.tmp 8)=.int .i64 (pkE x L:Nat) at e8
  have hx1:=hx.trans' x1;have c3':=aA hx1 c3;obtain ⟨bx,ox,A1,d1,rfl,-,ea,gc⟩:=(hE.ext hx1).get hpk;have g0:=gc 0 _ rfl;simp only [Nat.add_zero] at g0;generalize hy:L.getD (pkE x L) default=y at *;have hpi:(pkE x L:Int)<L.length:=by omega
  generalize hpp:pkE x L=p at *;refine wp_seq (rW ?_)
  iterate 10 refine lv ?_
  refine lE2 a7 [] 4 5 ?_;intro a8 u8 e4 e5;exact wp_ret (hQ _ _ _ (u8.df.trans df) (by simp [results,Tryz.results32,go_sem,evT e4,evT e5];try rfl) ⟨hx1,.inr ⟨h0,A1,d1,_,by rw [hpp,hy],by rw [hpp,hy];exact ea.path⟩⟩)
end
end Go.Proofs.YtkoeecdjijfjnaaGreat
namespace Go.Proofs.YtkoeecdjijfjnaaGreat
open Go.RowKit
def pkP (x:Int)(L:List GE):List Int:=if L=[] then [] else (L.getD (pkE x L) default).path
def pkB (L:List GE):Bool:=!L.isEmpty
theorem uR.val {L:List GE}{x:Int}{w w':World}{e:Ending}(h:uR L x w e w'):∃ v Q,e=.returned (.tuple #[v,.bool (pkB L)])∧aU w' Q v (pkP x L)∧Ext w w':=by
 obtain ⟨hx,⟨rfl,rfl⟩ | ⟨h0,A,d,Q,rfl,hI⟩⟩:=h
 ·exact ⟨_,fun _=>False,rfl,aU.nil,hx⟩
 ·have hb:pkB L=true:=by
   cases L
   ·exact absurd rfl h0
   ·rfl
  unfold pkP;rw [hb,if_neg h0];exact ⟨_,Q,rfl,hI,hx⟩
theorem aPa {L:List GE}{x:Int}(hi:uW L)(hl:L.length<=1000)(hb:pkB L=true):fT (pkP x L) L=true:=by
 have h0:L ≠ []:=by
  rintro rfl
  cases hb
 have h1:=aDu (x:=x) hl h0;exact (aAx hi h1 (by unfold pkP;rw [if_neg h0])).1
section
variable {w:World}{l k:List Int}{Ql Qk:Nat->Prop}{vl vk:Value}{bu s:Int}
noncomputable def R6:=RG Tryz.f6
noncomputable abbrev c6:Code:=.seq (R6 0) (.seq (R6 1) (.seq (R6 2) (.seq (R6 3) (.seq (R6 4) (.seq (.seq (R6 5) (.cond (.tmp 31) (.seq (R6 6) .ret) .skip)) (.seq (.seq (R6 7) (.block 0 (.loop (.seq (.seq (R6 8) (.cond (.tmp 33) .skip (.exit 0))) (.seq (.block 1 (.seq (R6 10) (.seq (R6 11) (.seq (R6 12) (.cond (.tmp 71) (.seq (R6 13) .ret) .skip))))) (R6 9)))))) (.seq (R6 14) .ret)))))))
theorem b6:Tryz.f6.body=some c6:=aa
theorem pV (hl:aU w Ql vl l)(hk:aU w Qk vk k)(hQk:∀ b,Qk b->b<w.heap.size)(hbu:I64 bu)(_:0<=s∧s<18446744073709551616):Calls Tryz.prog 6 #[vl,vk,↑bu,.int .u64 s] w (dV (.bool true) w):=by
 refine cI Tryz.func6 b6 rfl Y (fun a Q sz df ea hQ=>?_);have e0:=ea 0 vl rfl;have e1:=ea 1 vk rfl;have e2:=ea 2 (↑bu) rfl;have e3:=ea 3 (.int .u64 s) rfl;refine wp_seq (rW ?_);refine lv ?_;refine lN a [0,1,2,3] ?_;intro a1 u1
 replace sz:=u1.sz.trans sz
 replace df:=u1.df.trans df
 replace e0:=u1.get 0 e0
 replace e1:=u1.get 1 e1
 replace e2:=u1.get 2 e2
 replace e3:=u1.get 3 e3
 refine wp_seq (rW ?_);refine lv ?_;refine lc Tryz.func8 (aGe l Ql vl w hl) ?_;rintro e w1 ⟨A,c,t,rfl,hnd,hgen,hlen,hx1⟩;refine ⟨_,rfl,?_⟩;have hB:=Blk.new w1 25 #[.slice none 0 0];have hX:Ext w1 (w1.alloc (.cells #[.slice none 0 0] 25)):=(Ext.refl w1).alloc' _;refine lv ?_;generalize w1.alloc (.cells #[.slice none 0 0] 25)=W at *;refine ls (w1:=W.setCell ⟨w1.heap.size,0,none⟩ (.slice A t.length c)) ?_ rfl rfl (by simp [execOp,go_sem,hB.cell,hB.frozen,sz])
 replace hX:=hX.setCell' (p:=⟨w1.heap.size,0,none⟩) (Nat.le_refl _) (.slice A t.length c)
 replace hB:=hB.set_ 0 (.slice A t.length c)
 generalize W.setCell ⟨w1.heap.size,0,none⟩ (.slice A t.length c)=W at *;refine lE a1 [1,2,3] 9 ?_;intro a2 u2 e9
 replace sz:=u2.sz.trans sz
 replace df:=u2.df.trans df
 replace e1:=u2.get 1 e1
 replace e2:=u2.get 2 e2
 replace e3:=u2.get 3 e3
 have hb:=nD (n:=bu) (m:=80) U;have hsW:=hX.size;have hx0W:=hx1.trans' hX;have hndW:=hnd.ext hX;have hfw:∀ x ∈ t,x.kind=3->x.kids.length<=5:=fun x hx h3=>Nat.le_succ_of_le (hgen.few x hx h3)
 have hRd:∀ p:List Int,p.length<=1000->RdT t p:=fun p hp=>⟨fI.1 hgen.good,U,hfw,U⟩
 have hvl:∀ x ∈ t,x.values.length<=1000000:=fun x hx=>(hgen.small x hx).2.2.1
 refine wp_seq (rW ?_);refine lv ?_;refine lc Tryz.func9 (nE bu 80 W hbu U U) ?_;rintro e w2 ⟨rfl,rfl⟩;refine ⟨_,rfl,?_⟩;refine lv ?_;generalize jE bu 80=b at *;refine lE a2 [1,3,9] 10 ?_;intro a3 u3 e10
 replace sz:=u3.sz.trans sz
 replace df:=u3.df.trans df
 replace e1:=u3.get 1 e1
 replace e3:=u3.get 3 e3
 replace e9:=u3.get 9 e9
 have c9:=hB.cell' (u:=.slice A t.length c) 0 rfl;refine wp_seq (rW ?_)
 iterate 3 refine lv ?_
 refine lc Tryz.func26 (aCj (b:=b) (vn:=.slice A t.length c) (most:=16) (P:=fun q=>w.heap.size<=q∧q<w1.heap.size) hgen.good hfw hgen.small hlen U U (fun q hq=>by omega) (fun q hq=>Nat.lt_of_lt_of_le (hQk q hq) hx0W.size) hndW (hk.ext hx0W)) ?_;rintro e w4 ⟨gs1,n1,gc,P1,v1,hs1',rfl,hC,hx4⟩;refine ⟨_,rfl,?_⟩;refine lv ?_;refine lE a3 [1,3,9,10] 11 ?_;intro a4 u4 e11
 replace sz:=u4.sz.trans sz
 replace df:=u4.df.trans df
 replace e1:=u4.get 1 e1
 replace e3:=u4.get 3 e3
 replace e9:=u4.get 9 e9
 replace e10:=u4.get 10 e10
 have hs4:=hx4.size;have hx04:=hx0W.trans' hx4;have c9':=aA hx4 c9;refine wp_seq (rW ?_)
 iterate 3 refine lv ?_
 refine lc Tryz.func27 (zD (b:=b) (vn:=.slice A t.length c) (most:=16) (P:=fun q=>w.heap.size<=q∧q<w1.heap.size) hRd hvl hgen.good hfw hlen U U (fun q hq=>by omega) (fun q hq=>Nat.lt_of_lt_of_le (hQk q hq) hx04.size) (hndW.ext hx4) (hk.ext hx04)) ?_;rintro e w5 ⟨gs2,m,vx,Px,hs2',rfl,hM,-,-,hx5⟩;obtain rfl:=hs2'.uniq hs1';refine ⟨_,rfl,?_⟩;refine lv ?_;refine lE a4 [3,11] 12 ?_;intro a5 u5 e12
 replace sz:=u5.sz.trans sz
 replace df:=u5.df.trans df
 replace e3:=u5.get 3 e3
 replace e11:=u5.get 11 e11
 have hx05:=hx04.trans' hx5;have hl1:=oH (t:=t) (b:=b) (gs:=gs2) gs2.length (Nat.le_refl _);rw [List.take_length] at hl1;have hg1:=hs1'.1;have hCC:=(hC.ext hx5).cor;generalize kZ t b gs2=L at *;have hinc:=hCC.inc;have h16:L.length<=1000:=by omega
 refine wp_seq (wp_seq (rW ?_))
 iterate 2 refine lv ?_
 refine lE a5 [3,11,12] 31 ?_;intro a6 u6 e31
 replace sz:=u6.sz.trans sz
 replace df:=u6.df.trans df
 replace e3:=u6.get 3 e3
 replace e11:=u6.get 11 e11
 replace e12:=u6.get 12 e12
 refine wp_cond_false (e31.trans Y) (wp_skip (wp_seq (wp_seq (rW ?_))));refine lv ?_;refine lE a6 [3,11,12] 13 ?_;intro a7 u7 e13
 replace sz:=u7.sz.trans sz
 replace df:=u7.df.trans df
 replace e3:=u7.get 3 e3
 replace e11:=u7.get 11 e11
 replace e12:=u7.get 12 e12
 refine wp_block (wp_loop (fun a' W=>∃ (j:Nat),Ag [3,11,12] a7 a'∧Ev a' (.tmp 13)=↑(j:Int)∧j<=5∧Ext w5 W) (fun a' _=>(5 - intOf (Ev a' (.tmp 13))).toNat) ⟨0,.rf,by simpa using e13,U,Ext.refl w5⟩ ?_);clear e13;rintro a8 W' ⟨j,u8,e13,hj,hxW⟩
 replace sz:=u8.sz.trans sz
 replace df:=u8.df.trans df
 replace e3:=u8.get 3 e3
 replace e11:=u8.get 11 e11
 replace e12:=u8.get 12 e12
 have m13:=e13;refine wp_seq (wp_seq (rW ?_))
 iterate 2 refine lv ?_
 refine lE a8 [3,11,12,13] 33 ?_;intro a9 u9 e33
 replace sz:=u9.sz.trans sz
 replace df:=u9.df.trans df
 replace e3:=u9.get 3 e3
 replace e11:=u9.get 11 e11
 replace e12:=u9.get 12 e12
 replace e13:=u9.get 13 e13
 have hC':=hCC.ext hxW;have hM':=(hM.ext hxW)
 by_cases hlt:j<5
 ·refine wp_cond_true (e33.trans ab) (wp_skip (wp_seq (wp_block (wp_seq (rW ?_)))))
  have hw:=aRh (s+IntKind.u64.wrap (j:Int))
  iterate 5 refine lv ?_
  refine lc Tryz.func31 (aPe (x:=IntKind.u64.wrap (s+IntKind.u64.wrap (j:Int))) hw hC' h16) ?_;rintro e w6 hp;obtain ⟨vp,Qp,rfl,hIp,hx6⟩:=hp.val;refine ⟨_,rfl,?_⟩
  iterate 5 refine lv ?_
  refine lE2 a9 [3,11,12,13] 14 15 ?_;intro a10 u10 e14 e15
  replace sz:=u10.sz.trans sz
  replace df:=u10.df.trans df
  replace e3:=u10.get 3 e3
  replace e11:=u10.get 11 e11
  replace e12:=u10.get 12 e12
  replace e13:=u10.get 13 e13
  refine wp_seq (rW ?_)
  iterate 5 refine lv ?_
  refine lc Tryz.func32 (aPd (x:=IntKind.u64.wrap (s+IntKind.u64.wrap (j:Int))) hw (hM'.ext hx6) h16) ?_;rintro e w7 hp';obtain ⟨vq,Qq,rfl,hIq,hx7⟩:=hp'.val;refine ⟨_,rfl,?_⟩
  iterate 5 refine lv ?_
  refine lE2 a10 [3,11,12,13,14,15] 16 17 ?_;intro a11 u11 e16 e17
  replace sz:=u11.sz.trans sz
  replace df:=u11.df.trans df
  replace e3:=u11.get 3 e3
  replace e11:=u11.get 11 e11
  replace e12:=u11.get 12 e12
  replace e13:=u11.get 13 e13
  replace e14:=u11.get 14 e14
  replace e15:=u11.get 15 e15
  have hIp':=hIp.ext hx7;have hC7:=hC'.ext (hx6.trans' hx7);have hxx:=hxW.trans' (hx6.trans' hx7);have hpk:=aPa (x:=IntKind.u64.wrap (s+IntKind.u64.wrap (j:Int))) hinc h16;generalize pkP (IntKind.u64.wrap (s+IntKind.u64.wrap (j:Int))) L=p at *;refine wp_seq (rW ?_)
  iterate 4 refine lv ?_
  iterate 2 refine ly ?_
  refine lcg Tryz.func24 (jQ p p _ _ vp vq w7 hIp' hIq) ?_;rintro e w8 ⟨rfl,n,rfl⟩;refine ⟨_,rfl,?_⟩;have hx8:=Ext.drewN w7 n;have hC8:=hC7.ext hx8;have hI8:=hIp'.ext hx8;generalize w7.drewN n=w8 at *;refine ly ?_
  iterate 2 refine lv ?_
  iterate 2 refine ly ?_
  have tail:∀ a12 w9,Ag [3,11,12,13] a11 a12->Ext w8 w9->Ev a12 (.tmp 71)=.bool false->Code.wp Tryz.prog (.cond (.tmp 71) (.seq (R6 13) .ret) .skip) (fun e a' w'=>e=.normal∧Ag [3,11,12,13] a11 a'∧Ext w8 w') a12 w9:=fun a12 w9 u12 hx e71=>wp_cond_false e71 (wp_skip ⟨rfl,u12,hx⟩)
  have fin:∀ a12 w9,Ag [3,11,12,13] a11 a12->Ext w8 w9->Code.wp Tryz.prog (R6 9) (fun e a' W=>e=.normal∧(∃ (j:Nat),Ag [3,11,12] a7 a'∧Ev a' (.tmp 13)=↑(j:Int)∧j<=5∧Ext w5 W)∧(5 - intOf (Ev a' (.tmp 13))).toNat<(5 - intOf (Ev a8 (.tmp 13))).toNat) a12 w9:=by
   intro a12 w9 u12 hx9;have gz:=u12.sz.trans sz;have g13:=u12.get 13 e13;refine rW ?_
   iterate 3 refine lv ?_
   refine lE a12 [3,11,12] 13 ?_;intro a13 u13 f13;refine ⟨rfl,⟨j+1,((((u8.trans (u9.mono rfl)).trans (u10.mono rfl)).trans (u11.mono rfl)).trans (u12.mono rfl)).trans u13,f13.trans Y,hlt,hxx.trans' (hx8.trans' hx9)⟩,?_⟩;rw [f13,m13];simp only [intOf];omega
  cases hb:pkB L
  ·rw [hb] at *
   iterate 4 refine ln ?_
   refine ly ?_;refine lv ?_;refine lE a11 [3,11,12,13] 71 ?_;intro a12 u12 e71;refine wp_mono (tail a12 _ u12 (Ext.refl _) e71) ?_;rintro e a13 w9 ⟨rfl,u13,hx9⟩;refine wp_mono (fin a13 w9 u13 hx9) ?_;rintro e a14 w10 ⟨rfl,q1,q2⟩;exact ⟨q1,q2⟩
  ·have hpk':=hpk hb
   rw [hb] at *
   iterate 2 refine ly ?_
   refine lcg Tryz.func19 (zB t _ b L gc P1 _ _ vp p w8 hC8 hI8) ?_;rintro e w9 ⟨rfl,hx9⟩;rw [hpk'];refine ⟨_,rfl,?_⟩
   iterate 2 refine ly ?_
   refine lv ?_;refine lE a11 [3,11,12,13] 71 ?_;intro a12 u12 e71;refine wp_mono (tail a12 _ u12 hx9 e71) ?_;rintro e a13 w10 ⟨rfl,u13,hx10⟩;refine wp_mono (fin a13 w10 u13 hx10) ?_;rintro e a14 w11 ⟨rfl,q1,q2⟩;exact ⟨q1,q2⟩
 ·refine wp_cond_false (e33.trans ab) (wp_exit (wp_seq (rW ?_)))
  refine lc Tryz.func23 (aD3 W') ?_;rintro e w8 ⟨rfl,hx8⟩;refine ⟨_,rfl,?_⟩;refine lv ?_;refine lE a9 [] 8 ?_;intro a10 u10 e8;exact wp_ret (hQ _ _ _ (u10.df.trans df) (by simp [results,Tryz.results6,go_sem,evT e8];try rfl) ⟨rfl,hx05.trans' (hxW.trans' hx8)⟩)
end
end Go.Proofs.YtkoeecdjijfjnaaGreat
namespace Go.Proofs.YtkoeecdjijfjnaaGreat
open Go.ChangeShapes Go.WideShapes Go.ChangeAt Go.RowKit
theorem Tryz.own:ownKnob Tryz.prog.godebug=none:=aa
theorem Tryz.laidOut:laidOutB Tryz.prog=true:=aa
theorem Tryz.cells3:Tryz.prog.cellsOf 3=1:=aa
theorem Tryz.bytes3:Tryz.prog.bytesOf 3=8:=aa
theorem xO {n:Int}(h:(Lit.int .i64 n).wf=true):I64 n:=by
 have h1:IntKind.i64.min=-9223372036854775808:=rfl;have h2:IntKind.i64.max=9223372036854775807:=rfl;simp only [Lit.wf,Bool.and_eq_true,decide_eq_true_eq] at h;unfold I64;omega
theorem aFj {n:Int}(h:(Lit.int .u64 n).wf=true):0<=n∧n<18446744073709551616:=by
 have h1:IntKind.u64.min=0:=rfl;have h2:IntKind.u64.max=18446744073709551615:=rfl;simp only [Lit.wf,Bool.and_eq_true,decide_eq_true_eq] at h;omega
theorem aBc {H:Type}{enc:TypeId × Value->H}{W:World}{base:Nat}{v:Value}{d:DataW H}{p:List MemPlace}(hok:Value.okWide Tryz.prog W .any base 22 v)(h:DataW.Trod enc Tryz.prog W 0 (fun _=>true) true 22 v d p)(hlt:∀ x ∈ p,x.block<W.heap.size)
  (hw:∀ elems spare,d=.slice elems spare->(elems.length+spare.length)*8<=reachBytes):∃ l,aU W (fun b=>b<W.heap.size) v l:=by
 obtain ⟨a0,len,cap,rfl⟩:=okWide_slice Tryz.underlying22 hok;obtain ⟨fuel,hf⟩:=h;rcases open_ints Tryz.underlying22 Tryz.underlying3 Tryz.cells3 hf with ⟨hcs,hx⟩ | ⟨a,len',cap',zs,hcs,_,hl,hm,hz,hx,hcell,hwz⟩
 ·simp [Value.cells] at hcs
  obtain ⟨rfl,rfl,rfl⟩:=hcs;exact ⟨[],aU.nil⟩
 ·simp [Value.cells] at hcs
  obtain ⟨rfl,rfl,rfl⟩:=hcs;simp only [Prod.mk.injEq] at hx;obtain ⟨rfl,rfl⟩:=hx;simp only [if_true] at hz
  have hreach:cap*8<=140737488351232:=by
   have:=hw _ _ rfl;simp only [lits,List.length_map,List.length_take,List.length_drop,reachBytes] at this;omega
  have hlen:(zs.take len).length=len:=aq
  refine ⟨zs.take len,some a,cap,by rw [hlen],by rw [hlen];exact hl,⟨by rw [hlen];omega,U⟩,fun x hx=>xO (hwz x (List.mem_of_mem_take hx)),Y,?_⟩;intro hpos;rw [hlen] at hpos;obtain ⟨b,off,spot⟩:=a;have hspot:spot=none:=by simpa [Addr.add] using World.cell?_spot (hcell 0 U)
  subst hspot;refine ⟨b,off,rfl,hlt (.cell b off) (MemPlace.mem_row.2 ⟨0,U,Y⟩),?_⟩;intro j u hu
  have hj:j<len:=by
   have:=(List.getElem?_eq_some_iff.1 hu).1;rw [List.length_map,hlen] at this;exact this
  have hc:=hcell j U;rw [add_plain] at hc;rw [hc];rw [List.getElem?_map,List.getElem?_take_of_lt hj] at hu;have hjz:j<zs.length:=by omega
  simp only [List.getElem?_eq_getElem hjz,Option.map_some,Option.some.injEq] at hu;rw [<- hu];simp [List.getD,hjz]
theorem mB (os:Os)(started:os.Started)(H:Type)(enc:TypeId × Value->H) :
  ReturnsInHanded {} Tryz.checked os 6 .any (Rows.corpusPicksSpec.pre6 enc Tryz.prog Tryz.f6 Rows.corpusPicksRow.domain false) (Rows.corpusPicksSpec.post enc Tryz.prog Tryz.f6 false true false false):=by
 refine returnsInHanded_of_change_sized (C:=Tryz.checked) Tryz.own started aa Tryz.func6
  (ChangeSpec.witness6 (enc:=enc) (C:=Tryz.checked) false ⟨#[],#[.slice none 0 0,.slice none 0 0,.int .i64 0,.int .u64 0],[]⟩ 8 aa aa aa aa) ?_
 intro W base args ds gs before hval0 hW _ hsz0 _;have hsz:(DataW.weightsEach Tryz.prog (Tryz.f6.params.toList ++ Rows.corpusPicksSpec.plain.varTypes Tryz.prog) (ds ++ gs)).all (·<=reachBytes)=true:=hsz0;clear hsz0;have hval:∀ (j:Nat) t v,Tryz.f6.params[j]?=some t->args[j]?=some v->Value.okWide Tryz.prog W .any base t v:=hval0;have hW':=hW;obtain ⟨p,q,hA0,hV,rfl,_,_⟩:=hW;have hA:DataW.TrodAll enc Tryz.prog W 0 (fun _=>true) true Tryz.f6.params.toList args.toList ds p:=hA0;rw [Tryz.params6] at hA hval hsz;obtain ⟨v0,vs0,d0,ds0,p0,q0,hargs0,rfl,rfl,h0,r0⟩:=trodAll_cons hA;obtain ⟨v1,vs1,d1,ds1,p1,q1,rfl,rfl,rfl,h1,r1⟩:=trodAll_cons r0;obtain ⟨v2,vs2,d2,ds2,p2,q2,rfl,rfl,rfl,h2,r2⟩:=trodAll_cons r1;obtain ⟨v3,vs3,d3,ds3,p3,q3,rfl,rfl,rfl,h3,r3⟩:=trodAll_cons r2;obtain ⟨rfl,rfl,rfl⟩:=trodAll_nil r3;obtain rfl:args=#[v0,v1,v2,v3]:=by cases args;simp_all
 obtain ⟨rfl,rfl⟩:=trodVars_none hV;obtain ⟨a2,rfl,rfl,rfl,w2⟩:=open_int Tryz.underlying3 (hval 2 3 v2 rfl rfl) h2;obtain ⟨a3,rfl,rfl,rfl,w3⟩:=open_int Tryz.underlying70 (hval 3 70 v3 rfl rfl) h3;have hlt:∀ x ∈ p0 ++ (p1 ++ ([] ++ ([] ++ []))) ++ [],x.block<W.heap.size:=fun x hx=>by simpa using hW'.lt x hx
 have hlt0:∀ x ∈ p0,x.block<W.heap.size:=fun x hx=>hlt x (by simp [hx])
 have hlt1:∀ x ∈ p1,x.block<W.heap.size:=fun x hx=>hlt x (by simp [hx])
 obtain ⟨l,hl⟩:=aBc (hval 0 22 v0 rfl rfl) h0 hlt0 (fun elems spare he=>by
  have:=sized_slice hsz (j:=0) (t:=22) (e:=3) (elems:=elems) (spare:=spare) rfl (by simp [he]) Tryz.underlying22;rw [Tryz.bytes3] at this;exact this)
 obtain ⟨k,hk⟩:=aBc (hval 1 22 v1 rfl rfl) h1 hlt1 (fun elems spare he=>by
  have:=sized_slice hsz (j:=1) (t:=22) (e:=3) (elems:=elems) (spare:=spare) rfl (by simp [he]) Tryz.underlying22;rw [Tryz.bytes3] at this;exact this)
 refine (pV hl hk (fun _ h=>h) (xO w2) (aFj w3)).mono ?_;rintro e W' ⟨rfl,hx⟩;have k0:=Below.trod Tryz.laidOut aa (of_decide_eq_true aa) h0 hx hlt0;have k1:=Below.trod Tryz.laidOut aa (of_decide_eq_true aa) h1 hx hlt1;exact ⟨_,rfl,_,_,_,[],_,[],hW',trodAll_cons_mk (shut_bool Tryz.underlying4 _) trodAll_mk0,trodAll_cons_mk k0 (trodAll_cons_mk k1 (trodAll_cons_mk (shut_int Tryz.underlying3 w2) (trodAll_cons_mk (shut_int Tryz.underlying70 w3) trodAll_mk0))),rfl,hx.frame _,fun h=>by cases h⟩
theorem corpusPicks_holds:Rows.CorpusPicksSaid :=
 OpenClaim.holds_of_wide 6 Tryz.f6 rfl rfl rfl rfl rfl rfl rfl ⟨rfl,rfl,rfl,rfl,rfl⟩ rfl rfl rfl rfl rfl aa Tryz.func6 aa
  (of_decide_eq_true aa) (by unfold Func.isWrapper;first | (rw [if_pos (by decide +kernel)];kernel_rfl) | (rw [if_neg (by decide +kernel)];exact ⟨rfl,rfl⟩))
  (fun os started H enc _=>mB os started H enc)
#print axioms corpusPicks_holds
end Go.Proofs.YtkoeecdjijfjnaaGreat
