/- Contracts of functions. Conditions: none. -/
import Derived.RangeFuncNested
import Derived.RangeFuncBound
import Derived.RangeFuncCalls
import Derived.RangeFuncLeaves
import Derived.RangeFuncBox
import Derived.Shelf.Abstract
import Derived.Shelf.RegionOpen
import Derived.OwnWalkIn
import Derived.TacticsInMore
import Derived.LoopNIn
import Derived.LoopIn
import Derived.Test.YtkoeecdjijfjnaaGreatTV
import Derived.Test.YtkoeecdjijfjnaaGreatB6
set_option maxRecDepth 100000
set_option maxHeartbeats 8000000
namespace Go.Proofs.YtkoeecdjijfjnaaGreat
open Go.RowKit
theorem aRh (z:Int):0<=IntKind.u64.wrap z∧IntKind.u64.wrap z<18446744073709551616:=by
 simp [IntKind.wrap,IntKind.bits,IntKind.signed];omega
theorem aUg {z:Int}(h0:0<=z)(h1:z<18446744073709551616):IntKind.u64.wrap z=z:=by
 simp [IntKind.wrap,IntKind.bits,IntKind.signed];omega
def fA (x y:Int):Int:=bits .xor .u64 (IntKind.u64.wrap (bits .xor .u64 x y*11400714819323198485)) (IntKind.u64.wrap (bits .xor .u64 x y*11400714819323198485) / 4294967296)
section
variable {w:World}{x y:Int}
noncomputable def aTz:=RG Tryz.f229
noncomputable abbrev aWe:Code:=.seq (aTz 0) (.seq (aTz 1) (.seq (aTz 2) .ret))
theorem aW9:Tryz.f229.body=some aWe:=aa
noncomputable def aT1:=RG Tryz.f220
noncomputable abbrev aWm:Code:=.seq (aT1 0) (.seq (aT1 1) (.seq (aT1 2) .ret))
theorem aXh:Tryz.f220.body=some aWm:=aa
theorem rO:Calls Tryz.prog 229 #[.int .u64 x,.int .u64 y] w fun e w'=>e=.returned (.int .u64 (fA x y))∧w'=w:=by
 refine cI Tryz.func229 aW9 rfl Y (fun a Q sz df ea hQ=>?_);have e0:=ea 0 (.int .u64 x) rfl;have e1:=ea 1 (.int .u64 y) rfl;refine wp_seq (rW ?_);refine lv ?_;refine lN a [0,1] ?_;intro a1 u1
 replace sz:=u1.sz.trans sz
 replace df:=u1.df.trans df
 replace e0:=u1.get 0 e0
 replace e1:=u1.get 1 e1
 refine wp_seq (rW ?_)
 iterate 5 refine lv ?_
 refine lE a1 [] 5 ?_;intro a2 u2 e5
 replace sz:=u2.sz.trans sz
 replace df:=u2.df.trans df
 refine wp_seq (rW ?_)
 iterate 5 refine lv ?_
 refine lE a2 [] 4 ?_;intro a3 u3 e4
 replace sz:=u3.sz.trans sz
 replace df:=u3.df.trans df
 have hb:=aRh (bits .xor .u64 x y*11400714819323198485);rw [Int.tdiv_eq_ediv_of_nonneg hb.1,aUg (z:=IntKind.u64.wrap (bits .xor .u64 x y*11400714819323198485) / 4294967296) U U] at e4;exact wp_ret (hQ _ _ _ df (by simp [results,Tryz.results229,go_sem,evT e4];try rfl) ⟨rfl,rfl⟩)
theorem wG:Calls Tryz.prog 220 #[.int .u64 x,.int .u64 y] w fun e w'=>e=.returned (.int .u64 (fA x y))∧w'=w:=by
 refine cI Tryz.func220 aXh rfl Y (fun a Q sz df ea hQ=>?_);have e0:=ea 0 (.int .u64 x) rfl;have e1:=ea 1 (.int .u64 y) rfl;refine wp_seq (rW ?_);refine lv ?_;refine lN a [0,1] ?_;intro a1 u1
 replace sz:=u1.sz.trans sz
 replace df:=u1.df.trans df
 replace e0:=u1.get 0 e0
 replace e1:=u1.get 1 e1
 refine wp_seq (rW ?_)
 iterate 5 refine lv ?_
 refine lE a1 [] 5 ?_;intro a2 u2 e5
 replace sz:=u2.sz.trans sz
 replace df:=u2.df.trans df
 refine wp_seq (rW ?_)
 iterate 5 refine lv ?_
 refine lE a2 [] 4 ?_;intro a3 u3 e4
 replace sz:=u3.sz.trans sz
 replace df:=u3.df.trans df
 exact wp_ret (hQ _ _ _ df (by simp [results,Tryz.results220,go_sem,evT e4];try rfl) ⟨rfl,rfl⟩)
end
end Go.Proofs.YtkoeecdjijfjnaaGreat
namespace Go.Proofs.YtkoeecdjijfjnaaGreat
open Go.RowKit
def cB:List Int:=[99,111,114,112,117,115]
def cV (k:Nat):Int:=(cB.drop k).foldr (fun b s=>b+256*s) 0
theorem aLz:∀ k,k<6->IntKind.u64.wrap (IntKind.u64.wrap (256*cV (k+1))+IntKind.u64.wrap (cB.getD k 0))=cV k:=am
def dB (s:Int)(i:Int):Int:=fA (fA (fA (fA (fA (fA 0 (cV 0)) 6) 2) s) i) 0
theorem aI1 {m:Nat}(h:m<6):(cB.map (Value.int .u8))[m]?=some (.int .u8 (cB.getD m 0)):=by
 rw [List.getElem?_map,List.getD,List.getElem?_eq_getElem (show m<cB.length from h)]
 rfl
theorem aPv:(Tryz.prog.info? 70).map (fun i=>(i.zero,i.size,i.bytes))=some (some (.int .u64 0),1,8):=aa
theorem aAm (x y:Int):0<=fA x y∧fA x y<18446744073709551616:=aRh _
theorem aIj {x:Int}(h:0<=x)(h':x<18446744073709551616):IntKind.u64.wrap (IntKind.i64.wrap x)=x:=by
 simp [IntKind.wrap,IntKind.bits,IntKind.signed];omega
theorem aJr {x:Int}(h:0<=x)(h':x<18446744073709551616):IntKind.u64.wrap (wrap64 x)=x:=by rw [<- IntWalk.i64_left];exact aIj h h'
section
variable {w:World}{x y:Int}{b c:Nat}
abbrev lbl:Value:=.string ⟨#[99,111,114,112,117,115]⟩
theorem aA6 (w:World):∃ k W,(convert 9 74 lbl).run Tryz.prog w=.ok (.slice (some ⟨w.heap.size,0,none⟩) 6 k) W∧Ext w W∧W.heap.size=w.heap.size+1∧∀ j,j<6->W.cell? ⟨w.heap.size,j,none⟩=some (.int .u8 (cB.getD j 0)):=by
 refine ⟨_,_,run_bytes_of_string w 9 74 5 _ aa aa aa,(Ext.refl w).drew'.alloc' _,Y,fun j hj=>?_⟩
 have:(bytesRow ⟨#[99,111,114,112,117,115]⟩ (grownCap w (ByteArray.size ⟨#[99,111,114,112,117,115]⟩) 0 5))[j]?=some (.int .u8 (cB.getD j 0)):=by
  have h6:j=0∨j=1∨j=2∨j=3∨j=4∨j=5:=U
  rcases h6 with rfl | rfl | rfl | rfl | rfl | rfl <;> (simp [bytesRow,cB,Array.getElem?_append])
 rw [<- this];exact fV w.drew _ _ _ _
noncomputable def aCz:=RG Tryz.f228
noncomputable abbrev aWf:Code:=.seq (aCz 0) (.seq (aCz 1) (.seq (.seq (aCz 2) (.block 0 (.loop (.seq (.seq (aCz 3) (.cond (.tmp 10) .skip (.exit 0))) (.seq (.block 1 (.seq (aCz 5) (.seq (.seq (aCz 6) (.block 2 (.loop (.seq (.seq (aCz 7) (.cond (.tmp 21) .skip (.exit 2))) (.seq (.block 3 (aCz 9)) (aCz 8)))))) (aCz 10)))) (aCz 4)))))) (.seq (aCz 11) .ret)))
theorem aXa:Tryz.f228.body=some aWf:=aa
theorem aGb {P:Nat->Prop}{A:Option Addr}(hl:Sl w P 1 A 6 (cB.map (Value.int .u8))):Calls Tryz.prog 228 #[.slice A 6 c] w fun e w'=>∃ g o d,e=.returned (.slice (some ⟨g,o,none⟩) 1 d)∧w'.cell? ⟨g,o,none⟩=some (.int .u64 (cV 0))∧Ext w w':=by
 refine cI Tryz.func228 aXa rfl Y (fun a Q sz df ea hQ=>?_);have e0:=ea 0 (.slice A 6 c) rfl;obtain ⟨b,off,rfl,-,hc⟩:=hl.2 U;refine wp_seq (rW ?_);refine lv ?_;refine lN a [0] ?_;intro a1 u1
 replace sz:=u1.sz.trans sz
 replace df:=u1.df.trans df
 replace e0:=u1.get 0 e0
 refine wp_seq (rW ?_);refine lv ?_;refine lE a1 [0] 3 ?_;intro a2 u2 e3
 replace sz:=u2.sz.trans sz
 replace df:=u2.df.trans df
 replace e0:=u2.get 0 e0
 refine wp_seq (wp_seq (rW ?_));refine lv ?_;refine lE a2 [0,3] 4 ?_;intro a3 u3 e4
 replace sz:=u3.sz.trans sz
 replace df:=u3.df.trans df
 replace e0:=u3.get 0 e0
 replace e3:=u3.get 3 e3
 refine wp_block (wp_loop (fun a' W=>∃ j:Nat,Ag [0] a3 a'∧Ev a' (.tmp 4)=.int .i64 ((8*j:Nat):Int)∧Ext w W∧((j=0∧Ev a' (.tmp 3)=.slice none 0 0)∨(j=1∧∃ g o d,Ev a' (.tmp 3)=.slice (some ⟨g,o,none⟩) 1 d∧W.cell? ⟨g,o,none⟩=some (.int .u64 (cV 0))))) (fun a' _=>(8 - intOf (Ev a' (.tmp 4))).toNat) ⟨0,.rf,e4,Ext.refl w,.inl ⟨rfl,e3⟩⟩ ?_);clear e3 e4;rintro a4 W ⟨j,u4,e4,hE,hcase⟩
 replace sz:=u4.sz.trans sz
 replace df:=u4.df.trans df
 replace e0:=u4.get 0 e0
 have m4:=e4;refine wp_seq (wp_seq (rW ?_))
 iterate 4 refine lv ?_
 refine lE a4 [0,3,4] 10 ?_;intro a5 u5 e10
 replace sz:=u5.sz.trans sz
 replace df:=u5.df.trans df
 replace e0:=u5.get 0 e0
 replace e4:=u5.get 4 e4
 rcases hcase with ⟨rfl,e3⟩ | ⟨rfl,g,o,d,e3,hg⟩
 ·refine wp_cond_true (e10.trans Y) (wp_skip (wp_seq (wp_block (wp_seq (rW ?_)))))
  replace e3:=u5.get 3 e3
  refine lv ?_;refine lE a5 [0,3,4] 5 ?_;intro a6 u6 e5
  replace sz:=u6.sz.trans sz
  replace df:=u6.df.trans df
  replace e0:=u6.get 0 e0
  replace e3:=u6.get 3 e3
  replace e4:=u6.get 4 e4
  refine wp_seq (wp_seq (rW ?_))
  iterate 7 refine lv ?_
  refine lE a6 [0,3,4,5] 6 ?_;intro a7 u7 e6
  replace sz:=u7.sz.trans sz
  replace df:=u7.df.trans df
  replace e0:=u7.get 0 e0
  replace e3:=u7.get 3 e3
  replace e4:=u7.get 4 e4
  replace e5:=u7.get 5 e5
  refine wp_block (wp_loop (fun a' W'=>∃ k:Nat,Ag [0,3,4] a7 a'∧Ev a' (.tmp 6)=.int .i64 ((k:Int) - 1)∧k<=6∧Ev a' (.tmp 5)=.int .u64 (cV k)∧W'=W) (fun a' _=>(intOf (Ev a' (.tmp 6))+1).toNat) ⟨6,.rf,e6.trans (by simp;try rfl),U,e5,rfl⟩ ?_);clear e5 e6;rintro a8 W' ⟨k,u8,e6,hk,e5,rfl⟩
  replace sz:=u8.sz.trans sz
  replace df:=u8.df.trans df
  replace e0:=u8.get 0 e0
  replace e3:=u8.get 3 e3
  replace e4:=u8.get 4 e4
  have m6:=e6;refine wp_seq (wp_seq (rW ?_))
  iterate 3 refine lv ?_
  refine lE a8 [0,3,4,5,6] 21 ?_;intro a9 u9 e21
  replace sz:=u9.sz.trans sz
  replace df:=u9.df.trans df
  replace e0:=u9.get 0 e0
  replace e3:=u9.get 3 e3
  replace e4:=u9.get 4 e4
  replace e5:=u9.get 5 e5
  replace e6:=u9.get 6 e6
  by_cases h0:k=0
  ·subst h0
   refine wp_cond_false (e21.trans Y) (wp_exit (rW ?_))
   iterate 3 refine lv ?_
   refine la aa aPv (((aN W' w.heap.size 70 1)).alloc _) (T:=fun _=>True) (Sl.new W' _ _ 1 1 rfl) U U (by have:=hE.size;simp;omega) af ?_;intro v' w1 ho hf _;refine lv ?_;refine lE a9 [0,4] 3 ?_;intro b1 z1 g3;obtain ⟨A5,c5,rfl,-,-,hs⟩:=Sl.of_own ho;obtain ⟨g,o5,rfl,-,hc5⟩:=(hs (fun _=>True) (fun _ _=>trivial)).2 U;have hc5:=hc5 0 _ rfl;have hE':=Fr.new_ext ((Fr.of_ext (hE.alloc' _)).trans hf) (fun b hb=>by cases hb);have g4:=z1.get 4 e4;have gz:=z1.sz.trans sz;refine rW ?_
   iterate 3 refine lv ?_
   refine lE b1 [0,3] 4 ?_;intro b2 z2 f4;refine ⟨⟨1,(((((u4.trans (u5.mono rfl)).trans (u6.mono rfl)).trans (u7.mono rfl)).trans (u8.mono rfl)).trans (u9.mono rfl)).trans ((z1.mono rfl).trans (z2.mono rfl)),f4.trans Y,hE',.inr ⟨rfl,g,o5,c5,z2.get 3 g3,hc5⟩⟩,?_⟩;rw [f4,m4];simp [intOf]
  ·obtain ⟨m,rfl⟩:∃ m,k=m+1:=⟨k - 1,U⟩
   have e6':Ev a9 (.tmp 6)=↑(m:Int):=e6.trans Y;clear e6;have hcm:=aA hE (hc m _ (aI1 U));have hm6:(m:Int)<6:=by omega
   refine wp_cond_true (e21.trans ab) (wp_skip (wp_seq (wp_block (rW ?_))))
   iterate 9 refine lv ?_
   refine lE a9 [0,3,4,6] 5 ?_;clear e5;intro b1 z1 e5;have gz:=z1.sz.trans sz;have g6:=z1.get 6 e6';refine rW ?_
   iterate 3 refine lv ?_
   refine lE b1 [0,3,4,5] 6 ?_;intro b2 z2 e6;refine ⟨⟨m,((u8.trans (u9.mono rfl)).trans (z1.mono rfl)).trans (z2.mono rfl),e6,U,(z2.get 5 e5).trans (by rw [show cB[m]?.getD 0=cB.getD m 0 from rfl,aLz m U]),rfl⟩,?_⟩;rw [e6,m6];simp only [intOf];omega
 ·replace e3:=u5.get 3 e3
  refine wp_cond_false (e10.trans Y) (wp_exit (wp_seq (rW ?_)))
  iterate 2 refine lv ?_
  refine lE a5 [] 2 ?_;intro a6 u6 e2;exact wp_ret (hQ _ _ _ (u6.df.trans df) (by simp [results,Tryz.results228,go_sem,evT e2];try rfl) ⟨g,o,d,rfl,hg,hE⟩)
noncomputable def aBj:=RG Tryz.f225
noncomputable abbrev aWh:Code:=.seq (aBj 0) (.seq (aBj 1) (.seq (aBj 2) (.seq (.seq (aBj 3) (.block 0 (.loop (.seq (.seq (aBj 4) (.cond (.tmp 15) .skip (.exit 0))) (.seq (.block 1 (aBj 6)) (aBj 5)))))) (.seq (aBj 7) (.seq (aBj 8) (.seq (.seq (aBj 9) (.block 2 (.loop (.seq (.seq (aBj 10) (.cond (.tmp 37) .skip (.exit 2))) (.seq (.block 3 (aBj 12)) (aBj 11)))))) (.seq (aBj 13) .ret)))))))
theorem aXc:Tryz.f225.body=some aWh:=aa
theorem aMu {P:Nat->Prop}{A:Option Addr}(hl:aU w P (.slice A 2 c) [IntKind.i64.wrap x,y])(hx:0<=x∧x<18446744073709551616)(hy:0<=y∧y<=9223372036854775807):Calls Tryz.prog 225 #[lbl,.slice A 2 c] w fun e w'=>e=.returned (.int .u64 (dB x y))∧Ext w w':=by
 refine cI Tryz.func225 aXc rfl Y (fun a Q sz df ea hQ=>?_);have e0:=ea 0 lbl rfl;have e1:=ea 1 (.slice A 2 c) rfl;refine wp_seq (rW ?_);refine lv ?_;refine lN a [0,1] ?_;intro a1 u1
 replace sz:=u1.sz.trans sz
 replace df:=u1.df.trans df
 replace e0:=u1.get 0 e0
 replace e1:=u1.get 1 e1
 refine wp_seq (rW ?_);refine lv ?_;refine lE a1 [0,1] 5 ?_;intro a2 u2 e5
 replace sz:=u2.sz.trans sz
 replace df:=u2.df.trans df
 replace e0:=u2.get 0 e0
 replace e1:=u2.get 1 e1
 refine wp_seq (rW ?_);obtain ⟨k1,w1,hcv,x1,-,hcs⟩:=aA6 w;refine lv ?_;refine lv (v:=.slice (some ⟨w.heap.size,0,none⟩) 6 k1) (w1:=w1) ?_ rfl rfl (by simp [execOp,sz,hcv])
 have hs1:Sl w1 (fun _=>True) 1 (some ⟨w.heap.size,0,none⟩) 6 (cB.map (Value.int .u8)):=⟨rfl,fun _=>⟨_,0,rfl,trivial,fun j u hu=>by
  have hj:j<6:=(List.getElem?_eq_some_iff.1 hu).1;rw [aI1 hj] at hu
  cases hu
  rw [Nat.zero_add];exact hcs j hj⟩⟩
 refine lc Tryz.func228 (aGb (c:=k1) hs1) ?_;rintro e w2 ⟨g,o,d,rfl,hg,x2⟩;refine ⟨_,rfl,?_⟩;refine lv ?_;refine lE a2 [0,1,5] 6 ?_;intro a3 u3 e6
 replace sz:=u3.sz.trans sz
 replace df:=u3.df.trans df
 replace e0:=u3.get 0 e0
 replace e1:=u3.get 1 e1
 replace e5:=u3.get 5 e5
 refine wp_seq (wp_seq (rW ?_));refine lv ?_;refine lE a3 [0,1,5,6] 7 ?_;intro a4 u4 e7
 replace sz:=u4.sz.trans sz
 replace df:=u4.df.trans df
 replace e0:=u4.get 0 e0
 replace e1:=u4.get 1 e1
 replace e5:=u4.get 5 e5
 replace e6:=u4.get 6 e6
 refine wp_block (wp_loop (fun a' W=>∃ j:Nat,Ag [0,1,6] a4 a'∧Ev a' (.tmp 7)=↑(j:Int)∧j<=1∧Ev a' (.tmp 5)=.int .u64 (if j=0 then 0 else fA 0 (cV 0))∧W=w2) (fun a' _=>(1 - intOf (Ev a' (.tmp 7))).toNat) ⟨0,.rf,e7,U,e5.trans (by rw [if_pos rfl]),rfl⟩ ?_);clear e5 e7;rintro a5 W ⟨j,u5,e7,hj,e5,rfl⟩
 replace sz:=u5.sz.trans sz
 replace df:=u5.df.trans df
 replace e0:=u5.get 0 e0
 replace e1:=u5.get 1 e1
 replace e6:=u5.get 6 e6
 have m7:=e7;refine wp_seq (wp_seq (rW ?_))
 iterate 4 refine lv ?_
 refine lE a5 [0,1,5,6,7] 15 ?_;intro a6 u6 e15
 replace sz:=u6.sz.trans sz
 replace df:=u6.df.trans df
 replace e0:=u6.get 0 e0
 replace e1:=u6.get 1 e1
 replace e5:=u6.get 5 e5
 replace e6:=u6.get 6 e6
 replace e7:=u6.get 7 e7
 by_cases h0:j=0
 ·subst h0
  refine wp_cond_true (e15.trans Y) (wp_skip (wp_seq (wp_block (rW ?_))))
  iterate 5 refine lv ?_
  refine lc Tryz.func229 (rO (x:=0) (y:=cV 0)) ?_;rintro e w3 ⟨rfl,rfl⟩;refine ⟨_,rfl,?_⟩;refine lv ?_;refine lE a6 [0,1,6,7] 5 ?_;clear e5;intro a7 u7 e5
  replace sz:=u7.sz.trans sz
  replace df:=u7.df.trans df
  replace e0:=u7.get 0 e0
  replace e1:=u7.get 1 e1
  replace e6:=u7.get 6 e6
  replace e7:=u7.get 7 e7
  refine rW ?_
  iterate 3 refine lv ?_
  refine lE a7 [0,1,5,6] 7 ?_;intro a8 u8 f7;refine ⟨⟨1,((u5.trans (u6.mono rfl)).trans (u7.mono rfl)).trans (u8.mono rfl),f7,U,(u8.get 5 e5).trans (by rw [if_neg am]),rfl⟩,?_⟩;rw [f7,m7];simp [intOf]
 ·obtain rfl:j=1:=by omega
  rw [if_neg h0] at e5;refine wp_cond_false (e15.trans Y) (wp_exit (wp_seq (rW ?_)))
  iterate 4 refine lv ?_
  refine lc Tryz.func229 (rO (x:=fA 0 (cV 0)) (y:=6)) ?_ (hv:=by simp [*];rfl);rintro e w3 ⟨rfl,rfl⟩;refine ⟨_,rfl,?_⟩;refine lv ?_;clear e7 m7 e15;refine lE a6 [0,1] 5 ?_;clear e5;intro a7 u7 e5
  replace sz:=u7.sz.trans sz
  replace df:=u7.df.trans df
  replace e0:=u7.get 0 e0
  replace e1:=u7.get 1 e1
  refine wp_seq (rW ?_)
  iterate 4 refine lv ?_
  refine lc Tryz.func229 (rO (x:=fA (fA 0 (cV 0)) 6) (y:=2)) ?_ (hv:=by simp [*];rfl);rintro e w3 ⟨rfl,rfl⟩;refine ⟨_,rfl,?_⟩;refine lv ?_;refine lE a7 [0,1] 5 ?_;clear e5;intro a8 u8 e5
  replace sz:=u8.sz.trans sz
  replace df:=u8.df.trans df
  replace e0:=u8.get 0 e0
  replace e1:=u8.get 1 e1
  refine wp_seq (wp_seq (rW ?_));refine lv ?_;refine lE a8 [0,1,5] 8 ?_;intro a9 u9 e8
  replace sz:=u9.sz.trans sz
  replace df:=u9.df.trans df
  replace e0:=u9.get 0 e0
  replace e1:=u9.get 1 e1
  replace e5:=u9.get 5 e5
  obtain ⟨bx,ox,rfl,-,-,h0'⟩:=hl.get (i:=0) Y;obtain ⟨b1,o1,e1',-,-,h1'⟩:=hl.get (i:=1) Y
  cases e1'
  have x2':=x1.trans' x2;have h00:w3.cell? ⟨bx,ox,none⟩=some (.int .i64 (IntKind.i64.wrap x)):=by simpa using aA x2' h0'
  have h11:w3.cell? ⟨bx,ox+1,none⟩=some (↑y):=by simpa using aA x2' h1'
  clear h0' h1' hcs hs1 hg;generalize hm:fA (fA (fA 0 (cV 0)) 6) 2=m3 at *;have e5':Ev a9 (.tmp 5)=.int .u64 m3:=e5;refine wp_block (wp_loop (fun a' W'=>∃ j:Nat,Ag [0,1] a9 a'∧Ev a' (.tmp 8)=↑(j:Int)∧j<=2∧Ev a' (.tmp 5)=.int .u64 (if j=0 then m3 else if j=1 then fA m3 x else fA (fA m3 x) y)∧W'=w3) (fun a' _=>(2 - intOf (Ev a' (.tmp 8))).toNat) ⟨0,.rf,e8,U,e5'.trans (by rw [if_pos rfl]),rfl⟩ ?_);clear e5 e5' e8;rintro a10 W' ⟨j,u10,e8,hj,e5,rfl⟩
  replace sz:=u10.sz.trans sz
  replace df:=u10.df.trans df
  replace e0:=u10.get 0 e0
  replace e1:=u10.get 1 e1
  have m8:=e8;refine wp_seq (wp_seq (rW ?_))
  iterate 4 refine lv ?_
  refine lE a10 [0,1,5,8] 37 ?_;intro a11 u11 e37
  replace sz:=u11.sz.trans sz
  replace df:=u11.df.trans df
  replace e0:=u11.get 0 e0
  replace e1:=u11.get 1 e1
  replace e5:=u11.get 5 e5
  replace e8:=u11.get 8 e8
  have hj3:j=0∨j=1∨j=2:=U
  rcases hj3 with rfl | rfl | rfl
  ·rw [if_pos rfl] at e5
   refine wp_cond_true (e37.trans Y) (wp_skip (wp_seq (wp_block (rW ?_))))
   iterate 6 refine lv ?_
   refine lc Tryz.func229 (rO (x:=m3) (y:=x)) ?_ (hv:=by simp [*,aIj hx.1 hx.2]);rintro e w3 ⟨rfl,rfl⟩;refine ⟨_,rfl,?_⟩;refine lv ?_;refine lE a11 [0,1,8] 5 ?_;clear e5;intro a12 u12 e5
   replace sz:=u12.sz.trans sz
   replace df:=u12.df.trans df
   replace e0:=u12.get 0 e0
   replace e1:=u12.get 1 e1
   replace e8:=u12.get 8 e8
   refine rW ?_
   iterate 3 refine lv ?_
   refine lE a12 [0,1,5] 8 ?_;intro a13 u13 f8;refine ⟨⟨1,((u10.trans (u11.mono rfl)).trans (u12.mono rfl)).trans (u13.mono rfl),f8.trans Y,U,(u13.get 5 e5).trans (by rw [if_neg am,if_pos rfl]),rfl⟩,?_⟩;rw [f8,m8];simp [intOf]
  ·rw [if_neg am,if_pos rfl] at e5
   generalize fA m3 x=m4 at *;refine wp_cond_true (e37.trans Y) (wp_skip (wp_seq (wp_block (rW ?_))))
   iterate 6 refine lv ?_
   refine lc Tryz.func229 (rO (x:=m4) (y:=y)) ?_ (hv:=by simp [*,aUg hy.1 (show y<18446744073709551616 by omega)]);rintro e w3 ⟨rfl,rfl⟩;refine ⟨_,rfl,?_⟩;refine lv ?_;refine lE a11 [0,1,8] 5 ?_;clear e5;intro a12 u12 e5
   replace sz:=u12.sz.trans sz
   replace df:=u12.df.trans df
   replace e0:=u12.get 0 e0
   replace e1:=u12.get 1 e1
   replace e8:=u12.get 8 e8
   refine rW ?_
   iterate 3 refine lv ?_
   refine lE a12 [0,1,5] 8 ?_;intro a13 u13 f8;refine ⟨⟨2,((u10.trans (u11.mono rfl)).trans (u12.mono rfl)).trans (u13.mono rfl),f8.trans Y,U,(u13.get 5 e5).trans (by rw [if_neg am,if_neg am]),rfl⟩,?_⟩;rw [f8,m8];simp [intOf]
  ·rw [if_neg am,if_neg am] at e5
   generalize hm5:fA (fA m3 x) y=m5 at *;refine wp_cond_false (e37.trans Y) (wp_exit (wp_seq (rW ?_)));refine lv ?_;refine lc Tryz.func229 (rO (x:=m5) (y:=0)) ?_;rintro e w3 ⟨rfl,rfl⟩;refine ⟨_,rfl,?_⟩;refine lv ?_;refine lE a11 [] 4 ?_;intro a12 u12 e4;exact wp_ret (hQ _ _ _ (u12.df.trans df) (by simp [results,Tryz.results225,go_sem,evT e4];try rfl) ⟨by unfold dB;rw [hm,hm5],x2'⟩)
noncomputable def aVd:=RG Tryz.f214
noncomputable abbrev aWo:Code:=.seq (aVd 0) (.seq (aVd 1) .ret)
theorem aXj:Tryz.f214.body=some aWo:=aa
theorem aAq (w:World)(p q:Int)(h1:I64 p)(h2:I64 q):aU (w.alloc (.cells #[↑p,↑q] 3)) (fun _=>True) (.slice (some ⟨w.heap.size,0,none⟩) 2 2) [p,q] :=
 ⟨_,_,rfl,Nat.le_refl _,⟨Y,U⟩,fun z hz=>by
  simp at hz;rcases hz with rfl | rfl <;> assumption,Sl.new w [.int .i64 p,.int .i64 q] 3 2 1 rfl⟩
theorem aUw (z:Int):I64 (wrap64 z):=by
 unfold I64 wrap64;omega
theorem aJm (hx:0<=x∧x<18446744073709551616)(hy:0<=y∧y<=9223372036854775807):Calls Tryz.prog 214 #[.int .u64 x,lbl,↑y] w fun e w'=>e=.returned (.int .u64 (dB x y))∧Ext w w':=by
 refine cI Tryz.func214 aXj rfl Y (fun a Q sz df ea hQ=>?_);have e0:=ea 0 (.int .u64 x) rfl;have e1:=ea 1 lbl rfl;have e2:=ea 2 (↑y) rfl;refine wp_seq (rW ?_);refine lv ?_;refine lN a [0,1,2] ?_;intro a1 u1
 replace sz:=u1.sz.trans sz
 replace df:=u1.df.trans df
 replace e0:=u1.get 0 e0
 replace e1:=u1.get 1 e1
 replace e2:=u1.get 2 e2
 refine wp_seq (rW ?_);have hI:=aAq w (wrap64 x) y (aUw x) aj;have x1:Ext w (w.alloc (.cells #[.int .i64 (wrap64 x),↑y] 3)):=(Ext.refl w).alloc' _
 iterate 5 refine lv ?_
 rw [<- IntWalk.i64_left] at hI x1;refine lc Tryz.func225 (aMu hI hx hy) ?_;rintro e w2 ⟨rfl,x2⟩;refine ⟨_,rfl,?_⟩;refine lv ?_;refine lE a1 [] 6 ?_;intro a2 u2 e6;exact wp_ret (hQ _ _ _ (u2.df.trans df) (by simp [results,Tryz.results214,go_sem,evT e6];try rfl) ⟨rfl,x1.trans' x2⟩)
end
end Go.Proofs.YtkoeecdjijfjnaaGreat
namespace Go.Proofs.YtkoeecdjijfjnaaGreat
open Go.RowKit Go.Shelf
attribute [local go_sem] Oper.semAt_some
def Kp2 (b d:Nat)(A B:World):Prop:=A.heap.size<=B.heap.size∧B.heap[b]?=A.heap[b]?∧B.heap[d]?=A.heap[d]?
theorem Kp2.tr {b d:Nat}{A B C:World}(h:Kp2 b d A B)(k:Kp2 b d B C):Kp2 b d A C:=⟨Nat.le_trans h.1 k.1,k.2.1.trans h.2.1,k.2.2.trans h.2.2⟩
theorem aH2:∀ k,k<6->bits .or .u64 (IntKind.u64.wrap (cV (k+1)*256)) (IntKind.u64.wrap (cB.getD k 0))=cV k:=am
theorem aCe (n l Bs b off c:Nat)(hn:1<=n)(J Jx:List Unit->World->Prop)
  (hY:∀ pre x W,J pre W->pre.length<1->YieldAt Fence.wide (n - 1) Tryz.prog l #[.int .u64 (cV 0)] W fun e W'=>(e=.returned (.bool true)∧J (pre ++ [x]) W'∧Kp2 b Bs W W')∨(e=.returned (.bool false)∧Jx (pre ++ [x]) W'))
  (W:World)(hBs:W.cell? ⟨Bs,0,none⟩=some (.slice (some ⟨b,off,none⟩) 6 c))(hc:∀ j,j<6->W.cell? ⟨b,off+j,none⟩=some (.int .u8 (cB.getD j 0)))(h0:J [] W) :
  CallsIn Fence.wide n Tryz.prog 226 #[.func (.yield l) #[] #[],.pointer (some ⟨Bs,0,none⟩)] W fun e W'=>(∃ v,e=.returned v)∧((∃ ys,ys=[()]∧J ys W')∨(∃ pre,pre=[()]∧Jx pre W')):=by
 obtain ⟨fn,tmps,assign,body,hy,hR⟩:=hY [] () W h0 Y;refine callsIn_of_wp Tryz.func226 rfl trivial ?_ rfl;simp only [Tryz.ntmps226,List.size_toArray,List.length_cons,List.length_nil,Nat.reduceAdd,Nat.reduceSub,Array.replicate_succ,Array.replicate_zero,List.push_toArray,List.append_toArray,List.nil_append,List.cons_append]
 gi_wp2
 gi_loopw [3] (fun i wr=>(i=.int .i64 0∧wr=W)∨(i=.int .i64 8∧J [()] wr∧Kp2 b Bs W wr)) (fun i _=>8 - (intOf i).toNat)
 case atStart=>exact .inl ⟨rfl,rfl⟩
 case round =>
  rcases hrel with ⟨rfl,rfl⟩ | ⟨rfl,hJ,hk⟩
  ·gi_wp2
   gi_loopw [4,5] (fun x i w2=>∃ k:Nat,k<=6∧x=.int .u64 (cV k)∧i=.int .i64 ((k:Int) - 1)∧w2=wr) (fun _ i _=>(intOf i+1).toNat)
   case atStart=>exact ⟨6,U,rfl,rfl,rfl⟩
   case round =>
    obtain ⟨k,hk,rfl,rfl,rfl⟩:=hrel
    by_cases h0:k=0
    ·subst h0
     gi_wp2
     refine hR.mono ?_;rintro e W3 (⟨rfl,hJ3,hk3⟩ | ⟨rfl,hJx3⟩)
     ·gi_wp2
      go_roundw
      case rel=>exact .inr ⟨rfl,hJ3,hk3⟩
      case measure=>simp [intOf]
     ·gi_wp2
      refine bodyPost_ret (results_none rfl _ _ _) rfl ?_;exact ⟨⟨_,rfl⟩,.inr ⟨_,rfl,hJx3⟩⟩
    ·obtain ⟨m,rfl⟩:∃ m,k=m+1:=⟨k - 1,U⟩
     have hm:m<6:=U
     gi_wp2
     refine ⟨⟨m,U,by rw [show cB[m]?.getD 0=cB.getD m 0 from rfl,aH2 m hm],rfl,trivial⟩,?_⟩;simp only [intOf];omega
  ·have hBs':=(World.cell?_of_block (w:=W) (w':=wr) hk.2.2).trans hBs
   gi_wp2
   go_end0;exact ⟨⟨_,rfl⟩,.inl ⟨_,rfl,hJ⟩⟩
theorem aEh (n:Nat)(a:Option Addr)(k c:Nat)(w:World) :
  CallsIn Fence.wide n Tryz.prog 219 #[.slice a k c] w fun e w'=>e=.returned (.func (.func 226) #[] #[.pointer (some ⟨w.heap.size,0,none⟩)])∧w'=w.alloc (.cells #[.slice a k c] 74):=by
 refine callsIn_of_wp Tryz.func219 rfl trivial ?_ rfl;simp only [Tryz.ntmps219,List.size_toArray,List.length_cons,List.length_nil,Nat.reduceAdd,Nat.reduceSub,Array.replicate_succ,Array.replicate_zero,List.push_toArray,List.append_toArray,List.nil_append,List.cons_append]
 gi_wp2
 go_ret;exact ⟨rfl,rfl⟩
theorem wQ (n Bs b off c:Nat)(hn:1<=n)(w:World)(hBs:w.cell? ⟨Bs,0,none⟩=some (.slice (some ⟨b,off,none⟩) 6 c))(hc:∀ j,j<6->w.cell? ⟨b,off+j,none⟩=some (.int .u8 (cB.getD j 0))) :
  SeqStopsK Fence.wide n Tryz.prog 226 #[.pointer (some ⟨Bs,0,none⟩)] (fun _:Unit=>#[Value.int .u64 (cV 0)]) (Kp2 b Bs) (fun ys=>ys=[()]) (fun pre=>pre=[()]) 1 w:=fun l J Jx W hW _ _ hY h0 =>
 aCe n l Bs b off c hn J Jx hY W (aA hW hBs) (fun j hj=>aA hW (hc j hj)) h0
theorem aQ9 {w wr:World}{D B:Nat}{u:Value}{o:Option Obj}(hc:wr.cell? ⟨B,0,none⟩=some u)(hf:wr.frozen? ⟨B,0,none⟩=false)(hx:Ext w wr)(hB:w.heap.size<=B)(hK:wr.heap[D]?=o)(hne:B ≠ D)(v:Value) :
  (wr.setCell ⟨B,0,none⟩ v).cell? ⟨B,0,none⟩=some v∧(wr.setCell ⟨B,0,none⟩ v).frozen? ⟨B,0,none⟩=false∧Ext w (wr.setCell ⟨B,0,none⟩ v)∧(wr.setCell ⟨B,0,none⟩ v).heap[D]?=o :=
 ⟨World.cell?_setCell_same' _ _ _ (by rw [hc];rfl),by rw [World.frozen?_setCell];exact hf,hx.setCell' (p:=⟨B,0,none⟩) hB v,(Below.heap_setCell _ _ _ _ hne.symm).trans hK⟩
def fW (pre:List Unit):Int:=pre.foldl (fun s _=>fA s (cV 0)) 0
theorem fW1:fW [()]=fA 0 (cV 0):=rfl
theorem aLj (pre:List Unit)(x:Unit):fW (pre ++ [x])=fA (fW pre) (cV 0):=by simp [fW]
theorem aMv {P:Nat->Prop}{A:Option Addr}{x y:Int}{c:Nat}{w:World}(hl:aU w P (.slice A 2 c) [IntKind.i64.wrap x,y])(hx:0<=x∧x<18446744073709551616)(hy:0<=y∧y<=9223372036854775807):Calls Tryz.prog 207 #[lbl,.slice A 2 c] w fun e w'=>e=.returned (.int .u64 (dB x y))∧Ext w w':=by
 refine (callsIn_wide (n:=3)).1 ?_;refine callsIn_of_wp_marks Tryz.func207 rfl trivial ?_ rfl;simp only [Tryz.ntmps207,List.size_toArray,List.length_cons,List.length_nil,Nat.reduceAdd,Nat.reduceSub,Array.replicate_succ,Array.replicate_zero,List.push_toArray,List.append_toArray,List.nil_append,List.cons_append];obtain ⟨k,W1,hcv,hX,hs,hcs⟩:=aA6 (w.alloc (.cells #[.int .u64 0] 70))
 gi_wp2_with (refine ⟨trivial,?_⟩;gi_at_call 219;refine (aEh _ _ _ _ _).mono ?_;rintro e w' ⟨rfl,rfl⟩)
 simp only [World.size_alloc] at hs;have bS:=aA hX (fV w #[.int .u64 0] 70 (0,0) 0);have xN:Ext W1 (W1.alloc (.cells #[.slice (some ⟨w.heap.size+1,0,none⟩) 6 k] 74)):=(Ext.refl W1).alloc' _;have fN:=Blk.frozen (((Blk.new w 70 #[.int .u64 0]).ext hX).ext xN) 0;have bN:=mG W1 #[.slice (some ⟨w.heap.size+1,0,none⟩) 6 k] 74 (0,0) 0 (w.heap.size+1+1) hs.symm rfl;have hB0:Ext w (W1.alloc (.cells #[.slice (some ⟨w.heap.size+1,0,none⟩) 6 k] 74)):=(((Ext.refl w).alloc' _).trans' hX).trans' xN
 refine wpIn_rangeFunc_ownF rfl U (gf:=226) (lb:=#[.pointer (some ⟨w.heap.size+1+1,0,none⟩)]) rfl trivial (enters_of Tryz.func226 aa rfl)
  (wQ 2 (w.heap.size+1+1) (w.heap.size+1) 0 k U _ bN (fun j hj=>by have:=hcs j hj;simp only [World.size_alloc] at this;rw [Nat.zero_add];exact aA xN this)) (fun h k=>h.tr k)
  (fun W l o o' hl h _ _=>by
   simp only [World.size_alloc] at hl;exact ⟨by simp [World.putObj],World.putObj_heap_other U,World.putObj_heap_other U⟩) (Below.refl _ _) (fun _=>rfl)
  (fun pre W=>(W.cell? ⟨w.heap.size,0,none⟩=some (.int .u64 (fW pre))∧W.frozen? ⟨w.heap.size,0,none⟩=false)∧Below w.heap.size w W)
  (fun _ _ _=>False)
  (OwnFrom.and (Own.from (fun s A B row hs hg hr=>⟨cell_kept hs.1 hg hr,(frozen_kept hs.1 hg hr).trans hs.2⟩) _) (ownFrom_below (Nat.le_refl _) ab))
  (fun _ _ _ _ _ hs _ _=>hs)
  ⟨⟨aA xN bS,fN⟩,hB0⟩
  (fun _=>{ tmps:=#[lbl,.slice A 2 c,undef,undef,.int .u64 0,.pointer (some ⟨w.heap.size,0,none⟩),.int .u64 (cV 0),undef,undef,lbl,.slice (some ⟨w.heap.size+1,0,none⟩) 6 k,.func (.func 226) #[] #[.pointer (some ⟨w.heap.size+1+1,0,none⟩)],.int .u64 (cV 0),undef,undef,undef,undef,undef,undef,undef,undef,undef,undef,undef,undef,undef,undef,undef,undef,undef,undef,undef,undef,undef,undef,undef,undef,undef,undef],defers:=[] }) ?assign ?body ?done ?stop
 case assign =>
  intro l x W K hK
  gi_wp2
  exact hK
 case body =>
  rintro l pre x W ⟨⟨hc,hf⟩,hB⟩ _
  gi_wp2_with (refine ⟨trivial,?_⟩;gi_at_call 220;refine (CallsIn.inRound l (callsIn_wide.2 wG)).mono ?_;rintro e w' ⟨rfl,rfl⟩)
  exact ⟨KeepsOthers.setCell _ _ _,⟨eh,Below.heap_setCell _ _ _ _ ap,Below.heap_setCell _ _ _ _ ap⟩,⟨by rw [aLj];exact World.cell?_setCell_same' _ _ _ (by rw [hc];rfl),by rw [World.frozen?_setCell];exact hf⟩,hB.setCell (p:=⟨w.heap.size,0,none⟩) (Nat.le_refl _) _⟩
 case done =>
  rintro D ys W hD rfl ⟨⟨hc,hf⟩,hB⟩ hK;obtain ⟨bx,ox,rfl,-,-,h0⟩:=hl.get (i:=0) Y;obtain ⟨b1,o1,e1,-,-,h1⟩:=hl.get (i:=1) Y
  cases e1
  rw [fW1] at hc;have hwd:fA (fA (fA (fA (fA (fA 0 (cV 0)) 6) 2) x) y) 0=dB x y:=rfl;generalize fA 0 (cV 0)=m1 at *;have hne:w.heap.size ≠ D:=by simp at hD;omega
  have hDw:w.heap.size<=D:=by simp at hD;omega
  gi_wp2_with (refine ⟨trivial,?_⟩;gi_at_call 220;refine (callsIn_wide.2 wG).mono ?_;rintro e w' ⟨rfl,rfl⟩)
  gi_loopw [8,28,29,30,31,32,33,34,35,36] (fun u8 i u29 u30 u31 u32 u33 u34 u35 u36 wr=>∃ j:Nat,j<=2∧i=↑(j:Int)∧wr.cell? ⟨w.heap.size,0,none⟩=some (.int .u64 (if j=0 then fA (fA m1 6) 2 else if j=1 then fA (fA (fA m1 6) 2) x else fA (fA (fA (fA m1 6) 2) x) y))∧wr.frozen? ⟨w.heap.size,0,none⟩=false∧Ext w wr∧wr.heap[D]?=some (.deferred (some []))) (fun _ i _ _ _ _ _ _ _ _ _=>(2 - intOf i).toNat)
  case atStart =>
   have b1:=aQ9 hc hf hB (Nat.le_refl _) hK hne (.int .u64 (fA m1 6));have b2:=aQ9 b1.1 b1.2.1 b1.2.2.1 (Nat.le_refl _) b1.2.2.2 hne (.int .u64 (fA (fA m1 6) 2));exact ⟨0,U,rfl,by rw [if_pos rfl];exact b2.1,b2.2⟩
  case round =>
   obtain ⟨j,hj,rfl,hc',hf',hx',hK'⟩:=hrel;have hj3:j=0∨j=1∨j=2:=by omega
   rcases hj3 with rfl | rfl | rfl
   ·have hc0:wr.cell? ⟨bx,ox,none⟩=some (.int .i64 (IntKind.i64.wrap x)):=by simpa using aA hx' h0
    have hux:IntKind.u64.wrap (wrap64 x)=x:=aJr hx.1 hx.2
    gi_wp2_with (refine ⟨trivial,?_⟩;gi_at_call 220;refine (callsIn_wide.2 wG).mono ?_;rintro e w' ⟨rfl,rfl⟩)
    have b1:=aQ9 hc' hf' hx' (Nat.le_refl _) hK' hne (.int .u64 (fA (fA (fA m1 6) 2) x));exact ⟨⟨1,U,rfl,by rw [if_neg am,if_pos rfl];exact b1.1,b1.2⟩,by simp [intOf]⟩
   ·have hc0:=aA hx' h1
    gi_wp2_with (refine ⟨trivial,?_⟩;gi_at_call 220;refine (callsIn_wide.2 wG).mono ?_;rintro e w' ⟨rfl,rfl⟩)
    have b1:=aQ9 hc' hf' hx' (Nat.le_refl _) hK' hne (.int .u64 (fA (fA (fA (fA m1 6) 2) x) y));exact ⟨⟨2,U,rfl,by rw [if_neg am,if_neg am];exact b1.1,b1.2⟩,by simp [intOf]⟩
   ·gi_wp2_with (refine ⟨trivial,?_⟩;gi_at_call 220;refine (callsIn_wide.2 wG).mono ?_;rintro e w' ⟨rfl,rfl⟩)
    refine ⟨Y,.inl ⟨_,_,rfl,run_takeDeferred hK',?_⟩⟩;rw [<- hwd];exact ⟨_,results_tmp rfl _ _ _,rfl,hx'.trans (belowK_b (w:=w) (Nat.le_refl _) _ D _ _ U hK' rfl rfl)⟩
 case stop =>
  rintro D c pre W _ _ h _;exact h.elim
section
variable {w:World}{x y:Int}
noncomputable def aVg:=RG Tryz.f189
noncomputable abbrev aW1:Code:=.seq (aVg 0) (.seq (aVg 1) .ret)
theorem aXw:Tryz.f189.body=some aW1:=aa
theorem aJn (hx:0<=x∧x<18446744073709551616)(hy:0<=y∧y<=9223372036854775807):Calls Tryz.prog 189 #[.int .u64 x,lbl,↑y] w fun e w'=>e=.returned (.int .u64 (dB x y))∧Ext w w':=by
 refine cI Tryz.func189 aXw rfl Y (fun a Q sz df ea hQ=>?_);have e0:=ea 0 (.int .u64 x) rfl;have e1:=ea 1 lbl rfl;have e2:=ea 2 (↑y) rfl;refine wp_seq (rW ?_);refine lv ?_;refine lN a [0,1,2] ?_;intro a1 u1
 replace sz:=u1.sz.trans sz
 replace df:=u1.df.trans df
 replace e0:=u1.get 0 e0
 replace e1:=u1.get 1 e1
 replace e2:=u1.get 2 e2
 refine wp_seq (rW ?_);have hI:=aAq w (wrap64 x) y (aUw x) aj;have x1:Ext w (w.alloc (.cells #[.int .i64 (wrap64 x),↑y] 3)):=(Ext.refl w).alloc' _
 iterate 5 refine lv ?_
 rw [<- IntWalk.i64_left] at hI x1;refine lc Tryz.func207 (aMv hI hx hy) ?_;rintro e w2 ⟨rfl,x2⟩;refine ⟨_,rfl,?_⟩;refine lv ?_;refine lE a1 [] 6 ?_;intro a2 u2 e6;exact wp_ret (hQ _ _ _ (u2.df.trans df) (by simp [results,Tryz.results189,go_sem,evT e6];try rfl) ⟨rfl,x1.trans' x2⟩)
end
end Go.Proofs.YtkoeecdjijfjnaaGreat
namespace Go.Proofs.YtkoeecdjijfjnaaGreat
open Go.RowKit Go.Shelf
attribute [local go_sem] Oper.semAt_some
def aK1 (B:Nat)(I:Nat->World->Prop)(Ix:World->Prop)(j:Nat)(W:World):Exit->Act->World->Prop
 | .normal,_,W'=>KeepsFrom B W W'∧I (j+1) W'
 | .ret,_,W'=>KeepsFrom B W W'∧Ix W'
 | _,_,_=>False
theorem aMy {g:Operand}{ps:Array Tmp}{assign body:Code}{Q:Exit->Act->World->Prop}{a:Act}{w:World}{gf:Nat}{lb:Array Value}(hg:a.eval g=.func (.func gf) #[] lb)(eg:∀ args w,(callFunc gf args).run Tryz.prog w=.ok (.enter gf args) w){encs:Nat->Array Value}(hps:∀ j,(encs j).size=ps.size)
  (I:Nat->World->Prop)(Ix:World->Prop)(hI:∀ j A B,I j A->Ext A B->I j B)(hIp:∀ j A l o o',I j A->w.heap.size<=l->A.heap[l]?=some o->o.isCells=false->I j (A.putObj l o'))(hIxp:∀ A l o o',Ix A->w.heap.size<=l->A.heap[l]?=some o->o.isCells=false->Ix (A.putObj l o'))(h0:I 0 w)
  (hseq:∀ l (J:Nat->World->Prop)(Jx:World->Prop) W,Ext w W->(∀ j A B,J j A->Ext A B->J j B)->(∀ j A,J j A->I j A)->(∀ j W1,J j W1->YieldAt Fence.wide 1 Tryz.prog l (encs j) W1 fun e W'=>(e=.returned (.bool true)∧J (j+1) W')∨(e=.returned (.bool false)∧Jx W'))->J 0 W->CallsIn Fence.wide 2 Tryz.prog gf (#[.func (.yield l) #[] #[]] ++ lb) W fun e W'=>(∃ v,e=.returned v)∧Jx W')
  (a₁:Nat->Act)(hassign:∀ (l j:Nat)(W:World)(K:Act->World->Prop),K (a₁ j) W->assign.wpIn (Fence.wide.inRound l) 1 Tryz.prog (Exit.then K (fun _ _ _=>False)) { tmps:=(ps.zip (encs j)).foldl (fun t (p,v)=>t.setIfInBounds p v) a.tmps,defers:=[] } W)
  (hbody:∀ (l j:Nat)(W:World),I j W->body.wpIn (Fence.wide.inRound l) 1 Tryz.prog (aK1 w.heap.size I Ix j W) (a₁ j) W)
  (hstop:∀ (D:Nat)(W:World),w.heap.size<=D->Ix W->W.heap[D]?=some (.deferred (some []))->Code.ret.wpIn Fence.wide 3 Tryz.prog Q { a with defers:={ target:=.collected D,args:=#[] } :: a.defers } W) :
  (Code.rangeFunc g ps assign body).wpIn Fence.wide 3 Tryz.prog Q a w:=by
 refine wpIn_rangeFunc (fun fn hfn=>?_);obtain ⟨rec,hrec⟩:∃ rec:LoopState->Option Code->Loop,rec=fun st pe=>{ state:=st,pending:=pe,fn,tmps:=a.tmps,params:=ps,assign,body,defers:=w.heap.size }:=⟨_,rfl⟩
 obtain ⟨W1,hW1⟩:∃ W1,(w.alloc (.deferred (some []))).alloc (.loop (rec .ready none))=W1:=⟨_,rfl⟩;have X1:Ext w W1:=by rw [<- hW1];exact ((Ext.refl w).alloc' _).alloc' _
 have hL1:W1.heap[w.heap.size+1]?=some (.loop (rec .ready none)):=by
  rw [<- hW1];have:=World.alloc_heap_new (w.alloc (.deferred (some []))) (.loop (rec .ready none))
  rwa [World.size_alloc] at this
 have hK1:W1.heap[w.heap.size]?=some (.deferred (some [])):=by
  rw [<- hW1];exact (Below.heap_alloc _ _ _ Y).trans (World.alloc_heap_new w _)
 have keep:∀ {A B:World}{k:Nat}{o:Obj},Ext A B->A.heap[k]?=some o->B.heap[k]?=some o:=fun hx h=>(hx.block _ (Array.getElem?_eq_some_iff.1 h).1).trans h
 refine ⟨w.heap.size+1,[{ target:=.collected w.heap.size,args:=#[] }],W1,{ target:=.fn (.func gf) lb,args:=#[.func (.yield (w.heap.size+1)) #[] #[]] },W1,gf,#[.func (.yield (w.heap.size+1)) #[] #[]] ++ lb,W1,?_,?_,fun _ _=>trivial,?_,fun _=>by omega,?_⟩
 ·rw [<- hW1,hrec]
  exact run_enterLoop_outer _ _ _ _ _
 ·simp only [resolve,hg]
  simp [go_sem]
 ·simp [invoke,go_sem,eg]
 ·refine (hseq (w.heap.size+1) (fun j W=>I j W∧W.heap[w.heap.size+1]?=some (.loop (rec .ready none))∧W.heap[w.heap.size]?=some (.deferred (some []))) (fun W=>Ix W∧W.heap[w.heap.size+1]?=some (.loop (rec .done (some .ret)))∧W.heap[w.heap.size]?=some (.deferred (some []))) W1 X1 (fun j A B h hx=>⟨hI j A B h.1 hx,keep hx h.2.1,keep hx h.2.2⟩) (fun j A h=>h.1) ?_ ⟨hI 0 w W1 h0 X1,hL1,hK1⟩).mono ?_
  ·rintro j W ⟨hi,hl,hk⟩
   have hlt:=(Array.getElem?_eq_some_iff.1 hl).1;have hy:=run_yield (P:=Tryz.prog) (args:=encs j) hl (by rw [hrec];exact hps j);rw [hrec] at hy;refine ⟨fn,_,assign,body,hy,roundIn_of_wpIn hfn (hassign _ j W _ ⟨_,run_beginRound hl (by rw [hrec]),?_⟩)⟩;have hl2:(W.putObj (w.heap.size+1) (.loop { rec .ready none with state:=.busy })).heap[w.heap.size+1]?=some (.loop { rec .ready none with state:=.busy }):=World.putObj_heap_same hlt;have hk2:(W.putObj (w.heap.size+1) (.loop { rec .ready none with state:=.busy })).heap[w.heap.size]?=some (.deferred (some [])):=(World.putObj_heap_other U).trans hk;refine wpIn_mono (hbody _ j _ (hIp j W _ _ _ hi U hl rfl)) ?_;rintro e a3 W3 hp
   cases e with
   | normal =>
    obtain ⟨hk3,hi3⟩:=hp;have hl3:=hk3.same _ _ U hl2 rfl;refine ⟨_,_,run_endRound none hl3,.inl ⟨rfl,hIp _ _ _ _ _ hi3 U hl3 rfl,?_,(World.putObj_heap_other U).trans (hk3.same _ _ U hk2 rfl)⟩⟩;rw [hrec];exact World.putObj_heap_same (Array.getElem?_eq_some_iff.1 hl3).1
   | ret =>
    obtain ⟨hk3,hi3⟩:=hp;have hl3:=hk3.same _ _ U hl2 rfl;refine ⟨_,_,run_endRound (some .ret) hl3,.inr ⟨rfl,hIxp _ _ _ _ hi3 U hl3 rfl,?_,(World.putObj_heap_other U).trans (hk3.same _ _ U hk2 rfl)⟩⟩;rw [hrec];exact World.putObj_heap_same (Array.getElem?_eq_some_iff.1 hl3).1
   | exit id=>exact hp.elim
   | goto t=>exact hp.elim
   | panic ch=>exact hp.elim
   | outgrown=>exact hp.elim
  ·rintro e W2 ⟨⟨v,rfl⟩,hi,hl,hk⟩
   exact ⟨some .ret,_,by have:=run_endLoop (P:=Tryz.prog) hl (by rw [hrec];simp);rw [hrec] at this;exact this,hstop _ _ (Nat.le_refl _) (hIxp _ _ _ _ hi U hl rfl) ((World.putObj_heap_other U).trans hk)⟩
section
variable {w:World}{x:Int}
theorem aDc (n:Nat)(i:Int) :
  CallsIn Fence.wide n Tryz.prog 161 #[.int .u64 x,lbl,↑i] w fun e w'=>e=.returned (.func (.func 188) #[] #[.pointer (some ⟨w.heap.size+1+1,0,none⟩),.pointer (some ⟨w.heap.size,0,none⟩),.pointer (some ⟨w.heap.size+1,0,none⟩)])∧w'=((w.alloc (.cells #[.int .u64 x] 70)).alloc (.cells #[lbl] 9)).alloc (.cells #[↑i] 3):=by
 refine callsIn_of_wp Tryz.func161 rfl trivial ?_ rfl;simp only [Tryz.ntmps161,List.size_toArray,List.length_cons,List.length_nil,Nat.reduceAdd,Nat.reduceSub,Array.replicate_succ,Array.replicate_zero,List.push_toArray,List.append_toArray,List.nil_append,List.cons_append]
 gi_wp2
 go_ret;exact ⟨rfl,rfl⟩
theorem aBw (l b0 b1 b2 i:Nat)(hi:i<100000000000000000)(hx:0<=x∧x<18446744073709551616)(J:Nat->World->Prop)(Jx:World->Prop)(hJ:∀ j A B,J j A->Ext A B->J j B)(h64:∀ j A,J j A->j<64∧A.cell? ⟨b1,0,none⟩=some (.int .u64 x)∧A.cell? ⟨b2,0,none⟩=some lbl)
  (hY:∀ j W1,J j W1->YieldAt Fence.wide 1 Tryz.prog l #[.int .i64 ((i:Int)+(j:Int)+1),.int .u64 (dB x ((i:Int)+(j:Int)))] W1 fun e W'=>(e=.returned (.bool true)∧J (j+1) W')∨(e=.returned (.bool false)∧Jx W'))
  (W:World)(c0:W.cell? ⟨b0,0,none⟩=some (↑(i:Int)))(h0:J 0 W) :
  CallsIn Fence.wide 2 Tryz.prog 188 #[.func (.yield l) #[] #[],.pointer (some ⟨b0,0,none⟩),.pointer (some ⟨b1,0,none⟩),.pointer (some ⟨b2,0,none⟩)] W fun e W'=>(∃ v,e=.returned v)∧Jx W':=by
 refine callsIn_of_wp Tryz.func188 rfl trivial ?_ rfl;simp only [Tryz.ntmps188,List.size_toArray,List.length_cons,List.length_nil,Nat.reduceAdd,Nat.reduceSub,Array.replicate_succ,Array.replicate_zero,List.push_toArray,List.append_toArray,List.nil_append,List.cons_append]
 gi_wp2
 gi_loopw [5] (fun v wr=>∃ j:Nat,v=.int .i64 ((i:Int)+(j:Int))∧J j wr) (fun v _=>i+64 - (intOf v).toNat)
 case atStart=>exact ⟨0,rfl,h0⟩
 case round =>
  obtain ⟨j,rfl,hj⟩:=hrel;obtain ⟨hlt,c1,c2⟩:=h64 j wr hj
  gi_wp2_with (refine ⟨trivial,?_⟩;gi_at_call 189;refine (callsIn_wide.2 (aJn hx ⟨U,U⟩)).mono ?_;rintro e w' ⟨rfl,hxw⟩;have hj':=hJ j _ _ hj hxw;obtain ⟨fn,tmps,assign,body,hy,hR⟩:=hY j w' hj')
  refine hR.mono ?_;rintro e W3 (⟨rfl,hJ3⟩ | ⟨rfl,hJx3⟩)
  ·gi_wp2
   refine ⟨⟨j+1,by go_num,hJ3⟩,?_⟩;simp only [intOf];omega
  ·gi_wp2
   go_end0;exact ⟨⟨_,rfl⟩,hJx3⟩
def xS (w:World)(n x ov t r1 r2:Int)(A:World):Prop:=Ext w A∧Blk A w.heap.size 3 #[↑n]∧Blk A (w.heap.size+1) 3 #[↑r1]∧Blk A (w.heap.size+1+1) 3 #[↑r2]∧Blk A (w.heap.size+1+1+1) 70 #[.int .u64 ov]∧Blk A (w.heap.size+1+1+1+1) 3 #[↑t]∧Blk A (w.heap.size+1+1+1+1+1) 70 #[.int .u64 x]∧Blk A (w.heap.size+1+1+1+1+1+1) 9 #[lbl]
theorem Blk.putN {A:World}{g l:Nat}{t:TypeId}{cs:Array Value}{o:Obj}(h:Blk A g t cs)(o':Obj)(hl:A.heap[l]?=some o)(ho:o.isCells=false):Blk (A.putObj l o') g t cs:=by
 have hne:l ≠ g:=by
  rintro rfl;unfold Blk at h;rw [hl] at h
  cases h
  cases ho
 exact (World.putObj_heap_other hne.symm).trans h
theorem Ext.putN {w A:World}{l:Nat}(h:Ext w A)(hl:w.heap.size<=l)(o':Obj):Ext w (A.putObj l o'):=h.grown (grownBy_putObj' A l o') h.size (fun k e=>by cases e;exact hl)
theorem xS.ext {n ov t r1 r2:Int}{A B:World}(h:xS w n x ov t r1 r2 A)(hx:Ext A B):xS w n x ov t r1 r2 B:=by
 obtain ⟨h0,h1,h2,h3,h4,h5,h6,h7⟩:=h;exact ⟨h0.trans' hx,h1.ext hx,h2.ext hx,h3.ext hx,h4.ext hx,h5.ext hx,h6.ext hx,h7.ext hx⟩
theorem xS.putN {n ov t r1 r2:Int}{A:World}{l:Nat}{o:Obj}(h:xS w n x ov t r1 r2 A)(o':Obj)(hw:w.heap.size<=l)(hl:A.heap[l]?=some o)(ho:o.isCells=false):xS w n x ov t r1 r2 (A.putObj l o'):=by
 obtain ⟨h0,h1,h2,h3,h4,h5,h6,h7⟩:=h;exact ⟨h0.putN hw o',h1.putN o' hl ho,h2.putN o' hl ho,h3.putN o' hl ho,h4.putN o' hl ho,h5.putN o' hl ho,h6.putN o' hl ho,h7.putN o' hl ho⟩
theorem xS.set {n ov t r1 r2:Int}{A:World}(h:xS w n x ov t r1 r2 A)(t':Int):xS w n x ov t' r1 r2 (A.setCell ⟨w.heap.size+1+1+1+1,0,none⟩ (↑t')):=by
 obtain ⟨h0,h1,h2,h3,h4,h5,h6,h7⟩:=h;exact ⟨h0.setCell' (p:=⟨_,0,none⟩) ab _,h1.far ab _,h2.far ap _,h3.far ap _,h4.far ap _,h5.set_ 0 _,h6.far ap _,h7.far ap _⟩
theorem xS.fin {n ov t r1 r2:Int}{A:World}(h:xS w n x ov t r1 r2 A)(p q:Int):Ext w ((A.setCell ⟨w.heap.size+1,0,none⟩ (↑p)).setCell ⟨w.heap.size+1+1,0,none⟩ (↑q))∧Blk ((A.setCell ⟨w.heap.size+1,0,none⟩ (↑p)).setCell ⟨w.heap.size+1+1,0,none⟩ (↑q)) (w.heap.size+1) 3 #[↑p]∧Blk ((A.setCell ⟨w.heap.size+1,0,none⟩ (↑p)).setCell ⟨w.heap.size+1+1,0,none⟩ (↑q)) (w.heap.size+1+1) 3 #[↑q]∧True:=by
 obtain ⟨h0,h1,h2,h3,-⟩:=h;exact ⟨(h0.setCell' (p:=⟨_,0,none⟩) Y _).setCell' (p:=⟨_,0,none⟩) ab _,(h2.set_ 0 _).far Y _,(h3.far Y _).set_ 0 _,trivial⟩
theorem aK4 {n:Int}(hn:1<=n∧n<=9999):(IntKind.u64.wrap (-n)).tmod n=18446744073709551616 % n:=by
 have h:IntKind.u64.wrap (-n)=18446744073709551616 - n:=by
  simp [IntKind.wrap,IntKind.bits,IntKind.signed];omega
 rw [h,Int.tmod_eq_emod_of_nonneg U];exact Int.sub_emod_right _ _
theorem aH5 {n:Int}(hx':0<=x∧x<18446744073709551616)(i:Nat)(hi:i<100000000000000000)(hn:1<=n∧n<=9999):Calls Tryz.prog 118 #[.int .u64 x,lbl,↑(i:Int),↑n] w fun e w'=>e=.returned (.tuple #[.int .i64 (dB x (place (fun j=>dB x j) n i:Nat) % n),.int .i64 ((place (fun j=>dB x j) n i:Nat)+1:Int)])∧Ext w w':=by
 have h1:¬ n<1:=U
 have h2:¬ (4611686018427387904:Int)<n:=U
 generalize hpp:place (fun j=>dB x j) n i=pl;refine (callsIn_wide (n:=3)).1 ?_;refine callsIn_of_wp_marks Tryz.func118 rfl trivial ?_ rfl;simp only [Tryz.ntmps118,List.size_toArray,List.length_cons,List.length_nil,Nat.reduceAdd,Nat.reduceSub,Array.replicate_succ,Array.replicate_zero,List.push_toArray,List.append_toArray,List.nil_append,List.cons_append]
 gi_wp2_with (refine ⟨trivial,?_⟩;gi_at_call 161;refine (aDc _ _).mono ?_;rintro e w' ⟨rfl,rfl⟩)
 rw [aK4 hn];have hov0:=Int.emod_nonneg 18446744073709551616 (show n ≠ 0 by omega);have hov1:=Int.emod_lt_of_pos 18446744073709551616 (show 0<n by omega);unfold place at hpp;generalize 18446744073709551616 % n=ov at *;generalize hW:((((((((w.alloc (.cells #[↑n] 3)).alloc (.cells #[.int .i64 0] 3)).alloc (.cells #[.int .i64 0] 3)).alloc (.cells #[.int .u64 ov] 70)).alloc (.cells #[.int .i64 0] 3)).alloc (.cells #[.int .u64 x] 70)).alloc (.cells #[lbl] 9)).alloc (.cells #[↑(i:Int)] 3))=W0
 have hB:xS w n x ov 0 0 0 W0∧Blk W0 (w.heap.size+1+1+1+1+1+1+1) 3 #[↑(i:Int)]:=by
  subst hW;refine ⟨⟨?_,?_,?_,?_,?_,?_,?_,?_⟩,Blk.new' _ _ _ Y⟩
  ·repeat refine Ext.alloc' ?_ _
   exact Ext.refl w
  ·iterate 7 refine Blk.alloc ?_ _
   exact Blk.new' _ _ _ Y
  ·iterate 6 refine Blk.alloc ?_ _
   exact Blk.new' _ _ _ Y
  ·iterate 5 refine Blk.alloc ?_ _
   exact Blk.new' _ _ _ Y
  ·iterate 4 refine Blk.alloc ?_ _
   exact Blk.new' _ _ _ Y
  ·iterate 3 refine Blk.alloc ?_ _
   exact Blk.new' _ _ _ Y
  ·iterate 2 refine Blk.alloc ?_ _
   exact Blk.new' _ _ _ Y
  ·iterate 1 refine Blk.alloc ?_ _
   exact Blk.new' _ _ _ Y
 obtain ⟨hB,hb0⟩:=hB;have hsz:w.heap.size+8<=W0.heap.size:=by subst hW;simp
 refine aMy (gf:=188) (lb:=#[.pointer (some ⟨w.heap.size+1+1+1+1+1+1+1,0,none⟩),.pointer (some ⟨w.heap.size+1+1+1+1+1,0,none⟩),.pointer (some ⟨w.heap.size+1+1+1+1+1+1,0,none⟩)]) rfl (enters_of Tryz.func188 aa rfl) (encs:=fun j=>#[.int .i64 ((i:Int)+(j:Int)+1),.int .u64 (dB x ((i:Int)+(j:Int)))]) (fun _=>rfl)
  (fun j A=>xS w n x ov j 0 0 A∧j<64∧yJ (fun j=>dB x j) (18446744073709551616 - ov) (63 - j) (i+j)=pl)
  (fun A=>Ext w A∧Blk A (w.heap.size+1) 3 #[.int .i64 (dB x pl % n)]∧Blk A (w.heap.size+1+1) 3 #[.int .i64 ((pl:Int)+1)])
  (fun j A B h hx=>⟨h.1.ext hx,h.2⟩) (fun j A l o o' h hw hl ho=>⟨h.1.putN o' U hl ho,h.2⟩) (fun A l o o' h hw hl ho=>⟨h.1.putN U o',h.2.1.putN o' hl ho,h.2.2.putN o' hl ho⟩) ⟨hB,U,hpp⟩
  (fun l J Jx W hx hJ hI hY h0=>aBw l _ _ _ i hi hx' J Jx hJ (fun j A h=>by
   obtain ⟨⟨_,_,_,_,_,_,q1,q2⟩,q3,_⟩:=hI j A h;exact ⟨q3,q1.cell' 0 rfl,q2.cell' 0 rfl⟩) hY W ((hb0.ext hx).cell' 0 rfl) h0)
  (fun j=>{ tmps:=#[.int .u64 x,lbl,↑(i:Int),↑n,undef,undef,undef,.pointer (some ⟨w.heap.size,0,none⟩),.pointer (some ⟨w.heap.size+1,0,none⟩),.pointer (some ⟨w.heap.size+1+1,0,none⟩),.pointer (some ⟨w.heap.size+1+1+1,0,none⟩),.pointer (some ⟨w.heap.size+1+1+1+1,0,none⟩),.int .i64 ((i:Int)+(j:Int)+1),.int .u64 (dB x ((i:Int)+(j:Int))),↑n,.bool false,.bool false,↑n,.bool false,.bool false,undef,↑n,.int .u64 n,.int .u64 (IntKind.u64.wrap (-n)),↑n,.int .u64 n,.int .u64 ov,.int .u64 x,lbl,↑(i:Int),.func (.func 188) #[] #[.pointer (some ⟨w.heap.size+1+1+1+1+1+1+1,0,none⟩),.pointer (some ⟨w.heap.size+1+1+1+1+1,0,none⟩),.pointer (some ⟨w.heap.size+1+1+1+1+1+1,0,none⟩)],.int .i64 ((i:Int)+(j:Int)+1),.int .u64 (dB x ((i:Int)+(j:Int))),undef,undef,undef,undef,undef,undef,undef,undef,undef,undef,undef,undef,undef,undef,undef,undef,undef,undef,undef,undef,undef],defers:=[] }) ?assign ?body ?stop
 case assign =>
  intro l j W K hK
  gi_wp2
  exact hK
 case body =>
  rintro l j W ⟨⟨X,b0,b1,b2,b3,b4,b5,b6⟩,hj,hs⟩;have hB':xS w n x ov j 0 0 W:=⟨X,b0,b1,b2,b3,b4,b5,b6⟩;have c0:=b0.cell' 0 rfl;have c1:=b1.cell' 0 rfl;have c2:=b2.cell' 0 rfl;have c3:=b3.cell' 0 rfl;have c4:=b4.cell' 0 rfl;have f1:=b1.frozen 0;have f2:=b2.frozen 0;have f4:=b4.frozen 0;have hwb:=aAm (fA (fA (fA (fA (fA 0 (cV 0)) 6) 2) x) ((i:Int)+(j:Int))) 0
  change 0<=dB x ((i:Int)+(j:Int))∧dB x ((i:Int)+(j:Int))<18446744073709551616 at hwb
  generalize hwv:dB x ((i:Int)+(j:Int))=wv at *;have hm0:=Int.emod_nonneg wv (show n ≠ 0 by omega);have hm1:=Int.emod_lt_of_pos wv (show 0<n by omega);have hwm:wrap64 (wv % n)=wv % n:=by rw [<- IntWalk.i64_left];exact wrI U U
  have ret:pl=i+j->∀ (t:Int) a',aK1 W0.heap.size (fun j A=>xS w n x ov j 0 0 A∧j<64∧yJ (fun j=>dB x j) (18446744073709551616 - ov) (63 - j) (i+j)=pl) (fun A=>Ext w A∧Blk A (w.heap.size+1) 3 #[.int .i64 (dB x pl % n)]∧Blk A (w.heap.size+1+1) 3 #[.int .i64 ((pl:Int)+1)]) j W .ret a' (((W.setCell ⟨w.heap.size+1+1+1+1,0,none⟩ (↑t)).setCell ⟨w.heap.size+1,0,none⟩ (.int .i64 (wv % n))).setCell ⟨w.heap.size+1+1,0,none⟩ (.int .i64 ((i:Int)+(j:Int)+1))):=by
   rintro rfl t a';have hc:((i+j:Nat):Int)=(i:Int)+(j:Int):=by omega
   rw [hc,hwv];obtain ⟨q0,q1,q2,-⟩:=(hB'.set t).fin (wv % n) ((i:Int)+(j:Int)+1);exact ⟨((KeepsOthers.setCell _ _ _).trans ((KeepsOthers.setCell _ _ _).trans (KeepsOthers.setCell _ _ _))).from _,q0,q1,q2⟩
  have hwn:dB x ((i+j:Nat):Int)=wv:=by rw [<- hwv];congr 1
  have go:j+1<64->¬ wv<18446744073709551616 - ov->∀ a',aK1 W0.heap.size (fun j A=>xS w n x ov j 0 0 A∧j<64∧yJ (fun j=>dB x j) (18446744073709551616 - ov) (63 - j) (i+j)=pl) (fun A=>Ext w A∧Blk A (w.heap.size+1) 3 #[.int .i64 (dB x pl % n)]∧Blk A (w.heap.size+1+1) 3 #[.int .i64 ((pl:Int)+1)]) j W .normal a' (W.setCell ⟨w.heap.size+1+1+1+1,0,none⟩ (.int .i64 ((j:Int)+1))):=by
   intro hj' hw a';refine ⟨(KeepsOthers.setCell _ _ _).from _,hB'.set _,hj',?_⟩;rw [show 63 - j=(63 - (j+1))+1 by omega] at hs;unfold yJ at hs;rw [hwn,if_neg hw] at hs;exact hs
  have stop1:wv<18446744073709551616 - ov->pl=i+j:=by
   intro hw
   cases hk:63 - j with
   | zero=>rw [hk] at hs;exact hs.symm
   | succ k =>
    rw [hk] at hs;unfold yJ at hs;rw [hwn,if_pos hw] at hs;exact hs.symm
  have stop2:j=63->pl=i+j:=by
   rintro rfl;exact hs.symm
  clear hs hpp hwn hB'
  by_cases ho:ov=0
  ·have hr:=ret (stop1 U)
   clear ret go stop1 stop2;subst ho
   gi_wp2
   exact hr _ _
  ·have hng:IntKind.u64.wrap (-ov)=18446744073709551616 - ov:=by
    simp [IntKind.wrap,IntKind.bits,IntKind.signed];omega
   obtain ⟨ng,hnd⟩:∃ ng,ng=18446744073709551616 - ov:=⟨_,rfl⟩;rw [<- hnd] at hng
   by_cases hw:wv<ng
   ·have hr:=ret (stop1 U)
    clear ret go stop1 stop2 hnd
    gi_wp2
    exact hr _ _
   ·by_cases h63:j=63
    ·have hr:=ret (stop2 h63)
     clear ret go stop1 stop2 hnd;have h64:((j:Int)+1 == 64)=true:=by rw [h63];rfl
     clear h63
     gi_wp2
    ·have hr:=go U U
     clear ret go stop1 stop2 hnd;have hj1:((j:Int)+1 == 64)=false:=by simp;omega
     have ho':(ov == 0)=false:=by simpa using ho
     clear h63
     gi_wp2
 case stop =>
  rintro D W hD ⟨hX,q1,q2⟩ hK
  gi_wp2
  have q1':=(q1.putN (.deferred none) hK rfl).cell' 0 rfl;have q2':=(q2.putN (.deferred none) hK rfl).cell' 0 rfl;refine ⟨Y,.inl ⟨_,_,rfl,run_takeDeferred hK,?_⟩⟩;refine ⟨_,?_,rfl,hX.putN U _⟩;simp [results,Tryz.results118,go_sem,q1',q2']
end
end Go.Proofs.YtkoeecdjijfjnaaGreat
