/- Contracts of functions, plain laws. Conditions: none. -/
import Derived.Test.YtkoeecdjijfjnaaGreatTR
set_option maxRecDepth 100000
set_option maxHeartbeats 8000000
namespace Go.Proofs.YtkoeecdjijfjnaaGreat
open Go.RowKit
noncomputable def aR7:=RG Tryz.f21 0
noncomputable def aR6:=RG Tryz.f21 1
noncomputable def aR5:=RG Tryz.f21 2
noncomputable def aR4:=RG Tryz.f21 3
noncomputable def aR3:=RG Tryz.f21 4
noncomputable def aR2:=RG Tryz.f21 5
noncomputable def aR1:=RG Tryz.f21 6
noncomputable def aR0:=RG Tryz.f21 7
noncomputable def aRz:=RG Tryz.f21 8
noncomputable def aOm:=RG Tryz.f21 9
noncomputable def aD1:=RG Tryz.f21 10
noncomputable def aJ9:=RG Tryz.f21 11
noncomputable def aD0:=RG Tryz.f21 12
noncomputable def aDz:=RG Tryz.f21 13
noncomputable def aJ8:=RG Tryz.f21 14
noncomputable def aDy:=RG Tryz.f21 15
noncomputable def aJ7:=RG Tryz.f21 16
noncomputable def aDx:=RG Tryz.f21 17
noncomputable def aJ6:=RG Tryz.f21 18
noncomputable def aDw:=RG Tryz.f21 19
noncomputable def aJ5:=RG Tryz.f21 20
noncomputable def aDv:=RG Tryz.f21 21
noncomputable def aJ4:=RG Tryz.f21 22
noncomputable def aDu:=RG Tryz.f21 23
noncomputable def aJ3:=RG Tryz.f21 24
noncomputable def aDt:=RG Tryz.f21 25
noncomputable def aJ2:=RG Tryz.f21 26
noncomputable def aDs:=RG Tryz.f21 27
noncomputable def aJ1:=RG Tryz.f21 28
noncomputable def aDr:=RG Tryz.f21 29
noncomputable def aJ0:=RG Tryz.f21 30
noncomputable def aDq:=RG Tryz.f21 31
noncomputable def aJz:=RG Tryz.f21 32
noncomputable def aJy:=RG Tryz.f21 33
section
variable {Q:Exit->Act->World->Prop}{a:Act}{w:World}{g g4 g8 g9:Nat}{z:Int}{v:Value}{k n c:Nat}{A:Option Addr}
theorem aNs (hsz:a.tmps.size=135)(e0:Ev a (.tmp 0)=.agg #[v])(h:∀ a',Ag [1,2,3] a a'->Ev a' (.tmp 4)=.pointer (some ⟨w.heap.size,0,none⟩)->Ev a' (.tmp 8)=.pointer (some ⟨w.heap.size+1,0,none⟩)->Q .normal a' ((w.alloc (.cells #[v] 25)).alloc (.cells #[.slice none 0 0] 25))):Code.wp Tryz.prog aR7 Q a w:=by
 refine rW ?_
 iterate 2 refine lV ?_
 exact aJ (h _ I O O)
theorem aNr (hsz:a.tmps.size=135)(h:∀ a' w',Ag [1,2,3,4,8] a a'->Ev a' (.tmp 9)=.pointer (some ⟨w.heap.size,0,none⟩)->Blk w' w.heap.size 25 #[.slice none 0 0]->Ext w w'->Q .normal a' w'):Code.wp Tryz.prog aR6 Q a w:=by
 refine rW ?_
 iterate 2 refine lV ?_
 have hB:=Blk.new w 25 #[.slice none 0 0];have hX:Ext w (w.alloc (.cells #[.slice none 0 0] 25)):=(Ext.refl w).alloc' _;generalize w.alloc (.cells #[.slice none 0 0] 25)=W at *;refine l_s rfl rfl (by simp [execOp,go_sem,hB.cell,hB.frozen, *];rfl) ?_;exact aJ (h _ _ I O (hB.set_ 0 _) (hX.setCell' (p:=⟨w.heap.size,0,none⟩) (Nat.le_refl _) _))
theorem aNq {xs:List Value}{S:Nat->Prop}(hsz:a.tmps.size=135)(e4:Ev a (.tmp 4)=.pointer (some ⟨g4,0,none⟩))(e9:Ev a (.tmp 9)=.pointer (some ⟨g9,0,none⟩))(c4:w.cell? ⟨g4,0,none⟩=some (.slice A n c))(hB:Blk w g9 25 #[.slice none 0 0])(hs:Sl w S 12 A n xs)(hn:n<=1000000)(hone:∀ u ∈ xs,u.oneCell'=true)
  (h:∀ a' v5 w5,w5.ownsRow w.heap.size 87 12 v5 n xs->Ext w w5->Ag [1,2,3,8,9] a a'->Q .normal a' (w5.setCell ⟨g9,0,none⟩ v5)):Code.wp Tryz.prog aR5 Q a w:=by
 refine rW ?_;have c9:=hB.cell' (u:=.slice none 0 0) 0 rfl
 iterate 4 refine lV ?_
 refine l_a rfl rfl rfl Tryz.underlying23 Tryz.info87 rfl D (aT w w.heap.size 87 12) hs O ab hone D D (Nat.le_refl _) ?_;intro v5 w5 ho hf hb;have hX:Ext w w5:=Fr.none_ext hf;have hB5:=hB.ext hX;have q:=hB5.cell' (u:=.slice none 0 0) 0 rfl;have f:=hB5.frozen 0;obtain ⟨A5,c5,rfl,-,-,-⟩:=Sl.of_own ho
 iterate 1 refine lV ?_
 refine l_s rfl rfl (by simp [execOp,go_sem, *];rfl) ?_;exact aJ (h _ _ w5 (by simpa using ho) hX I)
theorem aNp (hsz:a.tmps.size=135)(e9:Ev a (.tmp 9)=.pointer (some ⟨g9,0,none⟩))(c9:w.cell? ⟨g9,0,none⟩=some (.slice A n c))(h:∀ a',Ag [1,2,3,8,9] a a'->Ev a' (.tmp 22)=.bool ((n:Int) == 0)->Q .normal a' w):Code.wp Tryz.prog aR4 Q a w:=by
 refine rW ?_
 iterate 4 refine lV ?_
 exact aJ (h _ I O)
theorem aNo (hsz:a.tmps.size=135)(e8:Ev a (.tmp 8)=.pointer (some ⟨g8,0,none⟩))(e9:Ev a (.tmp 9)=.pointer (some ⟨g9,0,none⟩))(c9:w.cell? ⟨g9,0,none⟩=some (.slice A n c))(hB:Blk w g8 25 #[.slice none 0 0])(h:∀ a',Ag [8] a a'->Q .normal a' (w.setCell ⟨g8,0,none⟩ (.slice A n c))):Code.wp Tryz.prog aR3 Q a w:=by
 refine rW ?_
 iterate 1 refine lV ?_
 refine l_s rfl rfl (by simp [execOp,go_sem,hB.cell,hB.frozen, *];rfl) ?_;exact aJ (h _ I)
theorem aHd (hsz:a.tmps.size=135)(e8:Ev a (.tmp 8)=.pointer (some ⟨g8,0,none⟩))(e9:Ev a (.tmp 9)=.pointer (some ⟨g9,0,none⟩))(c9:w.cell? ⟨g9,0,none⟩=some (.slice A n c))(hB:Blk w g8 25 #[.slice none 0 0])(h:∀ a',Ag [8] a a'->Q .normal a' (w.setCell ⟨g8,0,none⟩ (.slice A n c))):Code.wp Tryz.prog aJy Q a w:=by
 refine rW ?_
 iterate 1 refine lV ?_
 refine l_s rfl rfl (by simp [execOp,go_sem,hB.cell,hB.frozen, *];rfl) ?_;exact aJ (h _ I)
theorem aNn {p:Int}(hsz:a.tmps.size=135)(e1:Ev a (.tmp 1)=↑z)(e9:Ev a (.tmp 9)=.pointer (some ⟨g9,0,none⟩))(c9:w.cell? ⟨g9,0,none⟩=some (.slice A n c))(hc:Calls Tryz.prog 9 #[↑z,↑(n:Int)] w fun e w'=>e=.returned (↑p)∧w'=w)
  (h:∀ a',Ag [2,3,8,9] a a'->Ev a' (.tmp 10)=↑p->Q .normal a' w):Code.wp Tryz.prog aR2 Q a w:=by
 refine rW ?_
 iterate 4 refine lV ?_
 refine l_c rfl rfl rfl Tryz.func9 ac ac hc O ?_;rintro e w' ⟨rfl,rfl⟩;refine ⟨_,rfl,?_⟩
 iterate 1 refine lV ?_
 exact aJ (h _ I O)
theorem aNm {G:Nat}{x:GN}{y:NA}(hsz:a.tmps.size=135)(e9:Ev a (.tmp 9)=.pointer (some ⟨g9,0,none⟩))(e10:Ev a (.tmp 10)=↑(k:Int))(c9:w.cell? ⟨g9,0,none⟩=some (.slice (some ⟨G,0,none⟩) n c))(hk:k<n)(hx:∀ j u,(aE x y)[j]?=some u->w.cell? ⟨G,k*12+j,none⟩=some u)
  (h:∀ a' w',Ag [2,3,8,9,10] a a'->Ev a' (.tmp 11)=.pointer (some ⟨w.heap.size,0,none⟩)->Blk w' w.heap.size 87 (aE x y).toArray->Ext w w'->Q .normal a' w'):Code.wp Tryz.prog aR1 Q a w:=by
 have q0:=hx 0 _ rfl;have q1:=hx 1 _ rfl;have q2:=hx 2 _ rfl;have q3:=hx 3 _ rfl;have q4:=hx 4 _ rfl;have q5:=hx 5 _ rfl;have q6:=hx 6 _ rfl;have q7:=hx 7 _ rfl;have q8:=hx 8 _ rfl;have q9:=hx 9 _ rfl;have q10:=hx 10 _ rfl;have q11:=hx 11 _ rfl;rw [Nat.add_zero] at q0;clear hx;have hk':(k:Int)<(n:Int):=by omega
 refine rW ?_
 iterate 6 refine lV ?_
 clear q0 q1 q2 q3 q4 q5 q6 q7 q8 q9 q10 q11;have hB:=Blk.new w 87 #[.int .i64 0,.string ⟨#[]⟩,.int .i64 0,.int .i64 0,.slice none 0 0,.slice none 0 0,.slice none 0 0,.slice none 0 0,.int .i64 0,.int .i64 0,.string ⟨#[]⟩,.slice none 0 0];have hX:Ext w (w.alloc (.cells #[.int .i64 0,.string ⟨#[]⟩,.int .i64 0,.int .i64 0,.slice none 0 0,.slice none 0 0,.slice none 0 0,.slice none 0 0,.int .i64 0,.int .i64 0,.string ⟨#[]⟩,.slice none 0 0] 87)):=(Ext.refl w).alloc' _;generalize w.alloc (.cells #[.int .i64 0,.string ⟨#[]⟩,.int .i64 0,.int .i64 0,.slice none 0 0,.slice none 0 0,.slice none 0 0,.slice none 0 0,.int .i64 0,.int .i64 0,.string ⟨#[]⟩,.slice none 0 0] 87)=W at *;refine l_s rfl rfl (by simp [execOp,go_sem,hB.cell,hB.frozen,hsz];rfl) ?_;refine aJ (h _ _ I O (aO (aE x y) (cs:=[.int .i64 0,.string ⟨#[]⟩,.int .i64 0,.int .i64 0,.slice none 0 0,.slice none 0 0,.slice none 0 0,.slice none 0 0,.int .i64 0,.int .i64 0,.string ⟨#[]⟩,.slice none 0 0]) 0 hB U) ?_);exact ((Fr.of_ext (M:=fun _=>False) hX).setCells (aE x y) 0 (.inr (Nat.le_refl _))).ext
theorem aNl {p:Int}(hsz:a.tmps.size=135)(e2:Ev a (.tmp 2)=↑z)(hc:Calls Tryz.prog 9 #[↑z,.int .i64 10] w fun e w'=>e=.returned (↑p)∧w'=w)
  (h:∀ a',Ag [3,8,9,10,11] a a'->Ev a' (.tmp 35)=↑p->Q .normal a' w):Code.wp Tryz.prog aR0 Q a w:=by
 refine rW ?_
 iterate 1 refine lV ?_
 refine l_c rfl rfl rfl Tryz.func9 ac ac hc O ?_;rintro e w' ⟨rfl,rfl⟩;exact ⟨_,rfl,aJ (h _ I O)⟩
theorem aHw (hsz:a.tmps.size=135)(e35:Ev a (.tmp 35)=↑z)(h:∀ a',Ag [3,8,9,10,11,35] a a'->Ev a' (.tmp 62)=.bool (z == 0)->Q .normal a' w):Code.wp Tryz.prog aJ8 Q a w:=by
 refine rW ?_
 iterate 2 refine lV ?_
 exact aJ (h _ I O)
theorem aHu (hsz:a.tmps.size=135)(e35:Ev a (.tmp 35)=↑z)(h:∀ a',Ag [3,8,9,10,11,35] a a'->Ev a' (.tmp 66)=.bool (z == 1)->Q .normal a' w):Code.wp Tryz.prog aJ7 Q a w:=by
 refine rW ?_
 iterate 2 refine lV ?_
 exact aJ (h _ I O)
theorem aHs (hsz:a.tmps.size=135)(e35:Ev a (.tmp 35)=↑z)(h:∀ a',Ag [3,8,9,10,11,35] a a'->Ev a' (.tmp 70)=.bool (z == 2)->Q .normal a' w):Code.wp Tryz.prog aJ6 Q a w:=by
 refine rW ?_
 iterate 2 refine lV ?_
 exact aJ (h _ I O)
theorem aHq (hsz:a.tmps.size=135)(e35:Ev a (.tmp 35)=↑z)(h:∀ a',Ag [3,8,9,10,11,35] a a'->Ev a' (.tmp 74)=.bool (z == 3)->Q .normal a' w):Code.wp Tryz.prog aJ5 Q a w:=by
 refine rW ?_
 iterate 2 refine lV ?_
 exact aJ (h _ I O)
theorem aHo (hsz:a.tmps.size=135)(e35:Ev a (.tmp 35)=↑z)(h:∀ a',Ag [3,8,9,10,11,35] a a'->Ev a' (.tmp 84)=.bool (z == 4)->Q .normal a' w):Code.wp Tryz.prog aJ4 Q a w:=by
 refine rW ?_
 iterate 2 refine lV ?_
 exact aJ (h _ I O)
theorem aHm (hsz:a.tmps.size=135)(e35:Ev a (.tmp 35)=↑z)(h:∀ a',Ag [3,8,9,10,11,35] a a'->Ev a' (.tmp 94)=.bool (z == 5)->Q .normal a' w):Code.wp Tryz.prog aJ3 Q a w:=by
 refine rW ?_
 iterate 2 refine lV ?_
 exact aJ (h _ I O)
theorem aHk (hsz:a.tmps.size=135)(e35:Ev a (.tmp 35)=↑z)(h:∀ a',Ag [3,8,9,10,11,35] a a'->Ev a' (.tmp 102)=.bool (z == 6)->Q .normal a' w):Code.wp Tryz.prog aJ2 Q a w:=by
 refine rW ?_
 iterate 2 refine lV ?_
 exact aJ (h _ I O)
theorem aHi (hsz:a.tmps.size=135)(e35:Ev a (.tmp 35)=↑z)(h:∀ a',Ag [3,8,9,10,11,35] a a'->Ev a' (.tmp 111)=.bool (z == 7)->Q .normal a' w):Code.wp Tryz.prog aJ1 Q a w:=by
 refine rW ?_
 iterate 2 refine lV ?_
 exact aJ (h _ I O)
theorem aHg (hsz:a.tmps.size=135)(e35:Ev a (.tmp 35)=↑z)(h:∀ a',Ag [3,8,9,10,11,35] a a'->Ev a' (.tmp 122)=.bool (z == 8)->Q .normal a' w):Code.wp Tryz.prog aJ0 Q a w:=by
 refine rW ?_
 iterate 2 refine lV ?_
 exact aJ (h _ I O)
theorem aHv (hsz:a.tmps.size=135)(e3:Ev a (.tmp 3)=↑z)(e11:Ev a (.tmp 11)=.pointer (some ⟨g,0,none⟩)){cs:Array Value}(hB:Blk w g 87 cs)(hc:cs[0]?=some v)(h:∀ a',Ag [8,9,10,11] a a'->Q .normal a' (w.setCell ⟨g,0,none⟩ (↑z))):Code.wp Tryz.prog aDy Q a w:=by
 refine rW ?_
 iterate 2 refine lV ?_
 refine l_s rfl rfl (by simp [execOp,go_sem,hB.cell,hB.frozen, *];rfl) ?_;exact aJ (h _ I)
theorem aHt (hsz:a.tmps.size=135)(e3:Ev a (.tmp 3)=↑z)(e11:Ev a (.tmp 11)=.pointer (some ⟨g,0,none⟩)){cs:Array Value}(hB:Blk w g 87 cs)(hc:cs[2]?=some v)(h:∀ a',Ag [8,9,10,11] a a'->Q .normal a' (w.setCell ⟨g,2,none⟩ (↑z))):Code.wp Tryz.prog aDx Q a w:=by
 refine rW ?_
 iterate 2 refine lV ?_
 refine l_s rfl rfl (by simp [execOp,go_sem,hB.cell,hB.frozen, *];rfl) ?_;exact aJ (h _ I)
theorem aHr (hsz:a.tmps.size=135)(e3:Ev a (.tmp 3)=↑z)(e11:Ev a (.tmp 11)=.pointer (some ⟨g,0,none⟩)){cs:Array Value}(hB:Blk w g 87 cs)(hc:cs[3]?=some v)(h:∀ a',Ag [8,9,10,11] a a'->Q .normal a' (w.setCell ⟨g,3,none⟩ (↑z))):Code.wp Tryz.prog aDw Q a w:=by
 refine rW ?_
 iterate 2 refine lV ?_
 refine l_s rfl rfl (by simp [execOp,go_sem,hB.cell,hB.frozen, *];rfl) ?_;exact aJ (h _ I)
theorem aHp {l:List Int}{P:Nat->Prop}(hsz:a.tmps.size=135)(e3:Ev a (.tmp 3)=↑z)(hz:I64 z)(e11:Ev a (.tmp 11)=.pointer (some ⟨g,0,none⟩)){cs:Array Value}(hB:Blk w g 87 cs)(hc:cs[4]?=some (.slice A l.length c))(hl:bM w P (.slice A l.length c) l)(hn:l.length<=1000000)
  (h:∀ a' A' c' W,Ag [8,9,10,11] a a'->bM W (fun b=>w.heap.size<=b) (.slice A' (l.length+1) c') (l ++ [z])->Ext w W->Q .normal a' (W.setCell ⟨g,4,none⟩ (.slice A' (l.length+1) c'))):Code.wp Tryz.prog aDv Q a w:=by
 obtain ⟨A0,c0,e,-,-,hi,hsl⟩:=hl;injection e with e1 _ e2;subst e1 e2;have q0:=hB.cell' 4 hc;refine rW ?_
 iterate 1 refine lV ?_
 have hown:=World.ownsRow_lit (base:=w.heap.size) (e:=3) (size:=1) w #[] 0 (Nat.le_refl _) aq rfl;have hX:Ext w (w.alloc (.cells #[] 3)):=(Ext.refl w).alloc' _;generalize w.alloc (.cells #[] 3)=W at *;have q1:=aA hX q0
 iterate 2 refine lV ?_
 refine l_a rfl rfl rfl Tryz.underlying22 Tryz.info3 rfl D hown (hsl.keep (aB.of_ext hX) (fun _ h=>h)) O ab (fun u hu=>by obtain ⟨q,_,rfl⟩:=List.mem_map.1 hu;rfl) D D hX.size ?_;intro v1 w1 ho1 hf1 hb1;have hX1:Ext w w1:=((Fr.of_ext hX).trans (hf1.mono (N:=fun k=>w.heap.size<=k) (fun k hk=>hown.block_ge hk.symm))).new_ext (fun _ h=>h)
 iterate 2 refine lV ?_
 refine l_a rfl rfl rfl Tryz.underlying22 Tryz.info3 rfl D (ho1.alloc _) (Sl.new w1 [.int .i64 z] 3 1 1 rfl) O ab af D D fv ?_;intro v2 w2 ho2 hf2 hb2;have hX2:Ext w w2:=((Fr.of_ext (hX1.trans' ((Ext.refl w1).alloc' _))).trans (hf2.mono (N:=fun k=>w.heap.size<=k) (fun k hk=>ho1.block_ge hk.symm))).new_ext (fun _ h=>h);have hB2:=hB.ext hX2;have q2:=hB2.cell' 4 hc;have f2:=hB2.frozen 4;rw [List.nil_append,show l.map (Value.int .i64) ++ [.int .i64 z]=(l ++ [z]).map (Value.int .i64) by simp,show 0+l.length+1=l.length+1 by omega] at ho2;have hge:=fun b hb=>ho2.block_ge (b:=b) hb
 obtain ⟨A2,c2,rfl,r1,r2,r3⟩:=Sl.of_own ho2;unfold maxLen at r2
 iterate 1 refine lV ?_
 refine l_s rfl rfl (by simp [execOp,go_sem, *];rfl) ?_;refine aJ (h _ A2 c2 w2 I ⟨A2,c2,U,by simpa using r1,⟨aa,r2⟩,fun q hq=>?_,by simpa using r3 _ hge⟩ hX2);rcases List.mem_append.1 hq with hq | hq
 ·exact hi q hq
 ·rw [List.mem_singleton.1 hq];exact hz
theorem aHn {l:List Int}{P:Nat->Prop}(hsz:a.tmps.size=135)(e3:Ev a (.tmp 3)=↑z)(hz:I64 z)(e11:Ev a (.tmp 11)=.pointer (some ⟨g,0,none⟩)){cs:Array Value}(hB:Blk w g 87 cs)(hc:cs[7]?=some (.slice A l.length c))(hl:bM w P (.slice A l.length c) l)(hn:l.length<=1000000)
  (h:∀ a' A' c' W,Ag [8,9,10,11] a a'->bM W (fun b=>w.heap.size<=b) (.slice A' (l.length+1) c') (l ++ [z])->Ext w W->Q .normal a' (W.setCell ⟨g,7,none⟩ (.slice A' (l.length+1) c'))):Code.wp Tryz.prog aDu Q a w:=by
 obtain ⟨A0,c0,e,-,-,hi,hsl⟩:=hl;injection e with e1 _ e2;subst e1 e2;have q0:=hB.cell' 7 hc;refine rW ?_
 iterate 1 refine lV ?_
 have hown:=World.ownsRow_lit (base:=w.heap.size) (e:=3) (size:=1) w #[] 0 (Nat.le_refl _) aq rfl;have hX:Ext w (w.alloc (.cells #[] 3)):=(Ext.refl w).alloc' _;generalize w.alloc (.cells #[] 3)=W at *;have q1:=aA hX q0
 iterate 2 refine lV ?_
 refine l_a rfl rfl rfl Tryz.underlying22 Tryz.info3 rfl D hown (hsl.keep (aB.of_ext hX) (fun _ h=>h)) O ab (fun u hu=>by obtain ⟨q,_,rfl⟩:=List.mem_map.1 hu;rfl) D D hX.size ?_;intro v1 w1 ho1 hf1 hb1;have hX1:Ext w w1:=((Fr.of_ext hX).trans (hf1.mono (N:=fun k=>w.heap.size<=k) (fun k hk=>hown.block_ge hk.symm))).new_ext (fun _ h=>h)
 iterate 2 refine lV ?_
 refine l_a rfl rfl rfl Tryz.underlying22 Tryz.info3 rfl D (ho1.alloc _) (Sl.new w1 [.int .i64 z] 3 1 1 rfl) O ab af D D fv ?_;intro v2 w2 ho2 hf2 hb2;have hX2:Ext w w2:=((Fr.of_ext (hX1.trans' ((Ext.refl w1).alloc' _))).trans (hf2.mono (N:=fun k=>w.heap.size<=k) (fun k hk=>ho1.block_ge hk.symm))).new_ext (fun _ h=>h);have hB2:=hB.ext hX2;have q2:=hB2.cell' 7 hc;have f2:=hB2.frozen 7;rw [List.nil_append,show l.map (Value.int .i64) ++ [.int .i64 z]=(l ++ [z]).map (Value.int .i64) by simp,show 0+l.length+1=l.length+1 by omega] at ho2;have hge:=fun b hb=>ho2.block_ge (b:=b) hb
 obtain ⟨A2,c2,rfl,r1,r2,r3⟩:=Sl.of_own ho2;unfold maxLen at r2
 iterate 1 refine lV ?_
 refine l_s rfl rfl (by simp [execOp,go_sem, *];rfl) ?_;refine aJ (h _ A2 c2 w2 I ⟨A2,c2,U,by simpa using r1,⟨aa,r2⟩,fun q hq=>?_,by simpa using r3 _ hge⟩ hX2);rcases List.mem_append.1 hq with hq | hq
 ·exact hi q hq
 ·rw [List.mem_singleton.1 hq];exact hz
end
section
variable {Q:Exit->Act->World->Prop}{a:Act}{w:World}{g g4 g8 g9:Nat}{z:Int}{v:Value}{k n c:Nat}{A:Option Addr}
theorem aHj {css:List Value}{P:Nat->Prop}(hsz:a.tmps.size=135)(e3:Ev a (.tmp 3)=↑z)(e11:Ev a (.tmp 11)=.pointer (some ⟨g,0,none⟩)){cs:Array Value}(hB:Blk w g 87 cs)(hc:cs[5]?=some (.slice A n c))(hsl:Sl w P 1 A n css)(hone:∀ u ∈ css,u.oneCell'=true)(hn:n<=1000000)
  (h:∀ a' v' W,Ag [3,8,9,10,11] a a'->W.ownsRow w.heap.size 9 1 v' (n+1) (css ++ [.string ⟨#[120]⟩])->Ext w W->Q .normal a' (W.setCell ⟨g,5,none⟩ v')):Code.wp Tryz.prog aDs Q a w:=by
 have q0:=hB.cell' 5 hc;refine rW ?_
 iterate 1 refine lV ?_
 have hown:=World.ownsRow_lit (base:=w.heap.size) (e:=9) (size:=1) w #[] 0 (Nat.le_refl _) aq rfl;have hX:Ext w (w.alloc (.cells #[] 9)):=(Ext.refl w).alloc' _;generalize w.alloc (.cells #[] 9)=W at *;have q1:=aA hX q0
 iterate 2 refine lV ?_
 refine l_a rfl rfl rfl Tryz.underlying82 Tryz.info9 rfl D hown (hsl.keep (aB.of_ext hX) (fun _ h=>h)) O ab hone D D hX.size ?_;intro v1 w1 ho1 hf1 hb1;have hX1:Ext w w1:=((Fr.of_ext hX).trans (hf1.mono (N:=fun k=>w.heap.size<=k) (fun k hk=>hown.block_ge hk.symm))).new_ext (fun _ h=>h)
 iterate 1 refine lV ?_
 refine l_a rfl rfl rfl Tryz.underlying82 Tryz.info9 rfl D (ho1.alloc _) (Sl.new w1 [.string ⟨#[120]⟩] 9 1 1 rfl) O ab af D D fv ?_;intro v2 w2 ho2 hf2 hb2;have hX2:Ext w w2:=((Fr.of_ext (hX1.trans' ((Ext.refl w1).alloc' _))).trans (hf2.mono (N:=fun k=>w.heap.size<=k) (fun k hk=>ho1.block_ge hk.symm))).new_ext (fun _ h=>h);rw [List.nil_append,show 0+n+1=n+1 by omega] at ho2;have hB2:=hB.ext hX2;have q2:=hB2.cell' 5 hc;have f2:=hB2.frozen 5;obtain ⟨A2,c2,e2,-,-,-⟩:=Sl.of_own ho2;subst e2
 iterate 1 refine lV ?_
 refine l_s rfl rfl (by simp [execOp,go_sem, *];rfl) ?_;exact aJ (h _ _ w2 I ho2 hX2)
theorem aHh {css:List Value}{P:Nat->Prop}(hsz:a.tmps.size=135)(e3:Ev a (.tmp 3)=↑z)(e11:Ev a (.tmp 11)=.pointer (some ⟨g,0,none⟩)){cs:Array Value}(hB:Blk w g 87 cs)(hc:cs[6]?=some (.slice A n c))(hsl:Sl w P 4 A n css)(hone:∀ u ∈ css,u.oneCell'=true)(hn:n<=1000000)
  (h:∀ a' v' W,Ag [3,8,9,10,11] a a'->W.ownsRow w.heap.size 85 4 v' (n+1) (css ++ [.int .i64 0,.int .i64 z,.string ⟨#[]⟩,.slice none 0 0])->Ext w W->Q .normal a' (W.setCell ⟨g,6,none⟩ v')):Code.wp Tryz.prog aDr Q a w:=by
 have q0:=hB.cell' 6 hc;refine rW ?_
 iterate 1 refine lV ?_
 have hown:=World.ownsRow_lit (base:=w.heap.size) (e:=85) (size:=4) w #[] 0 (Nat.le_refl _) aq rfl;have hX:Ext w (w.alloc (.cells #[] 85)):=(Ext.refl w).alloc' _;generalize w.alloc (.cells #[] 85)=W at *;have q1:=aA hX q0
 iterate 2 refine lV ?_
 refine l_a rfl rfl rfl Tryz.underlying83 Tryz.info85 rfl D hown (hsl.keep (aB.of_ext hX) (fun _ h=>h)) O ab hone D D hX.size ?_;intro v1 w1 ho1 hf1 hb1;have hX1:Ext w w1:=((Fr.of_ext hX).trans (hf1.mono (N:=fun k=>w.heap.size<=k) (fun k hk=>hown.block_ge hk.symm))).new_ext (fun _ h=>h)
 iterate 3 refine lV ?_
 refine l_a rfl rfl rfl Tryz.underlying83 Tryz.info85 rfl D (ho1.alloc _) (Sl.new w1 [.int .i64 0,.int .i64 z,.string ⟨#[]⟩,.slice none 0 0] 85 1 4 rfl) O ab af D D fv ?_;intro v2 w2 ho2 hf2 hb2;have hX2:Ext w w2:=((Fr.of_ext (hX1.trans' ((Ext.refl w1).alloc' _))).trans (hf2.mono (N:=fun k=>w.heap.size<=k) (fun k hk=>ho1.block_ge hk.symm))).new_ext (fun _ h=>h);rw [List.nil_append,show 0+n+1=n+1 by omega] at ho2;have hB2:=hB.ext hX2;have q2:=hB2.cell' 6 hc;have f2:=hB2.frozen 6;obtain ⟨A2,c2,e2,-,-,-⟩:=Sl.of_own ho2;subst e2
 iterate 1 refine lV ?_
 refine l_s rfl rfl (by simp [execOp,go_sem, *];rfl) ?_;exact aJ (h _ _ w2 I ho2 hX2)
theorem aNj {css:List Value}{P:Nat->Prop}(hsz:a.tmps.size=135)(e3:Ev a (.tmp 3)=↑z)(e11:Ev a (.tmp 11)=.pointer (some ⟨g,0,none⟩)){cs:Array Value}(hB:Blk w g 87 cs)(hc:cs[4]?=some (.slice A n c))(hsl:Sl w P 1 A n css)(hone:∀ u ∈ css,u.oneCell'=true)(hn:n<=1000000)
  (h:∀ a' v' W,Ag [3,8,9,10,11] a a'->W.ownsRow w.heap.size 3 1 v' (n) (css)->Ext w W->Q .normal a' (W.setCell ⟨g,4,none⟩ v')):Code.wp Tryz.prog aOm Q a w:=by
 have q0:=hB.cell' 4 hc;refine rW ?_
 iterate 1 refine lV ?_
 have hown:=World.ownsRow_lit (base:=w.heap.size) (e:=3) (size:=1) w #[] 0 (Nat.le_refl _) aq rfl;have hX:Ext w (w.alloc (.cells #[] 3)):=(Ext.refl w).alloc' _;generalize w.alloc (.cells #[] 3)=W at *;have q1:=aA hX q0
 iterate 2 refine lV ?_
 refine l_a rfl rfl rfl Tryz.underlying22 Tryz.info3 rfl D hown (hsl.keep (aB.of_ext hX) (fun _ h=>h)) O ab hone D D hX.size ?_;intro v1 w1 ho1 hf1 hb1;have hX1:Ext w w1:=((Fr.of_ext hX).trans (hf1.mono (N:=fun k=>w.heap.size<=k) (fun k hk=>hown.block_ge hk.symm))).new_ext (fun _ h=>h);rw [List.nil_append,show 0+n=n by omega] at ho1;have hB2:=hB.ext hX1;have q2:=hB2.cell' 4 hc;have f2:=hB2.frozen 4;obtain ⟨A2,c2,e2,-,-,-⟩:=Sl.of_own ho1;subst e2
 iterate 1 refine lV ?_
 refine l_s rfl rfl (by simp [execOp,go_sem, *];rfl) ?_;exact aJ (h _ _ w1 I ho1 hX1)
theorem aHy {css:List Value}{P:Nat->Prop}(hsz:a.tmps.size=135)(e3:Ev a (.tmp 3)=↑z)(e11:Ev a (.tmp 11)=.pointer (some ⟨g,0,none⟩)){cs:Array Value}(hB:Blk w g 87 cs)(hc:cs[7]?=some (.slice A n c))(hsl:Sl w P 1 A n css)(hone:∀ u ∈ css,u.oneCell'=true)(hn:n<=1000000)
  (h:∀ a' v' W,Ag [3,8,9,10,11] a a'->W.ownsRow w.heap.size 3 1 v' (n) (css)->Ext w W->Q .normal a' (W.setCell ⟨g,7,none⟩ v')):Code.wp Tryz.prog aD0 Q a w:=by
 have q0:=hB.cell' 7 hc;refine rW ?_
 iterate 1 refine lV ?_
 have hown:=World.ownsRow_lit (base:=w.heap.size) (e:=3) (size:=1) w #[] 0 (Nat.le_refl _) aq rfl;have hX:Ext w (w.alloc (.cells #[] 3)):=(Ext.refl w).alloc' _;generalize w.alloc (.cells #[] 3)=W at *;have q1:=aA hX q0
 iterate 2 refine lV ?_
 refine l_a rfl rfl rfl Tryz.underlying22 Tryz.info3 rfl D hown (hsl.keep (aB.of_ext hX) (fun _ h=>h)) O ab hone D D hX.size ?_;intro v1 w1 ho1 hf1 hb1;have hX1:Ext w w1:=((Fr.of_ext hX).trans (hf1.mono (N:=fun k=>w.heap.size<=k) (fun k hk=>hown.block_ge hk.symm))).new_ext (fun _ h=>h);rw [List.nil_append,show 0+n=n by omega] at ho1;have hB2:=hB.ext hX1;have q2:=hB2.cell' 7 hc;have f2:=hB2.frozen 7;obtain ⟨A2,c2,e2,-,-,-⟩:=Sl.of_own ho1;subst e2
 iterate 1 refine lV ?_
 refine l_s rfl rfl (by simp [execOp,go_sem, *];rfl) ?_;exact aJ (h _ _ w1 I ho1 hX1)
theorem aNk (hsz:a.tmps.size=135)(e11:Ev a (.tmp 11)=.pointer (some ⟨g,0,none⟩))(c4:w.cell? ⟨g,4,none⟩=some (.slice A n c))(h:∀ a',Ag [3,8,9,10,11,35] a a'->Ev a' (.tmp 39)=.bool (decide (0<n))->Q .normal a' w):Code.wp Tryz.prog aRz Q a w:=by
 refine rW ?_
 iterate 4 refine lV ?_
 exact aJ (h _ I O)
theorem aHz (hsz:a.tmps.size=135)(e11:Ev a (.tmp 11)=.pointer (some ⟨g,0,none⟩))(c4:w.cell? ⟨g,7,none⟩=some (.slice A n c))(h:∀ a',Ag [3,8,9,10,11,35] a a'->Ev a' (.tmp 52)=.bool (decide (0<n))->Q .normal a' w):Code.wp Tryz.prog aJ9 Q a w:=by
 refine rW ?_
 iterate 4 refine lV ?_
 exact aJ (h _ I O)
theorem aH0 {G:Nat}{old:Value}(hsz:a.tmps.size=135)(e3:Ev a (.tmp 3)=↑z)(e11:Ev a (.tmp 11)=.pointer (some ⟨g,0,none⟩))(c4:w.cell? ⟨g,4,none⟩=some (.slice (some ⟨G,0,none⟩) n c))(hn:0<n)(c0:w.cell? ⟨G,0,none⟩=some old)(f0:w.frozen? ⟨G,0,none⟩=false)(h:∀ a',Ag [8,9,10,11] a a'->Q .normal a' (w.setCell ⟨G,0,none⟩ (↑z))):Code.wp Tryz.prog aD1 Q a w:=by
 refine rW ?_
 iterate 4 refine lV ?_
 refine l_s rfl rfl (by simp [execOp,go_sem, *];rfl) ?_;exact aJ (h _ I)
theorem aHx {G:Nat}{old:Value}(hsz:a.tmps.size=135)(e3:Ev a (.tmp 3)=↑z)(e11:Ev a (.tmp 11)=.pointer (some ⟨g,0,none⟩))(c4:w.cell? ⟨g,7,none⟩=some (.slice (some ⟨G,0,none⟩) n c))(hn:0<n)(c0:w.cell? ⟨G,0,none⟩=some old)(f0:w.frozen? ⟨G,0,none⟩=false)(h:∀ a',Ag [8,9,10,11] a a'->Q .normal a' (w.setCell ⟨G,0,none⟩ (↑z))):Code.wp Tryz.prog aDz Q a w:=by
 refine rW ?_
 iterate 4 refine lV ?_
 refine l_s rfl rfl (by simp [execOp,go_sem, *];rfl) ?_;exact aJ (h _ I)
theorem aS3 {p:Int}(h0:0<=p)(h6:p<6):∃ s:ByteArray,(#[Value.string ⟨#[]⟩,.string ⟨#[80,97,105,114]⟩,.string ⟨#[112,97,105,114]⟩,.string ⟨#[65,98,95,49]⟩,.string ⟨#[76,111,110,103,76,111,110,103,76,111,110,103,76,111,110,103,76]⟩,.string ⟨#[65,45,98]⟩]:Array Value)[p.toNat]?=some (.string s)∧s.size<=17592186044416:=by
 have h:p=0∨p=1∨p=2∨p=3∨p=4∨p=5:=D
 rcases h with rfl | rfl | rfl | rfl | rfl | rfl
 ·exact ⟨_,rfl,gj⟩
 ·exact ⟨_,rfl,by show 4<=_;omega⟩
 ·exact ⟨_,rfl,by show 4<=_;omega⟩
 ·exact ⟨_,rfl,by show 4<=_;omega⟩
 ·exact ⟨_,rfl,by show 17<=_;omega⟩
 ·exact ⟨_,rfl,by show 3<=_;omega⟩
theorem aHl {p:Int}(hsz:a.tmps.size=135)(e3:Ev a (.tmp 3)=↑z)(e11:Ev a (.tmp 11)=.pointer (some ⟨g,0,none⟩)){cs:Array Value}(hB:Blk w g 87 cs)(hc1:cs[1]?=some v)(h0:0<=p)(h6:p<6)(hc:∀ w,Calls Tryz.prog 9 #[↑z,.int .i64 6] w fun e w'=>e=.returned (↑p)∧w'=w)
  (h:∀ a' W s,Ag [8,9,10,11] a a'->s.size<=17592186044416->Ext w W->Q .normal a' (W.setCell ⟨g,1,none⟩ (.string s))):Code.wp Tryz.prog aDt Q a w:=by
 obtain ⟨s,hs,hs2⟩:=aS3 h0 h6;have q0:=hB.cell' 1 hc1;have f0:=hB.frozen 1;refine rW ?_
 iterate 1 refine lV ?_
 have hN:=Blk.new w 9 #[Value.string ⟨#[]⟩,.string ⟨#[80,97,105,114]⟩,.string ⟨#[112,97,105,114]⟩,.string ⟨#[65,98,95,49]⟩,.string ⟨#[76,111,110,103,76,111,110,103,76,111,110,103,76,111,110,103,76]⟩,.string ⟨#[65,45,98]⟩];have hX:Ext w (w.alloc (.cells #[Value.string ⟨#[]⟩,.string ⟨#[80,97,105,114]⟩,.string ⟨#[112,97,105,114]⟩,.string ⟨#[65,98,95,49]⟩,.string ⟨#[76,111,110,103,76,111,110,103,76,111,110,103,76,111,110,103,76]⟩,.string ⟨#[65,45,98]⟩] 9)):=(Ext.refl w).alloc' _;generalize w.alloc (.cells #[Value.string ⟨#[]⟩,.string ⟨#[80,97,105,114]⟩,.string ⟨#[112,97,105,114]⟩,.string ⟨#[65,98,95,49]⟩,.string ⟨#[76,111,110,103,76,111,110,103,76,111,110,103,76,111,110,103,76]⟩,.string ⟨#[65,45,98]⟩] 9)=W at *;have qs:=hN.cell' p.toNat hs;have hB1:=hB.ext hX;have q1:=hB1.cell' 1 hc1;have f1:=hB1.frozen 1;clear hN hs q0 f0
 iterate 1 refine lV ?_
 refine l_c rfl rfl rfl Tryz.func9 ac ac (hc W) O ?_;rintro e w' ⟨rfl,rfl⟩;refine ⟨_,rfl,?_⟩
 iterate 3 refine lV ?_
 refine l_s rfl rfl (by simp [execOp,go_sem, *];rfl) ?_;exact aJ (h _ _ s I hs2 hX)
theorem aHf {p:Int}(hsz:a.tmps.size=135)(e3:Ev a (.tmp 3)=↑z)(e11:Ev a (.tmp 11)=.pointer (some ⟨g,0,none⟩)){cs:Array Value}(hB:Blk w g 87 cs){u8 u9 u10 u11:Value}(h8:cs[8]?=some u8)(h9:cs[9]?=some u9)(h10:cs[10]?=some u10)(h11:cs[11]?=some u11)(hc:Calls Tryz.prog 9 #[↑z,.int .i64 5] w fun e w'=>e=.returned (↑p)∧w'=w)
  (h:∀ a',Ag [8,9,10,11] a a'->Q .normal a' (w.setCells g 8 [.int .i64 p,.int .i64 z,.string ⟨#[]⟩,.slice none 0 0])):Code.wp Tryz.prog aDq Q a w:=by
 refine rW ?_
 iterate 1 refine lV ?_
 refine l_c rfl rfl rfl Tryz.func9 ac ac hc O ?_;rintro e w' ⟨rfl,rfl⟩;refine ⟨_,rfl,?_⟩
 iterate 3 refine lV ?_
 refine l_s rfl rfl (by simp [execOp,go_sem,hB.cell,hB.frozen, *];rfl) ?_;exact aJ (h _ I)
theorem aHe {G:Nat}{x:GN}{y:NA}(hsz:a.tmps.size=135)(e9:Ev a (.tmp 9)=.pointer (some ⟨g9,0,none⟩))(e10:Ev a (.tmp 10)=↑(k:Int))(e11:Ev a (.tmp 11)=.pointer (some ⟨g,0,none⟩))(c9:w.cell? ⟨g9,0,none⟩=some (.slice (some ⟨G,0,none⟩) n c))(hk:k<n)(hB:Blk w g 87 (aE x y).toArray)(ho:∀ j,j<12->∃ u,w.cell? ⟨G,k*12+j,none⟩=some u)(hf:∀ j,w.frozen? ⟨G,j,none⟩=false)
  (h:∀ a',Ag [8,9] a a'->Q .normal a' (w.setCells G (k*12) (aE x y))):Code.wp Tryz.prog aJz Q a w:=by
 obtain ⟨u0,q0⟩:=ho 0 D;obtain ⟨u1,q1⟩:=ho 1 D;obtain ⟨u2,q2⟩:=ho 2 D;obtain ⟨u3,q3⟩:=ho 3 D;obtain ⟨u4,q4⟩:=ho 4 D;obtain ⟨u5,q5⟩:=ho 5 D;obtain ⟨u6,q6⟩:=ho 6 D;obtain ⟨u7,q7⟩:=ho 7 D;obtain ⟨u8,q8⟩:=ho 8 D;obtain ⟨u9,q9⟩:=ho 9 D;obtain ⟨u10,q10⟩:=ho 10 D;obtain ⟨u11,q11⟩:=ho 11 D;rw [Nat.add_zero] at q0;clear ho;have hk':(k:Int)<(n:Int):=by omega
 refine rW ?_
 iterate 5 refine l_v rfl rfl (by simp [execOp,go_sem,hB.cell, *];exact ⟨rfl,rfl⟩) ?_
 refine l_s rfl rfl (by simp [execOp,go_sem,hf,hsz,q0,q1,q2,q3,q4,q5,q6,q7,q8,q9,q10,q11];rfl) ?_;exact aJ (h _ I)
end
structure fH (x:GN):Prop where
 mw:x.weights.length<=999999
 ml:x.labels.length<=999999
 mv:x.values.length<=999999
 mj:x.kids.length<=999999
 mx:gsz x.value<=1000000
 mvs:∀ u ∈ x.values,gsz u<=1000000
theorem fH.n {x:GN}(h:fH x):dG x:=⟨by have:=h.mw;omega,by have:=h.ml;omega,by have:=h.mv;omega,by have:=h.mj;omega,h.mx,h.mvs⟩
def Sp1 (x x':GN):Prop:=x'.kids.length<=x.kids.length+1∧(x'.kind=x.kind∨(x'.kids=x.kids∧x'.weights=x.weights∧x'.values=x.values))
def SpP (w0:World)(P:Nat->Prop)(v:Value)(g8 g9 g:Nat)(k:Nat):Prop:=(P k∨w0.heap.size<=k)∧k ≠ g8∧k ≠ g9∧k ≠ g∧some k ≠ v.ownBlock
structure SpA (w0:World)(P:Nat->Prop)(v:Value)(n:Nat)(xs:List Value)(g8 g9 g:Nat)(x:GN)(y:NA)(w:World):Prop where
 ext:Ext w0 w
 b8:Blk w g8 25 #[.slice none 0 0]
 b9:Blk w g9 25 #[v]
 b11:Blk w g 87 (aE x y).toArray
 own:w.ownsRow w0.heap.size 87 12 v n xs
 nat:NAt w (SpP w0 P v g8 g9 g) x y
 ge:w0.heap.size<=g8∧w0.heap.size<=g9∧w0.heap.size<=g
 ne:g8 ≠ g9∧g8 ≠ g∧g9 ≠ g
 no:some g8 ≠ v.ownBlock∧some g9 ≠ v.ownBlock∧some g ≠ v.ownBlock
section
variable {w0:World}{P:Nat->Prop}{v:Value}{n:Nat}{xs:List Value}{g8 g9 g:Nat}{x x':GN}{y y':NA}{w W:World}
theorem SpA.new (h:SpA w0 P v n xs g8 g9 g x y w){b:Nat}(hb:w.heap.size<=b):SpP w0 P v g8 g9 g b:=by
 have h1:=h.ext.size;have h2:=h.b8.lt;have h3:=h.b9.lt;have h4:=h.b11.lt;exact ⟨.inr D,D,D,D,fun e=>by have:=h.own.block_lt e.symm;omega⟩
theorem SpA.nk (h:SpA w0 P v n xs g8 g9 g x y w)(hF:Fr (fun k=>k=g) w W):NAt W (SpP w0 P v g8 g9 g) x y:=h.nat.keep (aB.of_fr hF (fun b hb e=>hb.2.2.2.1 e)) (fun _ h=>h)
theorem SpA.fr (h:SpA w0 P v n xs g8 g9 g x y w)(hF:Fr (fun k=>k=g) w W)(hb:Blk W g 87 (aE x' y').toArray)(hn:NAt W (SpP w0 P v g8 g9 g) x' y'):SpA w0 P v n xs g8 g9 g x' y' W :=
 ⟨((Fr.of_ext h.ext).trans hF).new_ext (fun b hb=>by have:=h.ge.2.2;omega),h.b8.fr hF h.ne.2.1,h.b9.fr hF h.ne.2.2,hb,iF h.own hF (fun b hb e=>h.no.2.2 (by rw [hb,e])),hn,h.ge,h.ne,h.no⟩
end
theorem fS {w W:World}{g o:Nat}{u:Value}(hX:Ext w W):Fr (fun k=>k=g) w (W.setCell ⟨g,o,none⟩ u):=Fr.setCell (M:=fun k=>k=g) (Fr.of_ext hX) (p:=⟨g,o,none⟩) (.inl rfl) u
structure SpS (a0 a:Act)(z hw:Int)(g:Nat):Prop where
 sz:a.tmps.size=135
 e3:Ev a (.tmp 3)=↑z
 e11:Ev a (.tmp 11)=.pointer (some ⟨g,0,none⟩)
 e35:Ev a (.tmp 35)=↑hw
 ag:Ag [8,9,10,11] a0 a
theorem SpS.go {a0 a a':Act}{z hw:Int}{g:Nat}(h:SpS a0 a z hw g)(k:Ag [3,8,9,10,11,35] a a'):SpS a0 a' z hw g:=⟨k.sz.trans h.sz,k.get 3 h.e3,k.get 11 h.e11,k.get 35 h.e35,h.ag.trans (k.mono rfl)⟩
theorem zQ {W:World}{B G n c:Nat}{l:List Int}{z:Int}(ho:W.ownsRow B 3 1 (.slice (some ⟨G,0,none⟩) n c) n (l.map (Value.int .i64))):(W.setCell ⟨G,0,none⟩ (↑z)).ownsRow B 3 1 (.slice (some ⟨G,0,none⟩) n c) n ((l.set 0 z).map (Value.int .i64)):=by
 obtain ⟨hl,⟨e,_⟩ | ⟨G',cap,cur,e,hb,hB,hn,hm,hs,ht⟩⟩:=ho
 ·cases e
 ·injection e with e1 _ e3
  injection e1 with e1;injection e1 with e1;subst e1 e3;refine ⟨by simpa using hl,.inr ⟨G,c,cur.setIfInBounds 0 (↑z),rfl,hb,Blk.set_ hB 0 _,hn,hm,by simpa using hs,?_⟩⟩;rw [Array.toList_setIfInBounds,List.take_set,ht,List.map_set]
theorem lJ {W:World}{B G n c:Nat}{xs:List Value}(hn:0<n)(ho:W.ownsRow B 3 1 (.slice (some ⟨G,0,none⟩) n c) n xs):(∃ cur,Blk W G 3 cur)∧B<=G∧∃ u,W.cell? ⟨G,0,none⟩=some u:=by
 obtain ⟨hl,⟨e,_⟩ | ⟨G',cap,cur,e,hb,hB,hn',hm,hs,ht⟩⟩:=ho
 ·cases e
 ·injection e with e1 _ e3
  injection e1 with e1;injection e1 with e1;subst e1 e3;have hBb:Blk W G 3 cur:=hB;exact ⟨⟨cur,hB⟩,hb,cur[0]'(by omega),hBb.cell' 0 U⟩
theorem jT.ones {l:List ByteArray}:∀ {cs:List Value},RL aPy l cs->∀ u ∈ cs,u.oneCell'=true:=by
 induction l with
 | nil=>intro cs h u hu;simp only [RL] at h;subst h;simp at hu
 | cons s l ih =>
  intro cs h u hu;obtain ⟨c1,c2,rfl,⟨_,rfl⟩,h2⟩:=h;rcases List.mem_append.1 hu with hu | hu
  ·rw [List.mem_singleton.1 hu];rfl
  ·exact ih h2 u hu
section
variable {w0:World}{P:Nat->Prop}{v:Value}{n:Nat}{xs:List Value}{g8 g9 g:Nat}{x:GN}{y:NA}{w:World}{a0 a:Act}{z hw:Int}{R:Exit->Act->World->Prop}
theorem aU3 (hs:SpS a0 a z hw g)(h:SpA w0 P v n xs g8 g9 g x y w)(hS:fH x)(hz:I64 z)(hR:∀ a' w' x' y',Ag [8,9,10,11] a0 a'->SpA w0 P v n xs g8 g9 g x' y' w'->dG x'->Sp1 x x'->R .normal a' w'):Code.wp Tryz.prog aDy R a w:=by
 refine aHv hs.sz hs.e3 hs.e11 h.b11 rfl ?_;intro a' g';have hF:Fr (fun k=>k=g) w (w.setCell ⟨g,0,none⟩ (↑z)):=fS (Ext.refl w);have k:=h.nk hF;exact hR a' _ { x with kind:=z } y (hs.ag.trans g') (h.fr hF (h.b11.set_ 0 _) ⟨hz,k.name,k.lo,k.hi,k.weights,k.labels,k.values,k.kids,k.value⟩) hS.n ⟨Nat.le_succ _,.inr ⟨rfl,rfl,rfl⟩⟩
theorem aU2 (hs:SpS a0 a z hw g)(h:SpA w0 P v n xs g8 g9 g x y w)(hS:fH x)(hz:I64 z)(hR:∀ a' w' x' y',Ag [8,9,10,11] a0 a'->SpA w0 P v n xs g8 g9 g x' y' w'->dG x'->Sp1 x x'->R .normal a' w'):Code.wp Tryz.prog aDx R a w:=by
 refine aHt hs.sz hs.e3 hs.e11 h.b11 rfl ?_;intro a' g';have hF:Fr (fun k=>k=g) w (w.setCell ⟨g,2,none⟩ (↑z)):=fS (Ext.refl w);have k:=h.nk hF;exact hR a' _ { x with lo:=z } y (hs.ag.trans g') (h.fr hF (h.b11.set_ 2 _) ⟨k.kind,k.name,hz,k.hi,k.weights,k.labels,k.values,k.kids,k.value⟩) hS.n ⟨U,.inl rfl⟩
theorem aU1 (hs:SpS a0 a z hw g)(h:SpA w0 P v n xs g8 g9 g x y w)(hS:fH x)(hz:I64 z)(hR:∀ a' w' x' y',Ag [8,9,10,11] a0 a'->SpA w0 P v n xs g8 g9 g x' y' w'->dG x'->Sp1 x x'->R .normal a' w'):Code.wp Tryz.prog aDw R a w:=by
 refine aHr hs.sz hs.e3 hs.e11 h.b11 rfl ?_;intro a' g';have hF:Fr (fun k=>k=g) w (w.setCell ⟨g,3,none⟩ (↑z)):=fS (Ext.refl w);have k:=h.nk hF;exact hR a' _ { x with hi:=z } y (hs.ag.trans g') (h.fr hF (h.b11.set_ 3 _) ⟨k.kind,k.name,k.lo,hz,k.weights,k.labels,k.values,k.kids,k.value⟩) hS.n ⟨U,.inl rfl⟩
theorem aU0 (hs:SpS a0 a z hw g)(h:SpA w0 P v n xs g8 g9 g x y w)(hS:fH x)(hz:I64 z)(hR:∀ a' w' x' y',Ag [8,9,10,11] a0 a'->SpA w0 P v n xs g8 g9 g x' y' w'->dG x'->Sp1 x x'->R .normal a' w'):Code.wp Tryz.prog aDv R a w:=by
 refine aHp hs.sz hs.e3 hz hs.e11 h.b11 rfl h.nat.weights (by have:=hS.mw;omega) ?_;intro a' A' c' W g' hi hX;have hF:Fr (fun k=>k=g) w (W.setCell ⟨g,4,none⟩ (.slice A' (x.weights.length+1) c')):=fS hX;have k:=h.nk hF;have e:x.weights.length+1=(x.weights ++ [z]).length:=by simp
 have hb:=(h.b11.ext hX).set_ 4 (.slice A' (x.weights.length+1) c');have hi':=hi.carry (w':=W.setCell ⟨g,4,none⟩ (.slice A' (x.weights.length+1) c')) (Q:=SpP w0 P v g8 g9 g) (aB.set (fun _ _ _=>rfl) (p:=⟨g,4,none⟩) _ (by have:=h.b11.lt;show ¬ w.heap.size<=g;omega)) (fun b _ hb=>h.new hb);have hm:=hS.mw;refine hR a' _ { x with weights:=x.weights ++ [z] } { y with wA:=A',wc:=c' } (hs.ag.trans g') (h.fr hF ?_ ?_) ?_ ⟨U,.inl rfl⟩
 ·rw [e] at hb ⊢
  exact hb
 ·rw [e] at hi' k ⊢
  exact ⟨k.kind,k.name,k.lo,k.hi,hi',k.labels,k.values,k.kids,k.value⟩
 ·have q:=hS.n
  exact ⟨aa,q.2⟩
theorem aUz (hs:SpS a0 a z hw g)(h:SpA w0 P v n xs g8 g9 g x y w)(hS:fH x)(hz:I64 z)(hR:∀ a' w' x' y',Ag [8,9,10,11] a0 a'->SpA w0 P v n xs g8 g9 g x' y' w'->dG x'->Sp1 x x'->R .normal a' w'):Code.wp Tryz.prog aDu R a w:=by
 refine aHn hs.sz hs.e3 hz hs.e11 h.b11 rfl h.nat.kids (by have:=hS.mj;omega) ?_;intro a' A' c' W g' hi hX;have hF:Fr (fun k=>k=g) w (W.setCell ⟨g,7,none⟩ (.slice A' (x.kids.length+1) c')):=fS hX;have k:=h.nk hF;have e:x.kids.length+1=(x.kids ++ [z]).length:=by simp
 have hb:=(h.b11.ext hX).set_ 7 (.slice A' (x.kids.length+1) c');have hi':=hi.carry (w':=W.setCell ⟨g,7,none⟩ (.slice A' (x.kids.length+1) c')) (Q:=SpP w0 P v g8 g9 g) (aB.set (fun _ _ _=>rfl) (p:=⟨g,7,none⟩) _ (by have:=h.b11.lt;show ¬ w.heap.size<=g;omega)) (fun b _ hb=>h.new hb);have hm:=hS.mj;refine hR a' _ { x with kids:=x.kids ++ [z] } { y with kA:=A',kc:=c' } (hs.ag.trans g') (h.fr hF ?_ ?_) ?_ ⟨U,.inl rfl⟩
 ·rw [e] at hb ⊢
  exact hb
 ·rw [e] at hi' k ⊢
  exact ⟨k.kind,k.name,k.lo,k.hi,k.weights,k.labels,k.values,hi',k.value⟩
 ·have q:=hS.n
  exact ⟨q.1,q.2.1,q.2.2.1,aa,q.2.2.2.2⟩
theorem aUy (hs:SpS a0 a z hw g)(h:SpA w0 P v n xs g8 g9 g x y w)(hS:fH x)(hz:I64 z)(hR:∀ a' w' x' y',Ag [8,9,10,11] a0 a'->SpA w0 P v n xs g8 g9 g x' y' w'->dG x'->Sp1 x x'->R .normal a' w'):Code.wp Tryz.prog aDt R a w:=by
 have hp:=fK (n:=z) (m:=6) D;refine aHl hs.sz hs.e3 hs.e11 h.b11 rfl hp.1 hp.2 (fun w=>(eN z 6 w hz D D).mono (fun _ _ q=>⟨q.1,q.2.symm⟩)) ?_;intro a' W s g' hsl hX;have hF:Fr (fun k=>k=g) w (W.setCell ⟨g,1,none⟩ (.string s)):=fS hX;have k:=h.nk hF;exact hR a' _ { x with name:=s } y (hs.ag.trans g') (h.fr hF ((h.b11.ext hX).set_ 1 _) ⟨k.kind,hsl,k.lo,k.hi,k.weights,k.labels,k.values,k.kids,k.value⟩) hS.n ⟨U,.inl rfl⟩
theorem aUx (hs:SpS a0 a z hw g)(h:SpA w0 P v n xs g8 g9 g x y w)(hS:fH x)(hz:I64 z)(hR:∀ a' w' x' y',Ag [8,9,10,11] a0 a'->SpA w0 P v n xs g8 g9 g x' y' w'->dG x'->Sp1 x x'->R .normal a' w'):Code.wp Tryz.prog aDs R a w:=by
 obtain ⟨A0,c0,css,e0,-,-,hsl,hrl⟩:=h.nat.labels;injection e0 with e1 _ e2;have hsl':Sl w (SpP w0 P v g8 g9 g) 1 y.lA x.labels.length css:=by rw [e1];exact hsl
 refine aHj hs.sz hs.e3 hs.e11 h.b11 rfl hsl' (jT.ones hrl) (by have:=hS.ml;omega) ?_;intro a' v' W g' ho hX;have hF:Fr (fun k=>k=g) w (W.setCell ⟨g,5,none⟩ v'):=fS hX;have k:=h.nk hF;have e:x.labels.length+1=(x.labels ++ [(⟨#[120]⟩:ByteArray)]).length:=by simp
 have hb:=(h.b11.ext hX).set_ 5 v';have hge:=fun b hb=>ho.block_ge (b:=b) hb
 obtain ⟨A',c',rfl,-,-,-⟩:=Sl.of_own ho;have hm:=hS.ml;have ho':=iF (M:=fun k=>k=g) ho (w':=W.setCell ⟨g,5,none⟩ (.slice A' (x.labels.length+1) c')) (fS (Ext.refl W)) (fun b hb e=>by have:=hge b hb;have:=h.b11.lt;omega);rw [e] at hb hF k ho' hge ⊢;have hi':=(Lst.of_own ho' (hrl.append (RL.one ⟨by show (1:Nat)<=_;omega,rfl⟩)) aa (fun b hb=>h.new (hge b hb)):jT _ (SpP w0 P v g8 g9 g) _ _);refine hR a' _ { x with labels:=x.labels ++ [(⟨#[120]⟩:ByteArray)] } { y with lA:=A',lc:=c' } (hs.ag.trans (g'.mono rfl)) (h.fr hF hb ⟨k.kind,k.name,k.lo,k.hi,k.weights,hi',k.values,k.kids,k.value⟩) ?_ ⟨U,.inl rfl⟩
 ·have q:=hS.n
  exact ⟨q.1,aa,q.2.2⟩
theorem aUw (hs:SpS a0 a z hw g)(h:SpA w0 P v n xs g8 g9 g x y w)(hS:fH x)(hz:I64 z)(hR:∀ a' w' x' y',Ag [8,9,10,11] a0 a'->SpA w0 P v n xs g8 g9 g x' y' w'->dG x'->Sp1 x x'->R .normal a' w'):Code.wp Tryz.prog aDr R a w:=by
 obtain ⟨A0,c0,css,e0,-,-,hsl,hrl⟩:=h.nat.values;injection e0 with e1 _ e2;have hsl':Sl w (SpP w0 P v g8 g9 g) 4 y.vA x.values.length css:=by rw [e1];exact hsl
 refine aHh hs.sz hs.e3 hs.e11 h.b11 rfl hsl' (RVs.oneCell hrl) (by have:=hS.mv;omega) ?_;intro a' v' W g' ho hX;have hF:Fr (fun k=>k=g) w (W.setCell ⟨g,6,none⟩ v'):=fS hX;have k:=h.nk hF;have e:x.values.length+1=(x.values ++ [(GV.mk 0 z ⟨#[]⟩ [])]).length:=by simp
 have hb:=(h.b11.ext hX).set_ 6 v';have hge:=fun b hb=>ho.block_ge (b:=b) hb
 obtain ⟨A',c',rfl,-,-,-⟩:=Sl.of_own ho;have hm:=hS.mv;have ho':=iF (M:=fun k=>k=g) ho (w':=W.setCell ⟨g,6,none⟩ (.slice A' (x.values.length+1) c')) (fS (Ext.refl W)) (fun b hb e=>by have:=hge b hb;have:=h.b11.lt;omega);rw [e] at hb hF k ho' hge ⊢;have hi':=bW.of_own ho' ((hrl.carry (Q:=SpP w0 P v g8 g9 g) (aB.of_fr hF (fun b hb e=>hb.2.2.2.1 e)) (fun _ _ h=>h)).append (RVs.one (RV.mk_iff.2 ⟨aj,hz,bo,_,rfl,bW.nil⟩))) aa (fun b hb=>h.new (hge b hb));refine hR a' _ { x with values:=x.values ++ [(GV.mk 0 z ⟨#[]⟩ [])] } { y with vA:=A',vc:=c' } (hs.ag.trans (g'.mono rfl)) (h.fr hF hb ⟨k.kind,k.name,k.lo,k.hi,k.weights,k.labels,hi',k.kids,k.value⟩) ?_ ⟨U,.inl rfl⟩
 ·have q:=hS.n
  exact ⟨q.1,q.2.1,aa,q.2.2.2.1,q.2.2.2.2.1,fun u hu=>by
   rcases List.mem_append.1 hu with hu | hu
   ·exact hS.mvs u hu
   ·rw [List.mem_singleton.1 hu];simp [gsz,jD]⟩
theorem aUv (hs:SpS a0 a z hw g)(h:SpA w0 P v n xs g8 g9 g x y w)(hS:fH x)(hz:I64 z)(hR:∀ a' w' x' y',Ag [8,9,10,11] a0 a'->SpA w0 P v n xs g8 g9 g x' y' w'->dG x'->Sp1 x x'->R .normal a' w'):Code.wp Tryz.prog aDq R a w:=by
 have hp:=fK (n:=z) (m:=5) D;refine aHf hs.sz hs.e3 hs.e11 h.b11 rfl rfl rfl rfl ((eN z 5 w hz D D).mono (fun _ _ q=>⟨q.1,q.2.symm⟩)) ?_;intro a' g';have hF:Fr (fun k=>k=g) w (w.setCells g 8 [.int .i64 (fD z 5),.int .i64 z,.string ⟨#[]⟩,.slice none 0 0]):=Fr.setCells (M:=fun k=>k=g) _ 8 (Fr.refl _ w) (.inl rfl);have k:=h.nk hF;refine hR a' _ { x with value:=⟨fD z 5,z,⟨#[]⟩,[]⟩ } { y with xA:=none,xc:=0 } (hs.ag.trans g') (h.fr hF (aO (cs:=aE x y) _ 8 h.b11 U) ⟨k.kind,k.name,k.lo,k.hi,k.weights,k.labels,k.values,k.kids,⟨by unfold I64;show _<=fD z 5∧fD z 5<=_;omega,hz,bo,Nat.zero_le _,⟨Nat.zero_le _,Nat.zero_le _⟩,bW.nil⟩⟩) ?_ ⟨U,.inl rfl⟩;have q:=hS.n;exact ⟨q.1,q.2.1,q.2.2.1,q.2.2.2.1,cu,hS.mvs⟩
theorem aYe (hs:SpS a0 a z hw g)(h:SpA w0 P v n xs g8 g9 g x y w)(hS:fH x)(hz:I64 z)(hR:∀ a' w' x' y',Ag [8,9,10,11] a0 a'->SpA w0 P v n xs g8 g9 g x' y' w'->dG x'->Sp1 x x'->R .normal a' w')(hpos:0<x.weights.length):Code.wp Tryz.prog (.seq aOm aD1) R a w:=by
 obtain ⟨A0,c0,e0,-,-,hi,hsl⟩:=h.nat.weights;injection e0 with e1 _ e2;have hsl':Sl w (SpP w0 P v g8 g9 g) 1 y.wA x.weights.length (x.weights.map (Value.int .i64)):=by rw [e1];exact hsl
 refine wp_seq (aNj hs.sz hs.e3 hs.e11 h.b11 rfl hsl' (fun u hu=>by obtain ⟨q,_,rfl⟩:=List.mem_map.1 hu;rfl) (by have:=hS.mw;omega) ?_);intro a1 v1 W g1 ho hX;obtain ⟨A1,c1,rfl,-,-,-⟩:=Sl.of_own ho
 obtain ⟨G,rfl⟩:∃ G,A1=some ⟨G,0,none⟩:=by
  rcases ho.2 with ⟨_,e⟩ | ⟨G,cap,cur,e,-⟩
  ·omega
  ·injection e with e
   exact ⟨G,e⟩
 obtain ⟨⟨cur,hBG⟩,hG,u,hu⟩:=lJ hpos ho;have hgG:g ≠ G:=by have:=h.b11.lt;omega
 have hb:=(h.b11.ext hX).set_ 4 (.slice (some ⟨G,0,none⟩) x.weights.length c1);have hBG1:=hBG.far (p:=⟨g,4,none⟩) (Ne.symm hgG) (.slice (some ⟨G,0,none⟩) x.weights.length c1);have ho1:=iF (M:=fun k=>k=g) ho (w':=W.setCell ⟨g,4,none⟩ (.slice (some ⟨G,0,none⟩) x.weights.length c1)) (fS (Ext.refl W)) (fun b hb e=>by simp [Value.ownBlock] at hb;omega);have hF1:Fr (fun k=>k=g) w (W.setCell ⟨g,4,none⟩ (.slice (some ⟨G,0,none⟩) x.weights.length c1)):=fS hX;obtain ⟨-,-,u1,hu1⟩:=lJ hpos ho1;generalize W.setCell ⟨g,4,none⟩ (.slice (some ⟨G,0,none⟩) x.weights.length c1)=W1 at *;refine aH0 (g1.sz.trans hs.sz) (g1.get 3 hs.e3) (g1.get 11 hs.e11) (hb.cell' 4 rfl) hpos hu1 (hBG1.frozen 0) ?_;intro a2 g2;have hF:Fr (fun k=>k=g) w (W1.setCell ⟨G,0,none⟩ (↑z)):=hF1.setCell (p:=⟨G,0,none⟩) (.inr hG) _;have k:=h.nk hF;have ho2:=zQ (z:=z) ho1;obtain ⟨A3,c3,e3,r1,r2,r3⟩:=Sl.of_own ho2;injection e3 with e4 _ e5;subst e4 e5;unfold maxLen at r2;have hl:(x.weights.set 0 z).length=x.weights.length:=by simp
 have hm:=hS.mw
 have hi':bM (W1.setCell ⟨G,0,none⟩ (↑z)) (SpP w0 P v g8 g9 g) (.slice (some ⟨G,0,none⟩) (x.weights.set 0 z).length c1) (x.weights.set 0 z):=by
  refine ⟨some ⟨G,0,none⟩,c1,rfl,by rw [hl];exact r1,⟨by rw [hl];omega,r2⟩,fun q hq=>?_,dx⟩;rcases List.mem_or_eq_of_mem_set hq with hq | rfl
  ·exact hi q hq
  ·exact hz
 refine hR a2 _ { x with weights:=x.weights.set 0 z } { y with wA:=some ⟨G,0,none⟩,wc:=c1 } (hs.ag.trans ((g1.mono rfl).trans g2)) (h.fr hF ?_ ⟨k.kind,k.name,k.lo,k.hi,hi',k.labels,k.values,k.kids,k.value⟩) ?_ ⟨U,.inl rfl⟩
 ·have q:=hb.far (p:=⟨G,0,none⟩) hgG (↑z)
  rw [<- hl] at q;exact q
 ·have q:=hS.n
  exact ⟨by rw [hl];exact q.1,q.2⟩
theorem aU4 (hs:SpS a0 a z hw g)(h:SpA w0 P v n xs g8 g9 g x y w)(hS:fH x)(hz:I64 z)(hR:∀ a' w' x' y',Ag [8,9,10,11] a0 a'->SpA w0 P v n xs g8 g9 g x' y' w'->dG x'->Sp1 x x'->R .normal a' w')(hpos:0<x.kids.length):Code.wp Tryz.prog (.seq aD0 aDz) R a w:=by
 obtain ⟨A0,c0,e0,-,-,hi,hsl⟩:=h.nat.kids;injection e0 with e1 _ e2;have hsl':Sl w (SpP w0 P v g8 g9 g) 1 y.kA x.kids.length (x.kids.map (Value.int .i64)):=by rw [e1];exact hsl
 refine wp_seq (aHy hs.sz hs.e3 hs.e11 h.b11 rfl hsl' (fun u hu=>by obtain ⟨q,_,rfl⟩:=List.mem_map.1 hu;rfl) (by have:=hS.mj;omega) ?_);intro a1 v1 W g1 ho hX;obtain ⟨A1,c1,rfl,-,-,-⟩:=Sl.of_own ho
 obtain ⟨G,rfl⟩:∃ G,A1=some ⟨G,0,none⟩:=by
  rcases ho.2 with ⟨_,e⟩ | ⟨G,cap,cur,e,-⟩
  ·omega
  ·injection e with e
   exact ⟨G,e⟩
 obtain ⟨⟨cur,hBG⟩,hG,u,hu⟩:=lJ hpos ho;have hgG:g ≠ G:=by have:=h.b11.lt;omega
 have hb:=(h.b11.ext hX).set_ 7 (.slice (some ⟨G,0,none⟩) x.kids.length c1);have hBG1:=hBG.far (p:=⟨g,7,none⟩) (Ne.symm hgG) (.slice (some ⟨G,0,none⟩) x.kids.length c1);have ho1:=iF (M:=fun k=>k=g) ho (w':=W.setCell ⟨g,7,none⟩ (.slice (some ⟨G,0,none⟩) x.kids.length c1)) (fS (Ext.refl W)) (fun b hb e=>by simp [Value.ownBlock] at hb;omega);have hF1:Fr (fun k=>k=g) w (W.setCell ⟨g,7,none⟩ (.slice (some ⟨G,0,none⟩) x.kids.length c1)):=fS hX;obtain ⟨-,-,u1,hu1⟩:=lJ hpos ho1;generalize W.setCell ⟨g,7,none⟩ (.slice (some ⟨G,0,none⟩) x.kids.length c1)=W1 at *;refine aHx (g1.sz.trans hs.sz) (g1.get 3 hs.e3) (g1.get 11 hs.e11) (hb.cell' 7 rfl) hpos hu1 (hBG1.frozen 0) ?_;intro a2 g2;have hF:Fr (fun k=>k=g) w (W1.setCell ⟨G,0,none⟩ (↑z)):=hF1.setCell (p:=⟨G,0,none⟩) (.inr hG) _;have k:=h.nk hF;have ho2:=zQ (z:=z) ho1;obtain ⟨A3,c3,e3,r1,r2,r3⟩:=Sl.of_own ho2;injection e3 with e4 _ e5;subst e4 e5;unfold maxLen at r2;have hl:(x.kids.set 0 z).length=x.kids.length:=by simp
 have hm:=hS.mj
 have hi':bM (W1.setCell ⟨G,0,none⟩ (↑z)) (SpP w0 P v g8 g9 g) (.slice (some ⟨G,0,none⟩) (x.kids.set 0 z).length c1) (x.kids.set 0 z):=by
  refine ⟨some ⟨G,0,none⟩,c1,rfl,by rw [hl];exact r1,⟨by rw [hl];omega,r2⟩,fun q hq=>?_,dx⟩;rcases List.mem_or_eq_of_mem_set hq with hq | rfl
  ·exact hi q hq
  ·exact hz
 refine hR a2 _ { x with kids:=x.kids.set 0 z } { y with kA:=some ⟨G,0,none⟩,kc:=c1 } (hs.ag.trans ((g1.mono rfl).trans g2)) (h.fr hF ?_ ⟨k.kind,k.name,k.lo,k.hi,k.weights,k.labels,k.values,hi',k.value⟩) ?_ ⟨U,.inl rfl⟩
 ·have q:=hb.far (p:=⟨G,0,none⟩) hgG (↑z)
  rw [<- hl] at q;exact q
 ·have q:=hS.n
  exact ⟨q.1,q.2.1,q.2.2.1,by rw [hl];exact q.2.2.2.1,q.2.2.2.2⟩
end
noncomputable abbrev aXy:Code:=.seq aJ8 (.cond (.tmp 62) aDy (.seq aJ7 (.cond (.tmp 66) aDx (.seq aJ6 (.cond (.tmp 70) aDw (.seq aJ5 (.cond (.tmp 74) aDv (.seq aJ4 (.cond (.tmp 84) aDu (.seq aJ3 (.cond (.tmp 94) aDt (.seq aJ2 (.cond (.tmp 102) aDs (.seq aJ1 (.cond (.tmp 111) aDr (.seq aJ0 (.cond (.tmp 122) aDq (.seq aRz (.cond (.tmp 39) (.seq aOm aD1) (.seq aJ9 (.cond (.tmp 52) (.seq aD0 aDz) .skip)))))))))))))))))))))
noncomputable abbrev aK7:Code:=.seq aR7 (.seq aR6 (.seq aR5 (.seq (.seq aR4 (.cond (.tmp 22) (.seq aR3 .ret) .skip)) (.seq aR2 (.seq aR1 (.seq (.seq aR0 (.block 0 aXy)) (.seq aJz (.seq aJy .ret))))))))
theorem aTy:Tryz.f21.body=some aK7:=Y
section
variable {w0:World}{P:Nat->Prop}{v:Value}{n:Nat}{xs:List Value}{g8 g9 g:Nat}{x:GN}{y:NA}{w:World}{a0 a:Act}{z hw:Int}{R:Exit->Act->World->Prop}
theorem aUu (hs:SpS a0 a z hw g)(h:SpA w0 P v n xs g8 g9 g x y w)(hS:fH x)(hz:I64 z)(hR:∀ a' w' x' y',Ag [8,9,10,11] a0 a'->SpA w0 P v n xs g8 g9 g x' y' w'->dG x'->Sp1 x x'->R .normal a' w'):Code.wp Tryz.prog aXy R a w:=by
 refine wp_seq (aHw hs.sz hs.e35 ?_);intro a1 g1 e1;have hs:=hs.go g1;clear g1
 by_cases hk:hw=0
 ·exact wp_cond_true (e1.trans eu) (aU3 hs h hS hz hR)
 refine wp_cond_false (e1.trans ex) ?_;clear e1 hk;refine wp_seq (aHu hs.sz hs.e35 ?_);intro a1 g1 e1;have hs:=hs.go g1;clear g1
 by_cases hk:hw=1
 ·exact wp_cond_true (e1.trans eu) (aU2 hs h hS hz hR)
 refine wp_cond_false (e1.trans ex) ?_;clear e1 hk;refine wp_seq (aHs hs.sz hs.e35 ?_);intro a1 g1 e1;have hs:=hs.go g1;clear g1
 by_cases hk:hw=2
 ·exact wp_cond_true (e1.trans eu) (aU1 hs h hS hz hR)
 refine wp_cond_false (e1.trans ex) ?_;clear e1 hk;refine wp_seq (aHq hs.sz hs.e35 ?_);intro a1 g1 e1;have hs:=hs.go g1;clear g1
 by_cases hk:hw=3
 ·exact wp_cond_true (e1.trans eu) (aU0 hs h hS hz hR)
 refine wp_cond_false (e1.trans ex) ?_;clear e1 hk;refine wp_seq (aHo hs.sz hs.e35 ?_);intro a1 g1 e1;have hs:=hs.go g1;clear g1
 by_cases hk:hw=4
 ·exact wp_cond_true (e1.trans eu) (aUz hs h hS hz hR)
 refine wp_cond_false (e1.trans ex) ?_;clear e1 hk;refine wp_seq (aHm hs.sz hs.e35 ?_);intro a1 g1 e1;have hs:=hs.go g1;clear g1
 by_cases hk:hw=5
 ·exact wp_cond_true (e1.trans eu) (aUy hs h hS hz hR)
 refine wp_cond_false (e1.trans ex) ?_;clear e1 hk;refine wp_seq (aHk hs.sz hs.e35 ?_);intro a1 g1 e1;have hs:=hs.go g1;clear g1
 by_cases hk:hw=6
 ·exact wp_cond_true (e1.trans eu) (aUx hs h hS hz hR)
 refine wp_cond_false (e1.trans ex) ?_;clear e1 hk;refine wp_seq (aHi hs.sz hs.e35 ?_);intro a1 g1 e1;have hs:=hs.go g1;clear g1
 by_cases hk:hw=7
 ·exact wp_cond_true (e1.trans eu) (aUw hs h hS hz hR)
 refine wp_cond_false (e1.trans ex) ?_;clear e1 hk;refine wp_seq (aHg hs.sz hs.e35 ?_);intro a1 g1 e1;have hs:=hs.go g1;clear g1
 by_cases hk:hw=8
 ·exact wp_cond_true (e1.trans eu) (aUv hs h hS hz hR)
 refine wp_cond_false (e1.trans ex) ?_;clear e1 hk;refine wp_seq (aNk hs.sz hs.e11 (h.b11.cell' 4 rfl) ?_);intro a1 g1 e1;have hs:=hs.go g1
 by_cases hk:0<x.weights.length
 ·exact wp_cond_true (e1.trans (by rw [aZy hk])) (aYe hs h hS hz hR hk)
 refine wp_cond_false (e1.trans (by rw [aZz hk])) ?_;refine wp_seq (aHz hs.sz hs.e11 (h.b11.cell' 7 rfl) ?_);intro a2 g2 e2;have hs:=hs.go g2
 by_cases hj:0<x.kids.length
 ·exact wp_cond_true (e2.trans (by rw [aZy hj])) (aU4 hs h hS hz hR hj)
 exact wp_cond_false (e2.trans (by rw [aZz hj])) (wp_skip (hR a2 w x y hs.ag h hS.n ⟨Nat.le_succ _,.inl rfl⟩))
end
theorem aGm {α:Type}{cur us:List α}{m q:Nat}(h1:q+us.length<=m)(h2:m<=cur.length):(cur.take q ++ us ++ cur.drop (q+us.length)).take m=(cur.take m).take q ++ us ++ (cur.take m).drop (q+us.length):=by
 have hl:(cur.take q ++ us).length=q+us.length:=ed
 rw [List.take_append,List.take_of_length_le D,hl,List.drop_take,List.take_take,Nat.min_eq_left D]
theorem aOq {W:World}{B G n c k:Nat}{xs us:List Value}(ho:W.ownsRow B 87 12 (.slice (some ⟨G,0,none⟩) n c) n xs)(hk:k<n)(hu:us.length=12):(W.setCells G (k*12) us).ownsRow B 87 12 (.slice (some ⟨G,0,none⟩) n c) n (xs.take (k*12) ++ us ++ xs.drop ((k+1)*12)):=by
 obtain ⟨hl,⟨e,_⟩ | ⟨G',cap,cur,e,hb,hB,hn,hm,hs,ht⟩⟩:=ho
 ·cases e
 ·injection e with e1 _ e3
  injection e1 with e1;injection e1 with e1;subst e1 e3;have h1:(k+1)*12<=n*12:=Nat.mul_le_mul_right _ hk;have h2:n*12<=c*12:=Nat.mul_le_mul_right _ hn;have hcl:cur.toList.length=c*12:=by simpa using hs
  have q:=aO us (w:=W) (cs:=cur.toList) (g:=G) (t:=87) (k*12) hB D;refine ⟨?_,.inr ⟨G,c,_,rfl,hb,q,hn,hm,?_,?_⟩⟩
  ·simp only [List.length_append,List.length_take,List.length_drop]
   omega
  ·simp only [List.size_toArray,List.length_append,List.length_take,List.length_drop]
   omega
  ·rw [<- ht,show (k+1)*12=k*12+us.length by omega]
   exact aGm D D
theorem RL.mid {R:GN->List Value->Prop}(hR:∀ x cs,R x cs->cs.length=12){t:List GN}{css us:List Value}{x:GN}{k:Nat}(h:RL R t css)(hx:R x us)(hk:k<t.length):RL R (t.set k x) (css.take (k*12) ++ us ++ css.drop ((k+1)*12)):=by
 rw [List.set_eq_take_append_cons_drop,if_pos hk,List.append_assoc];exact (h.take hR k).append ((RL.one hx).append (h.drop hR (k+1)))
def qB (t:List GN)(P:Nat->Prop)(w:World)(e:Ending)(w':World):Prop:=∃ A c s,e=.returned (.agg #[.slice A s.length c])∧Nds w' (fun b=>P b∨w.heap.size<=b) (.slice A s.length c) s∧(∀ x ∈ s,dG x)∧Ext w w'∧(s=t∨∃ k x',k<t.length∧s=t.set k x'∧Sp1 (t.getD k default) x')
section
variable {P:Nat->Prop}{t:List GN}{w:World}{a:Act}{vn:Value}{at_ how z:Int}{R:Exit->Act->World->Prop}
theorem aKr {W:World}{B G n c k:Nat}{css:List Value}(ho:W.ownsRow B 87 12 (.slice (some ⟨G,0,none⟩) n c) n css)(hk:k<n){j:Nat}{u:Value}(hj:j<12)(hu:((css.drop (k*12)).take 12)[j]?=some u):W.cell? ⟨G,k*12+j,none⟩=some u:=by
 have h1:(k+1)*12<=n*12:=Nat.mul_le_mul_right _ hk;rw [ho.cellAt (k*12+j) D,<- hu,List.getElem?_take,if_pos hj,List.getElem?_drop]
theorem aCu (hP:∀ k,P k->k<w.heap.size)(ht:Nds w P vn t)(hlen:t.length<=1000)(hsm:∀ x ∈ t,fH x)(h1:I64 at_)(h2:I64 how)(hz:I64 z)
  (hsz:a.tmps.size=135)(e0:Ev a (.tmp 0)=.agg #[vn])(e1:Ev a (.tmp 1)=↑at_)(e2:Ev a (.tmp 2)=↑how)(e3:Ev a (.tmp 3)=↑z)
  (hR:∀ a' w' v,a'.defers=a.defers->Ev a' (.tmp 8)=.pointer (some ⟨w.heap.size+1,0,none⟩)->w'.cell? ⟨w.heap.size+1,0,none⟩=some v->qB t P w (.returned (.agg #[v])) w'->R .ret a' w'):Code.wp Tryz.prog aK7 R a w:=by
 obtain ⟨An,cn,css,rfl,-,-,hsl,hrl⟩:=ht;refine wp_seq (aNs hsz e0 ?_);intro a1 g1 e4 e8;have hb4:=(Blk.new w 25 #[.slice An t.length cn]).alloc (.cells #[.slice none 0 0] 25);have hb8:=Blk.new' (w.alloc (.cells #[.slice An t.length cn] 25)) 25 #[.slice none 0 0] (g:=w.heap.size+1) U;have hx1:Ext w ((w.alloc (.cells #[.slice An t.length cn] 25)).alloc (.cells #[.slice none 0 0] 25)):=((Ext.refl w).alloc' _).alloc' _;generalize (w.alloc (.cells #[.slice An t.length cn] 25)).alloc (.cells #[.slice none 0 0] 25)=W1 at *;have z1:=g1.sz.trans hsz;refine wp_seq (aNr z1 ?_);intro a2 W2 g2 e9 hb9 hx2;have z2:=g2.sz.trans z1;have l8:=hb8.lt;have hE2:=hx1.trans' hx2;refine wp_seq (aNq z2 (g2.get 4 e4) e9 ((hb4.ext hx2).cell' 0 rfl) hb9 (hsl.keep (aB.of_ext hE2) (fun _ h=>h)) D (RN.one hrl) ?_);intro a3 v W3 ho3 hx3 g3;have z3:=g3.sz.trans z2;have l9:=hb9.lt;have q9:Blk (W3.setCell ⟨W1.heap.size,0,none⟩ v) W1.heap.size 25 #[v]:=(hb9.ext hx3).set_ 0 v;have hge:=fun b hb=>ho3.block_ge (b:=b) hb
 have ho:=iF (M:=fun k=>k=W1.heap.size) ho3 (fS (Ext.refl W3) (g:=W1.heap.size) (o:=0) (u:=v)) (fun b hb e=>by have:=hge b hb;omega);have q8:=((hb8.ext hx2).ext hx3).far (p:=⟨W1.heap.size,0,none⟩) (by show w.heap.size+1 ≠ W1.heap.size;omega) v;have hE3:Ext w (W3.setCell ⟨W1.heap.size,0,none⟩ v):=((Fr.of_ext (hE2.trans' hx3)).setCell (M:=fun _=>False) (p:=⟨W1.heap.size,0,none⟩) (.inr hx1.size) v).ext;have hsW:=hx1.size;have hs2:=hx2.size;have hs3:W3.heap.size=(W3.setCell ⟨W1.heap.size,0,none⟩ v).heap.size:=by simp [World.setCell]
 have hs4:=hx3.size;generalize W3.setCell ⟨W1.heap.size,0,none⟩ v=W at *;have ho:W.ownsRow w.heap.size 87 12 v t.length css:=⟨ho.1,ho.2.imp id (fun ⟨G,cap,cur,q1,q2,q3⟩=>⟨G,cap,cur,q1,D,q3⟩)⟩;obtain ⟨A,c,rfl,-,-,-⟩:=Sl.of_own ho;have f8:=g3.get 8 (g2.get 8 e8);have f9:=g3.get 9 e9;refine wp_seq (wp_seq (aNp z3 f9 (q9.cell' 0 rfl) ?_));intro a4 g4 e22;have z4:=g4.sz.trans z3;have d4:a4.defers=a.defers:=g4.df.trans (g3.df.trans (g2.df.trans g1.df))
 by_cases h0:t.length=0
 ·refine wp_cond_true (e22.trans (by rw [h0];rfl)) (wp_seq (aNo z4 (g4.get 8 f8) (g4.get 9 f9) (q9.cell' 0 rfl) q8 ?_))
  intro a5 g5;have hE5:Ext w (W.setCell ⟨w.heap.size+1,0,none⟩ (.slice A t.length c)):=((Fr.of_ext hE3).setCell (M:=fun _=>False) (p:=⟨w.heap.size+1,0,none⟩) (.inr (Nat.le_succ _)) _).ext;refine wp_ret (hR a5 _ (.slice A t.length c) (g5.df.trans d4) (g5.get 8 (g4.get 8 f8)) ((q8.set_ 0 _).cell' 0 rfl) ⟨A,c,t,rfl,?_,fun x hx=>(hsm x hx).n,hE5,.inl rfl⟩);refine Lst.of_own (iF (M:=fun k=>k=w.heap.size+1) ho (fS (Ext.refl W)) (fun b hb e=>?_)) (hrl.move pO (aB.of_ext hE5) (fun _ _ h=>.inl h)) D (fun b hb=>.inr (ho.block_ge hb));have:=hge b hb;omega
 refine wp_cond_false (e22.trans (by rw [aZw D])) (wp_skip ?_);have hp:=fK (n:=at_) (m:=(t.length:Int)) D;refine wp_seq (aNn z4 (g4.get 1 (g3.get 1 (g2.get 1 (g1.get 1 e1)))) (g4.get 9 f9) (q9.cell' 0 rfl) ((eN at_ t.length W h1 D D).mono (fun _ _ q=>⟨q.1,q.2.symm⟩)) ?_);intro a5 g5 e10;have z5:=g5.sz.trans z4;obtain ⟨k,hk⟩:∃ k:Nat,fD at_ t.length=(k:Int):=⟨(fD at_ t.length).toNat,D⟩;rw [hk] at e10 hp;have hkt:k<t.length:=by omega
 obtain ⟨G,rfl⟩:∃ G,A=some ⟨G,0,none⟩:=by
  rcases ho.2 with ⟨_,e⟩ | ⟨G,cap,cur,e,-⟩
  ·omega
  ·injection e with e
   exact ⟨G,e⟩
 have hG:W2.heap.size<=G:=hge G rfl;obtain ⟨y,hy,hny⟩:=RL.get (pO.len w P) hrl default hkt;have hxm:fH (t.getD k default):=hsm _ (aD hkt);generalize hxx:t.getD k default=x at *;refine wp_seq (aNm z5 (g5.get 9 (g4.get 9 f9)) e10 (q9.cell' 0 rfl) hkt (x:=x) (y:=y) (fun j u hu=>aKr ho hkt (by have:=(List.getElem?_eq_some_iff.1 hu).1;simpa using this) (by rw [hy];exact hu)) ?_);intro a6 W6 g6 e11 hb11 hx6;have z6:=g6.sz.trans z5;have hE6:=hE3.trans' hx6;have hlG:G<W.heap.size:=ho.block_lt rfl
 have hA:SpA w P (.slice (some ⟨G,0,none⟩) t.length c) t.length css (w.heap.size+1) W1.heap.size W.heap.size x y W6:=by
  refine ⟨hE6,q8.ext hx6,q9.ext hx6,hb11,ho.ext_ hx6,hny.keep (aB.of_ext hE6) (fun b hb=>⟨.inl hb,?_,?_,?_,?_⟩),⟨Nat.le_succ _,hsW,hE3.size⟩,⟨?_,?_,?_⟩,⟨?_,?_,?_⟩⟩
  ·have:=hP b hb;omega
  ·have:=hP b hb;omega
  ·have:=hP b hb;have:=hE3.size;omega
  ·intro e;have:=hP b hb;simp [Value.ownBlock] at e;omega
  ·omega
  ·omega
  ·omega
  ·intro e;simp [Value.ownBlock] at e;omega
  ·intro e;simp [Value.ownBlock] at e;omega
  ·intro e;simp [Value.ownBlock] at e;omega
 refine wp_seq (wp_seq (aNl z6 (g6.get 2 (g5.get 2 (g4.get 2 (g3.get 2 (g2.get 2 (g1.get 2 e2)))))) ((eN how 10 W6 h2 D D).mono (fun _ _ q=>⟨q.1,q.2.symm⟩)) ?_));intro a7 g7 e35;have z7:=g7.sz.trans z6;refine wp_block (aUu (a0:=a7) ⟨z7,g7.get 3 (g6.get 3 (g5.get 3 (g4.get 3 (g3.get 3 (g2.get 3 (g1.get 3 e3)))))),g7.get 11 e11,e35,.rf⟩ hA hxm hz ?_);intro a8 W8 x' y' g8 hA' hxs hsp;have z8:=g8.sz.trans z7
 obtain ⟨cur,hBG⟩:∃ cur,Blk W8 G 87 cur:=by
  obtain ⟨-,⟨e,_⟩ | ⟨G',cap,cur,e,hb,hB,-⟩⟩:=hA'.own
  ·cases e
  ·injection e with e
   injection e with e;injection e with e;subst e;exact ⟨cur,hB⟩
 have hcl:css.length=t.length*12:=hA'.own.1;have hk12:(k+1)*12<=t.length*12:=Nat.mul_le_mul_right _ hkt;refine wp_seq (aHe (x:=x') (y:=y') z8 (g8.get 9 (g7.get 9 (g6.get 9 (g5.get 9 (g4.get 9 f9))))) (g8.get 10 (g7.get 10 (g6.get 10 e10))) (g8.get 11 (g7.get 11 e11)) (hA'.b9.cell' 0 rfl) hkt hA'.b11 (fun j hj=>⟨_,aKr hA'.own hkt hj (by rw [List.getElem?_take,if_pos hj,List.getElem?_drop];exact List.getElem?_eq_getElem D)⟩) hBG.frozen ?_);intro a9 g9;have z9:=g9.sz.trans z8;have hn8:W1.heap.size ≠ G:=by omega
 have hn9:w.heap.size+1 ≠ G:=D
 have r9:=hA'.b9.farCells hn8 (aE x' y') (k*12);have r8:=hA'.b8.farCells hn9 (aE x' y') (k*12);have ho9:=aOq (us:=aE x' y') hA'.own hkt rfl;have hF9:Fr (fun b=>b=G) W8 (W8.setCells G (k*12) (aE x' y')):=Fr.setCells (M:=fun b=>b=G) _ _ (Fr.refl _ W8) (.inl rfl);generalize W8.setCells G (k*12) (aE x' y')=W9 at *;refine wp_seq (aHd z9 (g9.get 8 (g8.get 8 (g7.get 8 (g6.get 8 (g5.get 8 (g4.get 8 f8)))))) (g9.get 9 (g8.get 9 (g7.get 9 (g6.get 9 (g5.get 9 (g4.get 9 f9)))))) (r9.cell' 0 rfl) r8 ?_);intro a10 g10;have hF10:Fr (fun b=>b=w.heap.size+1) W9 (W9.setCell ⟨w.heap.size+1,0,none⟩ (.slice (some ⟨G,0,none⟩) t.length c)):=fS (Ext.refl W9);have hEF:Ext w (W9.setCell ⟨w.heap.size+1,0,none⟩ (.slice (some ⟨G,0,none⟩) t.length c)):=((Fr.of_ext hA'.ext).trans ((hF9.mono (N:=fun b=>w.heap.size<=b) (fun b hb=>by omega)).trans (hF10.mono (fun b hb=>by omega)))).new_ext (fun _ h=>h);have hlt:(t.set k x').length=t.length:=by simp
 refine wp_ret (hR a10 _ (.slice (some ⟨G,0,none⟩) t.length c) (g10.df.trans (g9.df.trans (g8.df.trans (g7.df.trans (g6.df.trans (g5.df.trans d4)))))) (g10.get 8 (g9.get 8 (g8.get 8 (g7.get 8 (g6.get 8 (g5.get 8 (g4.get 8 f8))))))) ((r8.set_ 0 _).cell' 0 rfl) ⟨some ⟨G,0,none⟩,c,t.set k x',by rw [hlt],?_,fun u hu=>?_,hEF,.inr ⟨k,x',hkt,rfl,by rw [hxx];exact hsp⟩⟩)
 ·rw [hlt]
  have hoF:=iF (M:=fun b=>b=w.heap.size+1) ho9 hF10 (fun b hb e=>by simp [Value.ownBlock] at hb;omega);refine Lst.of_own (hoF.len_cast hlt.symm rfl) (RL.mid (pO.len _ _) (hrl.move pO (aB.of_ext hEF) (fun _ _ h=>.inl h)) ⟨y',rfl,?_⟩ hkt) D (fun b hb=>.inr (ho9.block_ge hb));have h5:aB (SpP w P (.slice (some ⟨G,0,none⟩) t.length c) (w.heap.size+1) W1.heap.size W.heap.size) W8 W9:=aB.of_fr hF9 (fun b hb e=>hb.2.2.2.2 er);have h6:NAt W9 (SpP w P (.slice (some ⟨G,0,none⟩) t.length c) (w.heap.size+1) W1.heap.size W.heap.size) x' y':=hA'.nat.keep h5 (fun _ h=>h);exact h6.keep (aB.of_fr hF10 (fun b hb e=>hb.2.1 e)) (fun b hb=>hb.1)
 ·rcases List.mem_or_eq_of_mem_set hu with hu | rfl
  ·exact (hsm u hu).n
  ·exact hxs
theorem aBc (hP:∀ k,P k->k<w.heap.size)(ht:Nds w P vn t)(hlen:t.length<=1000)(hsm:∀ x ∈ t,fH x)(h1:I64 at_)(h2:I64 how)(hz:I64 z):Calls Tryz.prog 21 #[.agg #[vn],↑at_,↑how,↑z] w (qB t P w):=by
 refine calls_of_wp Tryz.func21 aTy (aCu hP ht hlen hsm h1 h2 hz ?_ ?_ ?_ ?_ ?_ ?_)
 ·simp [Tryz.ntmps21]
 ·simp [Ev,Act.eval]
 ·simp [Ev,Act.eval]
 ·simp [Ev,Act.eval]
 ·simp [Ev,Act.eval]
 ·intro a' w' v q1 q2 q3 q4
  refine bodyPost_ret (v:=.agg #[v]) ?_ q1 q4;have h5:a'.tmps[8]?.getD undef=.pointer (some ⟨w.heap.size+1,0,none⟩):=by rw [<- q2];simp [Ev,Act.eval]
  simp [results,Tryz.results21,go_sem,h5,q3]
end
end Go.Proofs.YtkoeecdjijfjnaaGreat
