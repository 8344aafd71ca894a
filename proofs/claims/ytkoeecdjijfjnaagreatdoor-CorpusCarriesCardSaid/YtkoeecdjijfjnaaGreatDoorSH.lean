/- Contracts and laws. Conditions: none. -/
import Derived.Test.YtkoeecdjijfjnaaGreatDoorTR
set_option linter.all false
set_option maxRecDepth 100000
set_option maxHeartbeats 8000000
namespace Go.Proofs.YtkoeecdjijfjnaaGreatDoor
open Go.RowKit
noncomputable def wt:=RG Tryz.f8 0
noncomputable def yr:=RG Tryz.f8 1
noncomputable def Be:=RG Tryz.f8 2
noncomputable def tt:=RG Tryz.f8 3
noncomputable def wi:=RG Tryz.f8 4
noncomputable def uv:=RG Tryz.f8 5
noncomputable def sk:=RG Tryz.f8 6
noncomputable def vw:=RG Tryz.f8 7
noncomputable def BG:=RG Tryz.f8 8
noncomputable def re:=RG Tryz.f8 9
noncomputable def pn:=RG Tryz.f8 10
noncomputable def sr:=RG Tryz.f8 11
noncomputable def pr:=RG Tryz.f8 12
noncomputable def rh:=RG Tryz.f8 13
noncomputable def BQ:=RG Tryz.f8 14
noncomputable def qf:=RG Tryz.f8 15
noncomputable def tw:=RG Tryz.f8 16
noncomputable def qb:=RG Tryz.f8 17
noncomputable def wj:=RG Tryz.f8 18
noncomputable def qo:=RG Tryz.f8 19
noncomputable def CI:=RG Tryz.f8 20
noncomputable def qj:=RG Tryz.f8 21
noncomputable def un:=RG Tryz.f8 22
noncomputable def ry:=RG Tryz.f8 23
noncomputable def AM:=RG Tryz.f8 24
noncomputable def po:=RG Tryz.f8 25
noncomputable def BY:=RG Tryz.f8 26
noncomputable def si:=RG Tryz.f8 27
noncomputable def At:=RG Tryz.f8 28
noncomputable def o8:=RG Tryz.f8 29
noncomputable def um:=RG Tryz.f8 30
noncomputable def rm:=RG Tryz.f8 31
noncomputable def Ao:=RG Tryz.f8 32
noncomputable def Bl:=RG Tryz.f8 33
section
variable {Q:Exit->Act->World->Prop}{a:Act}{w:World}{g g4 g8 g9:Nat}{z:Int}{v:Value}{k n c:Nat}{A:Option Addr}
theorem IP (hsz:a.tmps.size=135)(e0:qq a 0 (.agg #[v]))(h:∀ a',Ag [1,2,3] a a'->qq a' 4 (qp w)->qq a' 8 (qp (w+1))->Q .normal a' ((w.alloc (qk #[v] 25)).alloc (qk #[qn] 25))):qw wt Q a w:=by
 refine rW ?_;iterate 2 refine lV ?_
 exact aV (h _ O ba ba)
theorem EB (hsz:a.tmps.size=135)(h:∀ a' w',Ag [1,2,3,4,8] a a'->qq a' 9 (qp w)->Blk w' w 25 #[qn]->Ext w w'->Q .normal a' w'):qw yr Q a w:=by
 refine rW ?_;iterate 2 refine lV ?_
 have hB:=aw w 25 #[qn];have hX:Ext w (w.alloc (qk #[qn] 25)):=(aq w).alloc' _;generalize w.alloc (qk #[qn] 25)=W at *;refine l_s rfl rfl (by simp [execOp,go_sem,hB.cell,hB.frozen, *];rfl) ?_;exact aV (h _ _ O ba (hB.set_ 0 _) (hX.setCell' (p:=qp w) (ab _) _))
theorem Kg {xs:List Value}{S:Nat->Prop}(hsz:a.tmps.size=135)(e4:qq a 4 (qp g4))(e9:qq a 9 (qp g9))(c4:qc w g4 0 (.slice A n c))(hB:Blk w g9 25 #[qn])(hs:Sl w S 12 A n xs)(hn:n<=1000000000)(hone:∀ u ∈ xs,u.oneCell'=true)
  (h:∀ a' v5 w5,w5.ownsRow w 60 12 v5 n xs->Ext w w5->Ag [1,2,3,8,9] a a'->Q .normal a' (w5.setCell (qp g9) v5)):qw Be Q a w:=by
 refine rW ?_;have c9:=hB.cell' (u:=qn) 0 rfl;iterate 4 refine lV ?_
 refine l_a rfl rfl rfl Tryz.underlying23 Tryz.info60 rfl I (aT w w 60 12) hs ba cd hone I I (ab _) ?_;intro v5 w5 ho hf hb;have hX:Ext w w5:=Fr.none_ext hf;have hB5:=hB.ext hX;have q:=hB5.cell' (u:=qn) 0 rfl;have f:=hB5.frozen 0;obtain ⟨A5,c5,rfl,-,-,-⟩:=Sl.of_own ho;iterate 1 refine lV ?_
 refine l_s rfl rfl (by simp [execOp,go_sem, *];rfl) ?_;exact aV (h _ _ w5 (by simpa using ho) hX O)
theorem IZ (hsz:a.tmps.size=135)(e9:qq a 9 (qp g9))(c9:qc w g9 0 (.slice A n c))(h:∀ a',Ag [1,2,3,8,9] a a'->qq a' 22 ((n:Int) == 0)->Q .normal a' w):qw tt Q a w:=by
 refine rW ?_;iterate 4 refine lV ?_
 exact aV (h _ O ba)
theorem Jq (hsz:a.tmps.size=135)(e8:qq a 8 (qp g8))(e9:qq a 9 (qp g9))(c9:qc w g9 0 (.slice A n c))(hB:Blk w g8 25 #[qn])(h:∀ a',Ag [8] a a'->Q .normal a' (w.setCell (qp g8) (.slice A n c))):qw wi Q a w:=by
 refine rW ?_;iterate 1 refine lV ?_
 refine l_s rfl rfl (by simp [execOp,go_sem,hB.cell,hB.frozen, *];rfl) ?_;exact aV (h _ O)
theorem Gu (hsz:a.tmps.size=135)(e8:qq a 8 (qp g8))(e9:qq a 9 (qp g9))(c9:qc w g9 0 (.slice A n c))(hB:Blk w g8 25 #[qn])(h:∀ a',Ag [8] a a'->Q .normal a' (w.setCell (qp g8) (.slice A n c))):qw Bl Q a w:=by
 refine rW ?_;iterate 1 refine lV ?_
 refine l_s rfl rfl (by simp [execOp,go_sem,hB.cell,hB.frozen, *];rfl) ?_;exact aV (h _ O)
theorem Ly {p:Int}(hsz:a.tmps.size=135)(e1:qq a 1 z)(e9:qq a 9 (qp g9))(c9:qc w g9 0 (.slice A n c))(hc:Calls Tryz.prog 5 #[↑z,↑(n:Int)] w fun e w'=>e=.returned (↑p)∧w'=w)
  (h:∀ a',Ag [2,3,8,9] a a'->qq a' 10 p->Q .normal a' w):qw uv Q a w:=by
 refine rW ?_;iterate 4 refine lV ?_
 refine l_c rfl rfl rfl Tryz.func5 dd dd hc ba ?_;rintro e w' ⟨rfl,rfl⟩;refine ⟨_,rfl,?_⟩;iterate 1 refine lV ?_
 exact aV (h _ O ba)
theorem Km {G:Nat}{x:GN}{y:NA}(hsz:a.tmps.size=135)(e9:qq a 9 (qp g9))(e10:qq a 10 (k:Int))(c9:qc w g9 0 (.slice (qp G) n c))(hk:k<n)(hx:∀ j u,(aN x y)[j]?=some u->qc w G (k*12+j) u)
  (h:∀ a' w',Ag [2,3,8,9,10] a a'->qq a' 11 (qp w)->Blk w' w 60 (aN x y).toArray->Ext w w'->Q .normal a' w'):qw sk Q a w:=by
 have q0:=hx 0 _ rfl;have q1:=hx 1 _ rfl;have q2:=hx 2 _ rfl;have q3:=hx 3 _ rfl;have q4:=hx 4 _ rfl;have q5:=hx 5 _ rfl;have q6:=hx 6 _ rfl;have q7:=hx 7 _ rfl;have q8:=hx 8 _ rfl;have q9:=hx 9 _ rfl;have q10:=hx 10 _ rfl;have q11:=hx 11 _ rfl;rw [Nat.add_zero] at q0;clear hx;have hk':(k:Int)<(n:Int):=by omega
 refine rW ?_;iterate 6 refine lV ?_
 clear q0 q1 q2 q3 q4 q5 q6 q7 q8 q9 q10 q11;have hB:=aw w 60 #[qz,qe,qz,qz,qn,qn,qn,qn,qz,qz,qe,qn];have hX:Ext w (w.alloc (qk #[qz,qe,qz,qz,qn,qn,qn,qn,qz,qz,qe,qn] 60)):=(aq w).alloc' _;generalize w.alloc (qk #[qz,qe,qz,qz,qn,qn,qn,qn,qz,qz,qe,qn] 60)=W at *;refine l_s rfl rfl (by simp [execOp,go_sem,hB.cell,hB.frozen,hsz];rfl) ?_;refine aV (h _ _ O ba (aF (aN x y) (cs:=[qz,qe,qz,qz,qn,qn,qn,qn,qz,qz,qe,qn]) 0 hB U) ?_);exact ((ar (M:=fun _=>False) hX).setCells (aN x y) 0 (.inr (ab _))).ext
theorem Gx {p:Int}(hsz:a.tmps.size=135)(e2:qq a 2 z)(hc:Calls Tryz.prog 5 #[↑z,.int .i64 10] w fun e w'=>e=.returned (↑p)∧w'=w)
  (h:∀ a',Ag [3,8,9,10,11] a a'->qq a' 35 p->Q .normal a' w):qw vw Q a w:=by
 refine rW ?_;iterate 1 refine lV ?_
 refine l_c rfl rfl rfl Tryz.func5 dd dd hc ba ?_;rintro e w' ⟨rfl,rfl⟩;exact ⟨_,rfl,aV (h _ O ba)⟩
theorem Mz (hsz:a.tmps.size=135)(e35:qq a 35 z)(h:∀ a',Ag [3,8,9,10,11,35] a a'->qq a' 62 (z == 0)->Q .normal a' w):qw BQ Q a w:=by
 refine rW ?_;iterate 2 refine lV ?_
 exact aV (h _ O ba)
theorem Gb (hsz:a.tmps.size=135)(e35:qq a 35 z)(h:∀ a',Ag [3,8,9,10,11,35] a a'->qq a' 66 (z == 1)->Q .normal a' w):qw tw Q a w:=by
 refine rW ?_;iterate 2 refine lV ?_
 exact aV (h _ O ba)
theorem H8 (hsz:a.tmps.size=135)(e35:qq a 35 z)(h:∀ a',Ag [3,8,9,10,11,35] a a'->qq a' 70 (z == 2)->Q .normal a' w):qw wj Q a w:=by
 refine rW ?_;iterate 2 refine lV ?_
 exact aV (h _ O ba)
theorem Hl (hsz:a.tmps.size=135)(e35:qq a 35 z)(h:∀ a',Ag [3,8,9,10,11,35] a a'->qq a' 74 (z == 3)->Q .normal a' w):qw CI Q a w:=by
 refine rW ?_;iterate 2 refine lV ?_
 exact aV (h _ O ba)
theorem IM (hsz:a.tmps.size=135)(e35:qq a 35 z)(h:∀ a',Ag [3,8,9,10,11,35] a a'->qq a' 84 (z == 4)->Q .normal a' w):qw un Q a w:=by
 refine rW ?_;iterate 2 refine lV ?_
 exact aV (h _ O ba)
theorem Fg (hsz:a.tmps.size=135)(e35:qq a 35 z)(h:∀ a',Ag [3,8,9,10,11,35] a a'->qq a' 94 (z == 5)->Q .normal a' w):qw AM Q a w:=by
 refine rW ?_;iterate 2 refine lV ?_
 exact aV (h _ O ba)
theorem LP (hsz:a.tmps.size=135)(e35:qq a 35 z)(h:∀ a',Ag [3,8,9,10,11,35] a a'->qq a' 102 (z == 6)->Q .normal a' w):qw BY Q a w:=by
 refine rW ?_;iterate 2 refine lV ?_
 exact aV (h _ O ba)
theorem Kd (hsz:a.tmps.size=135)(e35:qq a 35 z)(h:∀ a',Ag [3,8,9,10,11,35] a a'->qq a' 111 (z == 7)->Q .normal a' w):qw At Q a w:=by
 refine rW ?_;iterate 2 refine lV ?_
 exact aV (h _ O ba)
theorem Eo (hsz:a.tmps.size=135)(e35:qq a 35 z)(h:∀ a',Ag [3,8,9,10,11,35] a a'->qq a' 122 (z == 8)->Q .normal a' w):qw um Q a w:=by
 refine rW ?_;iterate 2 refine lV ?_
 exact aV (h _ O ba)
theorem GC (hsz:a.tmps.size=135)(e3:qq a 3 z)(e11:qq a 11 (qp g)){cs:Array Value}(hB:Blk w g 60 cs)(hc:cs[0]?=some v)(h:∀ a',Ag [8,9,10,11] a a'->Q .normal a' (w.setCell (qp g) (↑z))):qw qf Q a w:=by
 refine rW ?_;iterate 2 refine lV ?_
 refine l_s rfl rfl (by simp [execOp,go_sem,hB.cell,hB.frozen, *];rfl) ?_;exact aV (h _ O)
theorem Hm (hsz:a.tmps.size=135)(e3:qq a 3 z)(e11:qq a 11 (qp g)){cs:Array Value}(hB:Blk w g 60 cs)(hc:cs[2]?=some v)(h:∀ a',Ag [8,9,10,11] a a'->Q .normal a' (w.setCell (qt g 2) (↑z))):qw qb Q a w:=by
 refine rW ?_;iterate 2 refine lV ?_
 refine l_s rfl rfl (by simp [execOp,go_sem,hB.cell,hB.frozen, *];rfl) ?_;exact aV (h _ O)
theorem L7 (hsz:a.tmps.size=135)(e3:qq a 3 z)(e11:qq a 11 (qp g)){cs:Array Value}(hB:Blk w g 60 cs)(hc:cs[3]?=some v)(h:∀ a',Ag [8,9,10,11] a a'->Q .normal a' (w.setCell (qt g 3) (↑z))):qw qo Q a w:=by
 refine rW ?_;iterate 2 refine lV ?_
 refine l_s rfl rfl (by simp [execOp,go_sem,hB.cell,hB.frozen, *];rfl) ?_;exact aV (h _ O)
theorem IQ {l:List Int}{P:Nat->Prop}(hsz:a.tmps.size=135)(e3:qq a 3 z)(hz:I64 z)(e11:qq a 11 (qp g)){cs:Array Value}(hB:Blk w g 60 cs)(hc:cs[4]?=some (.slice A l c))(hl:bL w P (.slice A l c) l)(hn:l.length<=1000000000)
  (h:∀ a' A' c' W,Ag [8,9,10,11] a a'->bL W (fun b=>w.heap.size<=b) (.slice A' (l+1) c') (l ++ [z])->Ext w W->Q .normal a' (W.setCell (qt g 4) (.slice A' (l+1) c'))):qw qj Q a w:=by
 obtain ⟨A0,c0,e,-,-,hi,hsl⟩:=hl;injection e with e1 _ e2;subst e1 e2;have q0:=hB.cell' 4 hc;refine rW ?_
 iterate 1 refine lV ?_
 have hown:=World.ownsRow_lit (base:=w.heap.size) (e:=3) (size:=1) w #[] 0 (ab _) du rfl;have hX:Ext w (w.alloc (qk #[] 3)):=(aq w).alloc' _;generalize w.alloc (qk #[] 3)=W at *;have q1:=aA hX q0;iterate 2 refine lV ?_
 refine l_a rfl rfl rfl Tryz.underlying22 Tryz.info3 rfl I hown (hsl.keep (aB.of_ext hX) (fun _ h=>h)) ba cd (fun u hu=>by obtain ⟨q,_,rfl⟩:=List.mem_map.1 hu;rfl) I I hX.size ?_;intro v1 w1 ho1 hf1 hb1;have hX1:Ext w w1:=((ar hX).trans (hf1.mono (N:=fun k=>w.heap.size<=k) (fun k hk=>hown.block_ge hk.symm))).new_ext (fun _ h=>h);iterate 2 refine lV ?_
 refine l_a rfl rfl rfl Tryz.underlying22 Tryz.info3 rfl I (ho1.alloc _) (Sl.new w1 [.int .i64 z] 3 1 1 rfl) ba cd ci I I ik ?_;intro v2 w2 ho2 hf2 hb2;have hX2:Ext w w2:=((ar (hX1.trans' ((aq w1).alloc' _))).trans (hf2.mono (N:=fun k=>w.heap.size<=k) (fun k hk=>ho1.block_ge hk.symm))).new_ext (fun _ h=>h);have hB2:=hB.ext hX2;have q2:=hB2.cell' 4 hc;have f2:=hB2.frozen 4;rw [List.nil_append,show l.map (Value.int .i64) ++ [.int .i64 z]=(l ++ [z]).map (Value.int .i64) by simp,show 0+l.length+1=l+1 by omega] at ho2;have hge:=fun b hb=>ho2.block_ge (b:=b) hb
 obtain ⟨A2,c2,rfl,r1,r2,r3⟩:=Sl.of_own ho2;unfold maxLen at r2;iterate 1 refine lV ?_
 refine l_s rfl rfl (by simp [execOp,go_sem, *];rfl) ?_;refine aV (h _ A2 c2 w2 O ⟨A2,c2,U,by simpa using r1,⟨bh,r2⟩,fun q hq=>?_,by simpa using r3 _ hge⟩ hX2);rcases ap.1 hq with hq | hq
 ·exact hi q hq
 ·rw [List.mem_singleton.1 hq];exact hz
theorem E6 {l:List Int}{P:Nat->Prop}(hsz:a.tmps.size=135)(e3:qq a 3 z)(hz:I64 z)(e11:qq a 11 (qp g)){cs:Array Value}(hB:Blk w g 60 cs)(hc:cs[7]?=some (.slice A l c))(hl:bL w P (.slice A l c) l)(hn:l.length<=1000000000)
  (h:∀ a' A' c' W,Ag [8,9,10,11] a a'->bL W (fun b=>w.heap.size<=b) (.slice A' (l+1) c') (l ++ [z])->Ext w W->Q .normal a' (W.setCell (qt g 7) (.slice A' (l+1) c'))):qw ry Q a w:=by
 obtain ⟨A0,c0,e,-,-,hi,hsl⟩:=hl;injection e with e1 _ e2;subst e1 e2;have q0:=hB.cell' 7 hc;refine rW ?_
 iterate 1 refine lV ?_
 have hown:=World.ownsRow_lit (base:=w.heap.size) (e:=3) (size:=1) w #[] 0 (ab _) du rfl;have hX:Ext w (w.alloc (qk #[] 3)):=(aq w).alloc' _;generalize w.alloc (qk #[] 3)=W at *;have q1:=aA hX q0;iterate 2 refine lV ?_
 refine l_a rfl rfl rfl Tryz.underlying22 Tryz.info3 rfl I hown (hsl.keep (aB.of_ext hX) (fun _ h=>h)) ba cd (fun u hu=>by obtain ⟨q,_,rfl⟩:=List.mem_map.1 hu;rfl) I I hX.size ?_;intro v1 w1 ho1 hf1 hb1;have hX1:Ext w w1:=((ar hX).trans (hf1.mono (N:=fun k=>w.heap.size<=k) (fun k hk=>hown.block_ge hk.symm))).new_ext (fun _ h=>h);iterate 2 refine lV ?_
 refine l_a rfl rfl rfl Tryz.underlying22 Tryz.info3 rfl I (ho1.alloc _) (Sl.new w1 [.int .i64 z] 3 1 1 rfl) ba cd ci I I ik ?_;intro v2 w2 ho2 hf2 hb2;have hX2:Ext w w2:=((ar (hX1.trans' ((aq w1).alloc' _))).trans (hf2.mono (N:=fun k=>w.heap.size<=k) (fun k hk=>ho1.block_ge hk.symm))).new_ext (fun _ h=>h);have hB2:=hB.ext hX2;have q2:=hB2.cell' 7 hc;have f2:=hB2.frozen 7;rw [List.nil_append,show l.map (Value.int .i64) ++ [.int .i64 z]=(l ++ [z]).map (Value.int .i64) by simp,show 0+l.length+1=l+1 by omega] at ho2;have hge:=fun b hb=>ho2.block_ge (b:=b) hb
 obtain ⟨A2,c2,rfl,r1,r2,r3⟩:=Sl.of_own ho2;unfold maxLen at r2;iterate 1 refine lV ?_
 refine l_s rfl rfl (by simp [execOp,go_sem, *];rfl) ?_;refine aV (h _ A2 c2 w2 O ⟨A2,c2,U,by simpa using r1,⟨bh,r2⟩,fun q hq=>?_,by simpa using r3 _ hge⟩ hX2);rcases ap.1 hq with hq | hq
 ·exact hi q hq
 ·rw [List.mem_singleton.1 hq];exact hz
end
section
variable {Q:Exit->Act->World->Prop}{a:Act}{w:World}{g g4 g8 g9:Nat}{z:Int}{v:Value}{k n c:Nat}{A:Option Addr}
theorem Ms {css:List Value}{P:Nat->Prop}(hsz:a.tmps.size=135)(e3:qq a 3 z)(e11:qq a 11 (qp g)){cs:Array Value}(hB:Blk w g 60 cs)(hc:cs[5]?=some (.slice A n c))(hsl:Sl w P 1 A n css)(hone:∀ u ∈ css,u.oneCell'=true)(hn:n<=1000000000)
  (h:∀ a' v' W,Ag [3,8,9,10,11] a a'->W.ownsRow w 9 1 v' (n+1) (css ++ [.string ⟨#[120]⟩])->Ext w W->Q .normal a' (W.setCell (qt g 5) v')):qw si Q a w:=by
 have q0:=hB.cell' 5 hc;refine rW ?_;iterate 1 refine lV ?_
 have hown:=World.ownsRow_lit (base:=w.heap.size) (e:=9) (size:=1) w #[] 0 (ab _) du rfl;have hX:Ext w (w.alloc (qk #[] 9)):=(aq w).alloc' _;generalize w.alloc (qk #[] 9)=W at *;have q1:=aA hX q0;iterate 2 refine lV ?_
 refine l_a rfl rfl rfl Tryz.underlying55 Tryz.info9 rfl I hown (hsl.keep (aB.of_ext hX) (fun _ h=>h)) ba cd hone I I hX.size ?_;intro v1 w1 ho1 hf1 hb1;have hX1:Ext w w1:=((ar hX).trans (hf1.mono (N:=fun k=>w.heap.size<=k) (fun k hk=>hown.block_ge hk.symm))).new_ext (fun _ h=>h);iterate 1 refine lV ?_
 refine l_a rfl rfl rfl Tryz.underlying55 Tryz.info9 rfl I (ho1.alloc _) (Sl.new w1 [.string ⟨#[120]⟩] 9 1 1 rfl) ba cd ci I I ik ?_;intro v2 w2 ho2 hf2 hb2;have hX2:Ext w w2:=((ar (hX1.trans' ((aq w1).alloc' _))).trans (hf2.mono (N:=fun k=>w.heap.size<=k) (fun k hk=>ho1.block_ge hk.symm))).new_ext (fun _ h=>h);rw [List.nil_append,show 0+n+1=n+1 by omega] at ho2;have hB2:=hB.ext hX2;have q2:=hB2.cell' 5 hc;have f2:=hB2.frozen 5;obtain ⟨A2,c2,e2,-,-,-⟩:=Sl.of_own ho2;subst e2;iterate 1 refine lV ?_
 refine l_s rfl rfl (by simp [execOp,go_sem, *];rfl) ?_;exact aV (h _ _ w2 O ho2 hX2)
theorem Hd {css:List Value}{P:Nat->Prop}(hsz:a.tmps.size=135)(e3:Ev a (.tmp 3)=↑z)(e11:Ev a (.tmp 11)=.pointer (some ⟨g,0,none⟩)){cs:Array Value}(hB:Blk w g 60 cs)(hc:cs[6]?=some (.slice A n c))(hsl:Sl w P 4 A n css)(hone:∀ u ∈ css,u.oneCell'=true)(hn:n<=1000000000)
  (h:∀ a' v' W,Ag [3,8,9,10,11] a a'->W.ownsRow w.heap.size 58 4 v' (n+1) (css ++ [.int .i64 0,.int .i64 z,.string ⟨#[]⟩,.slice none 0 0])->Ext w W->Q .normal a' (W.setCell ⟨g,6,none⟩ v')):Code.wp Tryz.prog o8 Q a w:=by
 have q0:=hB.cell' 6 hc;refine rW ?_;iterate 1 refine lV ?_
 have hown:=World.ownsRow_lit (base:=w.heap.size) (e:=58) (size:=4) w #[] 0 (ab _) du rfl;have hX:Ext w (w.alloc (.cells #[] 58)):=(aq w).alloc' _;generalize w.alloc (.cells #[] 58)=W at *;have q1:=aA hX q0;iterate 2 refine lV ?_
 refine l_a rfl rfl rfl Tryz.underlying56 Tryz.info58 rfl I hown (hsl.keep (aB.of_ext hX) (fun _ h=>h)) ba cd hone I I hX.size ?_;intro v1 w1 ho1 hf1 hb1;have hX1:Ext w w1:=((ar hX).trans (hf1.mono (N:=fun k=>w.heap.size<=k) (fun k hk=>hown.block_ge hk.symm))).new_ext (fun _ h=>h);iterate 3 refine lV ?_
 refine l_a rfl rfl rfl Tryz.underlying56 Tryz.info58 rfl I (ho1.alloc _) (Sl.new w1 [.int .i64 0,.int .i64 z,.string ⟨#[]⟩,.slice none 0 0] 58 1 4 rfl) ba cd ci I I ik ?_;intro v2 w2 ho2 hf2 hb2;have hX2:Ext w w2:=((ar (hX1.trans' ((aq w1).alloc' _))).trans (hf2.mono (N:=fun k=>w.heap.size<=k) (fun k hk=>ho1.block_ge hk.symm))).new_ext (fun _ h=>h);rw [List.nil_append,show 0+n+1=n+1 by omega] at ho2;have hB2:=hB.ext hX2;have q2:=hB2.cell' 6 hc;have f2:=hB2.frozen 6;obtain ⟨A2,c2,e2,-,-,-⟩:=Sl.of_own ho2;subst e2;iterate 1 refine lV ?_
 refine l_s rfl rfl (by simp [execOp,go_sem, *];rfl) ?_;exact aV (h _ _ w2 O ho2 hX2)
theorem Hb {css:List Value}{P:Nat->Prop}(hsz:a.tmps.size=135)(e3:qq a 3 z)(e11:qq a 11 (qp g)){cs:Array Value}(hB:Blk w g 60 cs)(hc:cs[4]?=some (.slice A n c))(hsl:Sl w P 1 A n css)(hone:∀ u ∈ css,u.oneCell'=true)(hn:n<=1000000000)
  (h:∀ a' v' W,Ag [3,8,9,10,11] a a'->W.ownsRow w 3 1 v' (n) (css)->Ext w W->Q .normal a' (W.setCell (qt g 4) v')):qw re Q a w:=by
 have q0:=hB.cell' 4 hc;refine rW ?_;iterate 1 refine lV ?_
 have hown:=World.ownsRow_lit (base:=w.heap.size) (e:=3) (size:=1) w #[] 0 (ab _) du rfl;have hX:Ext w (w.alloc (qk #[] 3)):=(aq w).alloc' _;generalize w.alloc (qk #[] 3)=W at *;have q1:=aA hX q0;iterate 2 refine lV ?_
 refine l_a rfl rfl rfl Tryz.underlying22 Tryz.info3 rfl I hown (hsl.keep (aB.of_ext hX) (fun _ h=>h)) ba cd hone I I hX.size ?_;intro v1 w1 ho1 hf1 hb1;have hX1:Ext w w1:=((ar hX).trans (hf1.mono (N:=fun k=>w.heap.size<=k) (fun k hk=>hown.block_ge hk.symm))).new_ext (fun _ h=>h);rw [List.nil_append,show 0+n=n by omega] at ho1;have hB2:=hB.ext hX1;have q2:=hB2.cell' 4 hc;have f2:=hB2.frozen 4;obtain ⟨A2,c2,e2,-,-,-⟩:=Sl.of_own ho1;subst e2;iterate 1 refine lV ?_
 refine l_s rfl rfl (by simp [execOp,go_sem, *];rfl) ?_;exact aV (h _ _ w1 O ho1 hX1)
theorem Jt {css:List Value}{P:Nat->Prop}(hsz:a.tmps.size=135)(e3:qq a 3 z)(e11:qq a 11 (qp g)){cs:Array Value}(hB:Blk w g 60 cs)(hc:cs[7]?=some (.slice A n c))(hsl:Sl w P 1 A n css)(hone:∀ u ∈ css,u.oneCell'=true)(hn:n<=1000000000)
  (h:∀ a' v' W,Ag [3,8,9,10,11] a a'->W.ownsRow w 3 1 v' (n) (css)->Ext w W->Q .normal a' (W.setCell (qt g 7) v')):qw pr Q a w:=by
 have q0:=hB.cell' 7 hc;refine rW ?_;iterate 1 refine lV ?_
 have hown:=World.ownsRow_lit (base:=w.heap.size) (e:=3) (size:=1) w #[] 0 (ab _) du rfl;have hX:Ext w (w.alloc (qk #[] 3)):=(aq w).alloc' _;generalize w.alloc (qk #[] 3)=W at *;have q1:=aA hX q0;iterate 2 refine lV ?_
 refine l_a rfl rfl rfl Tryz.underlying22 Tryz.info3 rfl I hown (hsl.keep (aB.of_ext hX) (fun _ h=>h)) ba cd hone I I hX.size ?_;intro v1 w1 ho1 hf1 hb1;have hX1:Ext w w1:=((ar hX).trans (hf1.mono (N:=fun k=>w.heap.size<=k) (fun k hk=>hown.block_ge hk.symm))).new_ext (fun _ h=>h);rw [List.nil_append,show 0+n=n by omega] at ho1;have hB2:=hB.ext hX1;have q2:=hB2.cell' 7 hc;have f2:=hB2.frozen 7;obtain ⟨A2,c2,e2,-,-,-⟩:=Sl.of_own ho1;subst e2;iterate 1 refine lV ?_
 refine l_s rfl rfl (by simp [execOp,go_sem, *];rfl) ?_;exact aV (h _ _ w1 O ho1 hX1)
theorem KW (hsz:a.tmps.size=135)(e11:qq a 11 (qp g))(c4:qc w g 4 (.slice A n c))(h:∀ a',Ag [3,8,9,10,11,35] a a'->qq a' 39 (decide (0<n))->Q .normal a' w):qw BG Q a w:=by
 refine rW ?_;iterate 4 refine lV ?_
 exact aV (h _ O ba)
theorem Jv (hsz:a.tmps.size=135)(e11:qq a 11 (qp g))(c4:qc w g 7 (.slice A n c))(h:∀ a',Ag [3,8,9,10,11,35] a a'->qq a' 52 (decide (0<n))->Q .normal a' w):qw sr Q a w:=by
 refine rW ?_;iterate 4 refine lV ?_
 exact aV (h _ O ba)
theorem J3 {G:Nat}{old:Value}(hsz:a.tmps.size=135)(e3:qq a 3 z)(e11:qq a 11 (qp g))(c4:qc w g 4 (.slice (qp G) n c))(hn:0<n)(c0:qc w G 0 old)(f0:w.frozen? (qp G)=false)(h:∀ a',Ag [8,9,10,11] a a'->Q .normal a' (w.setCell (qp G) (↑z))):qw pn Q a w:=by
 refine rW ?_;iterate 4 refine lV ?_
 refine l_s rfl rfl (by simp [execOp,go_sem, *];rfl) ?_;exact aV (h _ O)
theorem LU {G:Nat}{old:Value}(hsz:a.tmps.size=135)(e3:qq a 3 z)(e11:qq a 11 (qp g))(c4:qc w g 7 (.slice (qp G) n c))(hn:0<n)(c0:qc w G 0 old)(f0:w.frozen? (qp G)=false)(h:∀ a',Ag [8,9,10,11] a a'->Q .normal a' (w.setCell (qp G) (↑z))):qw rh Q a w:=by
 refine rW ?_;iterate 4 refine lV ?_
 refine l_s rfl rfl (by simp [execOp,go_sem, *];rfl) ?_;exact aV (h _ O)
theorem Jj {p:Int}(h0:0<=p)(h6:p<6):∃ s:ByteArray,(#[Value.string ⟨#[]⟩,.string ⟨#[80,97,105,114]⟩,.string ⟨#[112,97,105,114]⟩,.string ⟨#[65,98,95,49]⟩,.string ⟨#[76,111,110,103,76,111,110,103,76,111,110,103,76,111,110,103,76]⟩,.string ⟨#[65,45,98]⟩]:Array Value)[p.toNat]?=some ↑s∧s.size<=17592186044416:=by
 have h:p=0∨p=1∨p=2∨p=3∨p=4∨p=5:=I;rcases h with rfl | rfl | rfl | rfl | rfl | rfl
 ·exact ⟨_,rfl,ja⟩
 ·exact ⟨_,rfl,by show 4<=_;omega⟩
 ·exact ⟨_,rfl,by show 4<=_;omega⟩
 ·exact ⟨_,rfl,by show 4<=_;omega⟩
 ·exact ⟨_,rfl,by show 17<=_;omega⟩
 ·exact ⟨_,rfl,by show 3<=_;omega⟩
theorem EC {p:Int}(hsz:a.tmps.size=135)(e3:qq a 3 z)(e11:qq a 11 (qp g)){cs:Array Value}(hB:Blk w g 60 cs)(hc1:cs[1]?=some v)(h0:0<=p)(h6:p<6)(hc:∀ w,Calls Tryz.prog 5 #[↑z,.int .i64 6] w fun e w'=>e=.returned (↑p)∧w'=w)
  (h:∀ a' W s,Ag [8,9,10,11] a a'->s.size<=17592186044416->Ext w W->Q .normal a' (W.setCell (qt g 1) (.string s))):qw po Q a w:=by
 obtain ⟨s,hs,hs2⟩:=Jj h0 h6;refine rW ?_;iterate 1 refine lV ?_
 have hN:=aw w 9 #[Value.string ⟨#[]⟩,.string ⟨#[80,97,105,114]⟩,.string ⟨#[112,97,105,114]⟩,.string ⟨#[65,98,95,49]⟩,.string ⟨#[76,111,110,103,76,111,110,103,76,111,110,103,76,111,110,103,76]⟩,.string ⟨#[65,45,98]⟩];have hX:Ext w (w.alloc (qk #[Value.string ⟨#[]⟩,.string ⟨#[80,97,105,114]⟩,.string ⟨#[112,97,105,114]⟩,.string ⟨#[65,98,95,49]⟩,.string ⟨#[76,111,110,103,76,111,110,103,76,111,110,103,76,111,110,103,76]⟩,.string ⟨#[65,45,98]⟩] 9)):=(aq w).alloc' _;generalize w.alloc (qk #[Value.string ⟨#[]⟩,.string ⟨#[80,97,105,114]⟩,.string ⟨#[112,97,105,114]⟩,.string ⟨#[65,98,95,49]⟩,.string ⟨#[76,111,110,103,76,111,110,103,76,111,110,103,76,111,110,103,76]⟩,.string ⟨#[65,45,98]⟩] 9)=W at *;have qs:=hN.cell' p.toNat hs;have hB1:=hB.ext hX;have q1:=hB1.cell' 1 hc1;have f1:=hB1.frozen 1;clear hN hs;iterate 1 refine lV ?_
 refine l_c rfl rfl rfl Tryz.func5 dd dd (hc W) ba ?_;rintro e w' ⟨rfl,rfl⟩;refine ⟨_,rfl,?_⟩;iterate 3 refine lV ?_
 refine l_s rfl rfl (by simp [execOp,go_sem, *];rfl) ?_;exact aV (h _ _ s O hs2 hX)
theorem Lw {p:Int}(hsz:a.tmps.size=135)(e3:qq a 3 z)(e11:qq a 11 (qp g)){cs:Array Value}(hB:Blk w g 60 cs){u8 u9 u10 u11:Value}(h8:cs[8]?=some u8)(h9:cs[9]?=some u9)(h10:cs[10]?=some u10)(h11:cs[11]?=some u11)(hc:Calls Tryz.prog 5 #[↑z,.int .i64 5] w fun e w'=>e=.returned (↑p)∧w'=w)
  (h:∀ a',Ag [8,9,10,11] a a'->Q .normal a' (w.setCells g 8 [.int .i64 p,.int .i64 z,qe,qn])):qw rm Q a w:=by
 refine rW ?_;iterate 1 refine lV ?_
 refine l_c rfl rfl rfl Tryz.func5 dd dd hc ba ?_;rintro e w' ⟨rfl,rfl⟩;refine ⟨_,rfl,?_⟩;iterate 3 refine lV ?_
 refine l_s rfl rfl (by simp [execOp,go_sem,hB.cell,hB.frozen, *];rfl) ?_;exact aV (h _ O)
theorem Hv {G:Nat}{x:GN}{y:NA}(hsz:a.tmps.size=135)(e9:qq a 9 (qp g9))(e10:qq a 10 (k:Int))(e11:qq a 11 (qp g))(c9:qc w g9 0 (.slice (qp G) n c))(hk:k<n)(hB:Blk w g 60 (aN x y).toArray)(ho:∀ j,j<12->∃ u,qc w G (k*12+j) u)(hf:∀ j,w.frozen? (qt G j)=false)
  (h:∀ a',Ag [8,9] a a'->Q .normal a' (w.setCells G (k*12) (aN x y))):qw Ao Q a w:=by
 obtain ⟨u0,q0⟩:=ho 0 I;obtain ⟨u1,q1⟩:=ho 1 I;obtain ⟨u2,q2⟩:=ho 2 I;obtain ⟨u3,q3⟩:=ho 3 I;obtain ⟨u4,q4⟩:=ho 4 I;obtain ⟨u5,q5⟩:=ho 5 I;obtain ⟨u6,q6⟩:=ho 6 I;obtain ⟨u7,q7⟩:=ho 7 I;obtain ⟨u8,q8⟩:=ho 8 I;obtain ⟨u9,q9⟩:=ho 9 I;obtain ⟨u10,q10⟩:=ho 10 I;obtain ⟨u11,q11⟩:=ho 11 I;rw [Nat.add_zero] at q0;clear ho;have hk':(k:Int)<(n:Int):=by omega
 refine rW ?_;iterate 5 refine l_v rfl rfl (by simp [execOp,go_sem,hB.cell, *];exact ⟨rfl,rfl⟩) ?_
 refine l_s rfl rfl (by simp [execOp,go_sem,hf,hsz,q0,q1,q2,q3,q4,q5,q6,q7,q8,q9,q10,q11];rfl) ?_;exact aV (h _ O)
end
structure fI (x:GN):Prop where
 mw:x.weights.length<=999999
 ml:x.labels.length<=999999
 mv:x.values.length<=999999
 mj:x.kids.length<=999999
 mx:gsz x.value<=1000000000
 mvs:∀ u ∈ x.values,gsz u<=1000000000
theorem fI.n {x:GN}(h:fI x):dG x:=⟨by have:=h.mw;omega,by have:=h.ml;omega,by have:=h.mv;omega,by have:=h.mj;omega,h.mx,h.mvs⟩
def Sp1 (x x':GN):Prop:=x'.kids.length<=x.kids+1∧(x'.kind=x.kind∨(x'.kids=x.kids∧x'.weights=x.weights∧x'.values=x.values))
def SpP (w0:World)(P:Nat->Prop)(v:Value)(g8 g9 g:Nat)(k:Nat):Prop:=(P k∨w0<=k)∧k ≠ g8∧k ≠ g9∧k ≠ g∧some k ≠ v.ownBlock
structure SpA (w0:World)(P:Nat->Prop)(v:Value)(n:Nat)(xs:List Value)(g8 g9 g:Nat)(x:GN)(y:NA)(w:World):Prop where
 ext:Ext w0 w
 b8:Blk w g8 25 #[qn]
 b9:Blk w g9 25 #[v]
 b11:Blk w g 60 (aN x y).toArray
 own:w.ownsRow w0 60 12 v n xs
 nat:NAt w (SpP w0 P v g8 g9 g) x y
 ge:w0<=g8∧w0<=g9∧w0<=g
 ne:g8 ≠ g9∧g8 ≠ g∧g9 ≠ g
 no:some g8 ≠ v.ownBlock∧some g9 ≠ v.ownBlock∧some g ≠ v.ownBlock
section
variable {w0:World}{P:Nat->Prop}{v:Value}{n:Nat}{xs:List Value}{g8 g9 g:Nat}{x x':GN}{y y':NA}{w W:World}
theorem SpA.new (h:SpA w0 P v n xs g8 g9 g x y w){b:Nat}(hb:w<=b):SpP w0 P v g8 g9 g b:=by
 have h1:=h.ext.size;have h2:=h.b8.lt;have h3:=h.b9.lt;have h4:=h.b11.lt;exact ⟨.inr I,I,I,I,fun e=>by have:=h.own.block_lt e.symm;omega⟩
theorem SpA.nk (h:SpA w0 P v n xs g8 g9 g x y w)(hF:Fr (fun k=>k=g) w W):NAt W (SpP w0 P v g8 g9 g) x y:=h.nat.keep (aB.of_fr hF (fun b hb e=>hb.2.2.2.1 e)) (fun _ h=>h)
theorem SpA.fr (h:SpA w0 P v n xs g8 g9 g x y w)(hF:Fr (fun k=>k=g) w W)(hb:Blk W g 60 (aN x' y').toArray)(hn:NAt W (SpP w0 P v g8 g9 g) x' y'):SpA w0 P v n xs g8 g9 g x' y' W :=
 ⟨((ar h.ext).trans hF).new_ext (fun b hb=>by have:=h.ge.2.2;omega),h.b8.fr hF h.ne.2.1,h.b9.fr hF h.ne.2.2,hb,cP h.own hF (fun b hb e=>h.no.2.2 (by rw [hb,e])),hn,h.ge,h.ne,h.no⟩
end
theorem fW {w W:World}{g o:Nat}{u:Value}(hX:Ext w W):Fr (fun k=>k=g) w (W.setCell (qt g o) u):=Fr.setCell (M:=fun k=>k=g) (ar hX) (p:=qt g o) (.inl rfl) u
structure SpS (a0 a:Act)(z hw:Int)(g:Nat):Prop where
 sz:a.tmps.size=135
 e3:qq a 3 z
 e11:qq a 11 (qp g)
 e35:qq a 35 hw
 ag:Ag [8,9,10,11] a0 a
theorem SpS.go {a0 a a':Act}{z hw:Int}{g:Nat}(h:SpS a0 a z hw g)(k:Ag [3,8,9,10,11,35] a a'):SpS a0 a' z hw g:=⟨k.sz.trans h.sz,k.get 3 h.e3,k.get 11 h.e11,k.get 35 h.e35,h.ag.trans (k.mono rfl)⟩
theorem Cv {W:World}{B G n c:Nat}{l:List Int}{z:Int}(ho:W.ownsRow B 3 1 (.slice (qp G) n c) n (l.map (Value.int .i64))):(W.setCell (qp G) (↑z)).ownsRow B 3 1 (.slice (qp G) n c) n ((l.set 0 z).map (Value.int .i64)):=by
 obtain ⟨hl,⟨e,_⟩ | ⟨G',cap,cur,e,hb,hB,hn,hm,hs,ht⟩⟩:=ho
 ·cases e
 ·injection e with e1 _ e3
  injection e1 with e1;injection e1 with e1;subst e1 e3;refine ⟨by simpa using hl,.inr ⟨G,c,cur.setIfInBounds 0 (↑z),rfl,hb,Blk.set_ hB 0 _,hn,hm,by simpa using hs,?_⟩⟩;rw [Array.toList_setIfInBounds,List.take_set,ht,List.map_set]
theorem mE {W:World}{B G n c:Nat}{xs:List Value}(hn:0<n)(ho:W.ownsRow B 3 1 (.slice (qp G) n c) n xs):(∃ cur,Blk W G 3 cur)∧B<=G∧∃ u,qc W G 0 u:=by
 obtain ⟨hl,⟨e,_⟩ | ⟨G',cap,cur,e,hb,hB,hn',hm,hs,ht⟩⟩:=ho
 ·cases e
 ·injection e with e1 _ e3
  injection e1 with e1;injection e1 with e1;subst e1 e3;have hBb:Blk W G 3 cur:=hB;exact ⟨⟨cur,hB⟩,hb,cur[0]'(by omega),hBb.cell' 0 U⟩
theorem nS.ones {l:List ByteArray}:∀ {cs:List Value},RL lj l cs->∀ u ∈ cs,u.oneCell'=true:=by
 induction l with
 | nil=>intro cs h u hu;simp only [RL] at h;subst h;simp at hu
 | cons s l ih =>
  intro cs h u hu;obtain ⟨c1,c2,rfl,⟨_,rfl⟩,h2⟩:=h;rcases ap.1 hu with hu | hu
  ·rw [List.mem_singleton.1 hu];rfl
  ·exact ih h2 u hu
section
variable {w0:World}{P:Nat->Prop}{v:Value}{n:Nat}{xs:List Value}{g8 g9 g:Nat}{x:GN}{y:NA}{w:World}{a0 a:Act}{z hw:Int}{R:Exit->Act->World->Prop}
theorem Ek (hs:SpS a0 a z hw g)(h:SpA w0 P v n xs g8 g9 g x y w)(hS:fI x)(hz:I64 z)(hR:∀ a' w' x' y',Ag [8,9,10,11] a0 a'->SpA w0 P v n xs g8 g9 g x' y' w'->dG x'->Sp1 x x'->R .normal a' w'):qw qf R a w:=by
 refine GC hs.sz hs.e3 hs.e11 h.b11 rfl ?_;intro a' g';have hF:Fr (fun k=>k=g) w (w.setCell (qp g) (↑z)):=fW (aq w);have k:=h.nk hF;exact hR a' _ { x with kind:=z } y (hs.ag.trans g') (h.fr hF (h.b11.set_ 0 _) ⟨hz,k.name,k.lo,k.hi,k.weights,k.labels,k.values,k.kids,k.value⟩) hS.n ⟨Nat.le_succ _,.inr ⟨rfl,rfl,rfl⟩⟩
theorem DV (hs:SpS a0 a z hw g)(h:SpA w0 P v n xs g8 g9 g x y w)(hS:fI x)(hz:I64 z)(hR:∀ a' w' x' y',Ag [8,9,10,11] a0 a'->SpA w0 P v n xs g8 g9 g x' y' w'->dG x'->Sp1 x x'->R .normal a' w'):qw qb R a w:=by
 refine Hm hs.sz hs.e3 hs.e11 h.b11 rfl ?_;intro a' g';have hF:Fr (fun k=>k=g) w (w.setCell (qt g 2) (↑z)):=fW (aq w);have k:=h.nk hF;exact hR a' _ { x with lo:=z } y (hs.ag.trans g') (h.fr hF (h.b11.set_ 2 _) ⟨k.kind,k.name,hz,k.hi,k.weights,k.labels,k.values,k.kids,k.value⟩) hS.n ⟨U,.inl rfl⟩
theorem Jx (hs:SpS a0 a z hw g)(h:SpA w0 P v n xs g8 g9 g x y w)(hS:fI x)(hz:I64 z)(hR:∀ a' w' x' y',Ag [8,9,10,11] a0 a'->SpA w0 P v n xs g8 g9 g x' y' w'->dG x'->Sp1 x x'->R .normal a' w'):qw qo R a w:=by
 refine L7 hs.sz hs.e3 hs.e11 h.b11 rfl ?_;intro a' g';have hF:Fr (fun k=>k=g) w (w.setCell (qt g 3) (↑z)):=fW (aq w);have k:=h.nk hF;exact hR a' _ { x with hi:=z } y (hs.ag.trans g') (h.fr hF (h.b11.set_ 3 _) ⟨k.kind,k.name,k.lo,hz,k.weights,k.labels,k.values,k.kids,k.value⟩) hS.n ⟨U,.inl rfl⟩
theorem Io (hs:SpS a0 a z hw g)(h:SpA w0 P v n xs g8 g9 g x y w)(hS:fI x)(hz:I64 z)(hR:∀ a' w' x' y',Ag [8,9,10,11] a0 a'->SpA w0 P v n xs g8 g9 g x' y' w'->dG x'->Sp1 x x'->R .normal a' w'):qw qj R a w:=by
 refine IQ hs.sz hs.e3 hz hs.e11 h.b11 rfl h.nat.weights (by have:=hS.mw;omega) ?_;intro a' A' c' W g' hi hX;have hF:Fr (fun k=>k=g) w (W.setCell (qt g 4) (.slice A' (x.weights+1) c')):=fW hX;have k:=h.nk hF;have e:x.weights.length+1=(x.weights ++ [z]).length:=by simp
 have hb:=(h.b11.ext hX).set_ 4 (.slice A' (x.weights+1) c');have hi':=hi.carry (w':=W.setCell (qt g 4) (.slice A' (x.weights+1) c')) (Q:=SpP w0 P v g8 g9 g) (aB.set (fun _ _ _=>rfl) (p:=qt g 4) _ (by have:=h.b11.lt;show ¬ w.heap.size<=g;omega)) (fun b _ hb=>h.new hb);have hm:=hS.mw;refine hR a' _ { x with weights:=x.weights ++ [z] } { y with wA:=A',wc:=c' } (hs.ag.trans g') (h.fr hF ?_ ?_) ?_ ⟨U,.inl rfl⟩
 ·rw [e] at hb ⊢
  exact hb
 ·rw [e] at hi' k ⊢
  exact ⟨k.kind,k.name,k.lo,k.hi,hi',k.labels,k.values,k.kids,k.value⟩
 ·have q:=hS.n
  exact ⟨bh,q.2⟩
theorem GZ (hs:SpS a0 a z hw g)(h:SpA w0 P v n xs g8 g9 g x y w)(hS:fI x)(hz:I64 z)(hR:∀ a' w' x' y',Ag [8,9,10,11] a0 a'->SpA w0 P v n xs g8 g9 g x' y' w'->dG x'->Sp1 x x'->R .normal a' w'):qw ry R a w:=by
 refine E6 hs.sz hs.e3 hz hs.e11 h.b11 rfl h.nat.kids (by have:=hS.mj;omega) ?_;intro a' A' c' W g' hi hX;have hF:Fr (fun k=>k=g) w (W.setCell (qt g 7) (.slice A' (x.kids+1) c')):=fW hX;have k:=h.nk hF;have e:x.kids.length+1=(x.kids ++ [z]).length:=by simp
 have hb:=(h.b11.ext hX).set_ 7 (.slice A' (x.kids+1) c');have hi':=hi.carry (w':=W.setCell (qt g 7) (.slice A' (x.kids+1) c')) (Q:=SpP w0 P v g8 g9 g) (aB.set (fun _ _ _=>rfl) (p:=qt g 7) _ (by have:=h.b11.lt;show ¬ w.heap.size<=g;omega)) (fun b _ hb=>h.new hb);have hm:=hS.mj;refine hR a' _ { x with kids:=x.kids ++ [z] } { y with kA:=A',kc:=c' } (hs.ag.trans g') (h.fr hF ?_ ?_) ?_ ⟨U,.inl rfl⟩
 ·rw [e] at hb ⊢
  exact hb
 ·rw [e] at hi' k ⊢
  exact ⟨k.kind,k.name,k.lo,k.hi,k.weights,k.labels,k.values,hi',k.value⟩
 ·have q:=hS.n
  exact ⟨q.1,q.2.1,q.2.2.1,bh,q.2.2.2.2⟩
theorem Fj (hs:SpS a0 a z hw g)(h:SpA w0 P v n xs g8 g9 g x y w)(hS:fI x)(hz:I64 z)(hR:∀ a' w' x' y',Ag [8,9,10,11] a0 a'->SpA w0 P v n xs g8 g9 g x' y' w'->dG x'->Sp1 x x'->R .normal a' w'):qw po R a w:=by
 have hp:=gM (n:=z) (m:=6) I;refine EC hs.sz hs.e3 hs.e11 h.b11 rfl hp.1 hp.2 (fun w=>(fL z 6 w hz I I).mono (fun _ _ q=>⟨q.1,q.2.symm⟩)) ?_;intro a' W s g' hsl hX;have hF:Fr (fun k=>k=g) w (W.setCell (qt g 1) s):=fW hX;have k:=h.nk hF;exact hR a' _ { x with name:=s } y (hs.ag.trans g') (h.fr hF ((h.b11.ext hX).set_ 1 _) ⟨k.kind,hsl,k.lo,k.hi,k.weights,k.labels,k.values,k.kids,k.value⟩) hS.n ⟨U,.inl rfl⟩
theorem Kq (hs:SpS a0 a z hw g)(h:SpA w0 P v n xs g8 g9 g x y w)(hS:fI x)(hz:I64 z)(hR:∀ a' w' x' y',Ag [8,9,10,11] a0 a'->SpA w0 P v n xs g8 g9 g x' y' w'->dG x'->Sp1 x x'->R .normal a' w'):qw si R a w:=by
 obtain ⟨A0,c0,css,e0,-,-,hsl,hrl⟩:=h.nat.labels;injection e0 with e1 _ e2;have hsl':Sl w (SpP w0 P v g8 g9 g) 1 y.lA x.labels css:=by rw [e1];exact hsl
 refine Ms hs.sz hs.e3 hs.e11 h.b11 rfl hsl' (nS.ones hrl) (by have:=hS.ml;omega) ?_;intro a' v' W g' ho hX;have hF:Fr (fun k=>k=g) w (W.setCell (qt g 5) v'):=fW hX;have k:=h.nk hF;have e:x.labels.length+1=(x.labels ++ [(⟨#[120]⟩:ByteArray)]).length:=by simp
 have hb:=(h.b11.ext hX).set_ 5 v';have hge:=fun b hb=>ho.block_ge (b:=b) hb
 obtain ⟨A',c',rfl,-,-,-⟩:=Sl.of_own ho;have hm:=hS.ml;have ho':=cP (M:=fun k=>k=g) ho (w':=W.setCell (qt g 5) (.slice A' (x.labels+1) c')) (fW (aq W)) (fun b hb e=>by have:=hge b hb;have:=h.b11.lt;omega);rw [e] at hb hF k ho' hge ⊢;have hi':=(Lst.of_own ho' (hrl.append (RL.one ⟨by show (1:Nat)<=_;omega,rfl⟩)) bh (fun b hb=>h.new (hge b hb)):nS _ (SpP w0 P v g8 g9 g) _ _);refine hR a' _ { x with labels:=x.labels ++ [(⟨#[120]⟩:ByteArray)] } { y with lA:=A',lc:=c' } (hs.ag.trans (g'.mono rfl)) (h.fr hF hb ⟨k.kind,k.name,k.lo,k.hi,k.weights,hi',k.values,k.kids,k.value⟩) ?_ ⟨U,.inl rfl⟩
 ·have q:=hS.n
  exact ⟨q.1,bh,q.2.2⟩
theorem EV (hs:SpS a0 a z hw g)(h:SpA w0 P v n xs g8 g9 g x y w)(hS:fI x)(hz:I64 z)(hR:∀ a' w' x' y',Ag [8,9,10,11] a0 a'->SpA w0 P v n xs g8 g9 g x' y' w'->dG x'->Sp1 x x'->R .normal a' w'):qw o8 R a w:=by
 obtain ⟨A0,c0,css,e0,-,-,hsl,hrl⟩:=h.nat.values;injection e0 with e1 _ e2;have hsl':Sl w (SpP w0 P v g8 g9 g) 4 y.vA x.values css:=by rw [e1];exact hsl
 refine Hd hs.sz hs.e3 hs.e11 h.b11 rfl hsl' (RVs.oneCell hrl) (by have:=hS.mv;omega) ?_;intro a' v' W g' ho hX;have hF:Fr (fun k=>k=g) w (W.setCell (qt g 6) v'):=fW hX;have k:=h.nk hF;have e:x.values.length+1=(x.values ++ [(GV.mk 0 z ⟨#[]⟩ [])]).length:=by simp
 have hb:=(h.b11.ext hX).set_ 6 v';have hge:=fun b hb=>ho.block_ge (b:=b) hb
 obtain ⟨A',c',rfl,-,-,-⟩:=Sl.of_own ho;have hm:=hS.mv;have ho':=cP (M:=fun k=>k=g) ho (w':=W.setCell (qt g 6) (.slice A' (x.values+1) c')) (fW (aq W)) (fun b hb e=>by have:=hge b hb;have:=h.b11.lt;omega);rw [e] at hb hF k ho' hge ⊢;have hi':=bZ.of_own ho' ((hrl.carry (Q:=SpP w0 P v g8 g9 g) (aB.of_fr hF (fun b hb e=>hb.2.2.2.1 e)) (fun _ _ h=>h)).append (RVs.one (RV.mk_iff.2 ⟨cu,hz,dl,_,rfl,bZ.nil⟩))) bh (fun b hb=>h.new (hge b hb));refine hR a' _ { x with values:=x.values ++ [(GV.mk 0 z ⟨#[]⟩ [])] } { y with vA:=A',vc:=c' } (hs.ag.trans (g'.mono rfl)) (h.fr hF hb ⟨k.kind,k.name,k.lo,k.hi,k.weights,k.labels,hi',k.kids,k.value⟩) ?_ ⟨U,.inl rfl⟩
 ·have q:=hS.n
  exact ⟨q.1,q.2.1,bh,q.2.2.2.1,q.2.2.2.2.1,fun u hu=>by
   rcases ap.1 hu with hu | hu
   ·exact hS.mvs u hu
   ·rw [List.mem_singleton.1 hu];simp [gsz,jQ]⟩
theorem Gg (hs:SpS a0 a z hw g)(h:SpA w0 P v n xs g8 g9 g x y w)(hS:fI x)(hz:I64 z)(hR:∀ a' w' x' y',Ag [8,9,10,11] a0 a'->SpA w0 P v n xs g8 g9 g x' y' w'->dG x'->Sp1 x x'->R .normal a' w'):qw rm R a w:=by
 have hp:=gM (n:=z) (m:=5) I;refine Lw hs.sz hs.e3 hs.e11 h.b11 rfl rfl rfl rfl ((fL z 5 w hz I I).mono (fun _ _ q=>⟨q.1,q.2.symm⟩)) ?_;intro a' g';have hF:Fr (fun k=>k=g) w (w.setCells g 8 [.int .i64 (fH z 5),.int .i64 z,qe,qn]):=Fr.setCells (M:=fun k=>k=g) _ 8 (au _ w) (.inl rfl);have k:=h.nk hF;refine hR a' _ { x with value:=⟨fH z 5,z,⟨#[]⟩,[]⟩ } { y with xA:=none,xc:=0 } (hs.ag.trans g') (h.fr hF (aF (cs:=aN x y) _ 8 h.b11 U) ⟨k.kind,k.name,k.lo,k.hi,k.weights,k.labels,k.values,k.kids,⟨by unfold I64;show _<=fH z 5∧fH z 5<=_;omega,hz,dl,af _,⟨af _,af _⟩,bZ.nil⟩⟩) ?_ ⟨U,.inl rfl⟩;have q:=hS.n;exact ⟨q.1,q.2.1,q.2.2.1,q.2.2.2.1,eq,hS.mvs⟩
theorem FP (hs:SpS a0 a z hw g)(h:SpA w0 P v n xs g8 g9 g x y w)(hS:fI x)(hz:I64 z)(hR:∀ a' w' x' y',Ag [8,9,10,11] a0 a'->SpA w0 P v n xs g8 g9 g x' y' w'->dG x'->Sp1 x x'->R .normal a' w')(hpos:0<x.weights.length):qw (.seq re pn) R a w:=by
 obtain ⟨A0,c0,e0,-,-,hi,hsl⟩:=h.nat.weights;injection e0 with e1 _ e2;have hsl':Sl w (SpP w0 P v g8 g9 g) 1 y.wA x.weights (x.weights.map (Value.int .i64)):=by rw [e1];exact hsl
 refine wp_seq (Hb hs.sz hs.e3 hs.e11 h.b11 rfl hsl' (fun u hu=>by obtain ⟨q,_,rfl⟩:=List.mem_map.1 hu;rfl) (by have:=hS.mw;omega) ?_);intro a1 v1 W g1 ho hX;obtain ⟨A1,c1,rfl,-,-,-⟩:=Sl.of_own ho
 obtain ⟨G,rfl⟩:∃ G,A1=some ↑(qp G):=by
  rcases ho.2 with ⟨_,e⟩ | ⟨G,cap,cur,e,-⟩
  ·omega
  ·injection e with e
   exact ⟨G,e⟩
 obtain ⟨⟨cur,hBG⟩,hG,u,hu⟩:=mE hpos ho;have hgG:g ≠ G:=by have:=h.b11.lt;omega
 have hb:=(h.b11.ext hX).set_ 4 (.slice (qp G) x.weights c1);have hBG1:=hBG.far (p:=qt g 4) (Ne.symm hgG) (.slice (qp G) x.weights c1);have ho1:=cP (M:=fun k=>k=g) ho (w':=W.setCell (qt g 4) (.slice (qp G) x.weights c1)) (fW (aq W)) (fun b hb e=>by simp [Value.ownBlock] at hb;omega);have hF1:Fr (fun k=>k=g) w (W.setCell (qt g 4) (.slice (qp G) x.weights c1)):=fW hX;obtain ⟨-,-,u1,hu1⟩:=mE hpos ho1;generalize W.setCell (qt g 4) (.slice (qp G) x.weights c1)=W1 at *;refine J3 (g1.sz.trans hs.sz) (g1.get 3 hs.e3) (g1.get 11 hs.e11) (hb.cell' 4 rfl) hpos hu1 (hBG1.frozen 0) ?_;intro a2 g2;have hF:Fr (fun k=>k=g) w (W1.setCell (qp G) (↑z)):=hF1.setCell (p:=qp G) (.inr hG) _;have k:=h.nk hF;have ho2:=Cv (z:=z) ho1;obtain ⟨A3,c3,e3,r1,r2,r3⟩:=Sl.of_own ho2;injection e3 with e4 _ e5;subst e4 e5;unfold maxLen at r2;have hl:(x.weights.set 0 z).length=x.weights.length:=by simp
 have hm:=hS.mw
 have hi':bL (W1.setCell (qp G) (↑z)) (SpP w0 P v g8 g9 g) (.slice (qp G) (x.weights.set 0 z) c1) (x.weights.set 0 z):=by
  refine ⟨some ↑(qp G),c1,rfl,by rw [hl];exact r1,⟨by rw [hl];omega,r2⟩,fun q hq=>?_,ft⟩;rcases List.mem_or_eq_of_mem_set hq with hq | rfl
  ·exact hi q hq
  ·exact hz
 refine hR a2 _ { x with weights:=x.weights.set 0 z } { y with wA:=some ↑(qp G),wc:=c1 } (hs.ag.trans ((g1.mono rfl).trans g2)) (h.fr hF ?_ ⟨k.kind,k.name,k.lo,k.hi,hi',k.labels,k.values,k.kids,k.value⟩) ?_ ⟨U,.inl rfl⟩
 ·have q:=hb.far (p:=qp G) hgG (↑z)
  rw [<- hl] at q;exact q
 ·have q:=hS.n
  exact ⟨by rw [hl];exact q.1,q.2⟩
theorem Kz (hs:SpS a0 a z hw g)(h:SpA w0 P v n xs g8 g9 g x y w)(hS:fI x)(hz:I64 z)(hR:∀ a' w' x' y',Ag [8,9,10,11] a0 a'->SpA w0 P v n xs g8 g9 g x' y' w'->dG x'->Sp1 x x'->R .normal a' w')(hpos:0<x.kids.length):qw (.seq pr rh) R a w:=by
 obtain ⟨A0,c0,e0,-,-,hi,hsl⟩:=h.nat.kids;injection e0 with e1 _ e2;have hsl':Sl w (SpP w0 P v g8 g9 g) 1 y.kA x.kids (x.kids.map (Value.int .i64)):=by rw [e1];exact hsl
 refine wp_seq (Jt hs.sz hs.e3 hs.e11 h.b11 rfl hsl' (fun u hu=>by obtain ⟨q,_,rfl⟩:=List.mem_map.1 hu;rfl) (by have:=hS.mj;omega) ?_);intro a1 v1 W g1 ho hX;obtain ⟨A1,c1,rfl,-,-,-⟩:=Sl.of_own ho
 obtain ⟨G,rfl⟩:∃ G,A1=some ↑(qp G):=by
  rcases ho.2 with ⟨_,e⟩ | ⟨G,cap,cur,e,-⟩
  ·omega
  ·injection e with e
   exact ⟨G,e⟩
 obtain ⟨⟨cur,hBG⟩,hG,u,hu⟩:=mE hpos ho;have hgG:g ≠ G:=by have:=h.b11.lt;omega
 have hb:=(h.b11.ext hX).set_ 7 (.slice (qp G) x.kids c1);have hBG1:=hBG.far (p:=qt g 7) (Ne.symm hgG) (.slice (qp G) x.kids c1);have ho1:=cP (M:=fun k=>k=g) ho (w':=W.setCell (qt g 7) (.slice (qp G) x.kids c1)) (fW (aq W)) (fun b hb e=>by simp [Value.ownBlock] at hb;omega);have hF1:Fr (fun k=>k=g) w (W.setCell (qt g 7) (.slice (qp G) x.kids c1)):=fW hX;obtain ⟨-,-,u1,hu1⟩:=mE hpos ho1;generalize W.setCell (qt g 7) (.slice (qp G) x.kids c1)=W1 at *;refine LU (g1.sz.trans hs.sz) (g1.get 3 hs.e3) (g1.get 11 hs.e11) (hb.cell' 7 rfl) hpos hu1 (hBG1.frozen 0) ?_;intro a2 g2;have hF:Fr (fun k=>k=g) w (W1.setCell (qp G) (↑z)):=hF1.setCell (p:=qp G) (.inr hG) _;have k:=h.nk hF;have ho2:=Cv (z:=z) ho1;obtain ⟨A3,c3,e3,r1,r2,r3⟩:=Sl.of_own ho2;injection e3 with e4 _ e5;subst e4 e5;unfold maxLen at r2;have hl:(x.kids.set 0 z).length=x.kids.length:=by simp
 have hm:=hS.mj
 have hi':bL (W1.setCell (qp G) (↑z)) (SpP w0 P v g8 g9 g) (.slice (qp G) (x.kids.set 0 z) c1) (x.kids.set 0 z):=by
  refine ⟨some ↑(qp G),c1,rfl,by rw [hl];exact r1,⟨by rw [hl];omega,r2⟩,fun q hq=>?_,ft⟩;rcases List.mem_or_eq_of_mem_set hq with hq | rfl
  ·exact hi q hq
  ·exact hz
 refine hR a2 _ { x with kids:=x.kids.set 0 z } { y with kA:=some ↑(qp G),kc:=c1 } (hs.ag.trans ((g1.mono rfl).trans g2)) (h.fr hF ?_ ⟨k.kind,k.name,k.lo,k.hi,k.weights,k.labels,k.values,hi',k.value⟩) ?_ ⟨U,.inl rfl⟩
 ·have q:=hb.far (p:=qp G) hgG (↑z)
  rw [<- hl] at q;exact q
 ·have q:=hS.n
  exact ⟨q.1,q.2.1,q.2.2.1,by rw [hl];exact q.2.2.2.1,q.2.2.2.2⟩
end
noncomputable abbrev tg:Code:=.seq BQ (.cond (.tmp 62) qf (.seq tw (.cond (.tmp 66) qb (.seq wj (.cond (.tmp 70) qo (.seq CI (.cond (.tmp 74) qj (.seq un (.cond (.tmp 84) ry (.seq AM (.cond (.tmp 94) po (.seq BY (.cond (.tmp 102) si (.seq At (.cond (.tmp 111) o8 (.seq um (.cond (.tmp 122) rm (.seq BG (.cond (.tmp 39) (.seq re pn) (.seq sr (.cond (.tmp 52) (.seq pr rh) .skip)))))))))))))))))))))
noncomputable abbrev zj:Code:=.seq wt (.seq yr (.seq Be (.seq (.seq tt (.cond (.tmp 22) (.seq wi .ret) .skip)) (.seq uv (.seq sk (.seq (.seq vw (.block 0 tg)) (.seq Ao (.seq Bl .ret))))))))
theorem Ej:Tryz.f8.body=some zj:=av
section
variable {w0:World}{P:Nat->Prop}{v:Value}{n:Nat}{xs:List Value}{g8 g9 g:Nat}{x:GN}{y:NA}{w:World}{a0 a:Act}{z hw:Int}{R:Exit->Act->World->Prop}
theorem Gp (hs:SpS a0 a z hw g)(h:SpA w0 P v n xs g8 g9 g x y w)(hS:fI x)(hz:I64 z)(hR:∀ a' w' x' y',Ag [8,9,10,11] a0 a'->SpA w0 P v n xs g8 g9 g x' y' w'->dG x'->Sp1 x x'->R .normal a' w'):qw tg R a w:=by
 refine wp_seq (Mz hs.sz hs.e35 ?_);intro a1 g1 e1;have hs:=hs.go g1;clear g1;by_cases hk:hw=0
 ·exact wp_cond_true (e1.trans gv) (Ek hs h hS hz hR)
 refine wp_cond_false (e1.trans gy) ?_;clear e1 hk;refine wp_seq (Gb hs.sz hs.e35 ?_);intro a1 g1 e1;have hs:=hs.go g1;clear g1;by_cases hk:hw=1
 ·exact wp_cond_true (e1.trans gv) (DV hs h hS hz hR)
 refine wp_cond_false (e1.trans gy) ?_;clear e1 hk;refine wp_seq (H8 hs.sz hs.e35 ?_);intro a1 g1 e1;have hs:=hs.go g1;clear g1;by_cases hk:hw=2
 ·exact wp_cond_true (e1.trans gv) (Jx hs h hS hz hR)
 refine wp_cond_false (e1.trans gy) ?_;clear e1 hk;refine wp_seq (Hl hs.sz hs.e35 ?_);intro a1 g1 e1;have hs:=hs.go g1;clear g1;by_cases hk:hw=3
 ·exact wp_cond_true (e1.trans gv) (Io hs h hS hz hR)
 refine wp_cond_false (e1.trans gy) ?_;clear e1 hk;refine wp_seq (IM hs.sz hs.e35 ?_);intro a1 g1 e1;have hs:=hs.go g1;clear g1;by_cases hk:hw=4
 ·exact wp_cond_true (e1.trans gv) (GZ hs h hS hz hR)
 refine wp_cond_false (e1.trans gy) ?_;clear e1 hk;refine wp_seq (Fg hs.sz hs.e35 ?_);intro a1 g1 e1;have hs:=hs.go g1;clear g1;by_cases hk:hw=5
 ·exact wp_cond_true (e1.trans gv) (Fj hs h hS hz hR)
 refine wp_cond_false (e1.trans gy) ?_;clear e1 hk;refine wp_seq (LP hs.sz hs.e35 ?_);intro a1 g1 e1;have hs:=hs.go g1;clear g1;by_cases hk:hw=6
 ·exact wp_cond_true (e1.trans gv) (Kq hs h hS hz hR)
 refine wp_cond_false (e1.trans gy) ?_;clear e1 hk;refine wp_seq (Kd hs.sz hs.e35 ?_);intro a1 g1 e1;have hs:=hs.go g1;clear g1;by_cases hk:hw=7
 ·exact wp_cond_true (e1.trans gv) (EV hs h hS hz hR)
 refine wp_cond_false (e1.trans gy) ?_;clear e1 hk;refine wp_seq (Eo hs.sz hs.e35 ?_);intro a1 g1 e1;have hs:=hs.go g1;clear g1;by_cases hk:hw=8
 ·exact wp_cond_true (e1.trans gv) (Gg hs h hS hz hR)
 refine wp_cond_false (e1.trans gy) ?_;clear e1 hk;refine wp_seq (KW hs.sz hs.e11 (h.b11.cell' 4 rfl) ?_);intro a1 g1 e1;have hs:=hs.go g1;by_cases hk:0<x.weights.length
 ·exact wp_cond_true (e1.trans (by rw [aYi hk])) (FP hs h hS hz hR hk)
 refine wp_cond_false (e1.trans (by rw [aYj hk])) ?_;refine wp_seq (Jv hs.sz hs.e11 (h.b11.cell' 7 rfl) ?_);intro a2 g2 e2;have hs:=hs.go g2;by_cases hj:0<x.kids.length
 ·exact wp_cond_true (e2.trans (by rw [aYi hj])) (Kz hs h hS hz hR hj)
 exact wp_cond_false (e2.trans (by rw [aYj hj])) (wp_skip (hR a2 w x y hs.ag h hS.n ⟨Nat.le_succ _,.inl rfl⟩))
end
theorem Di {α:Type}{cur us:List α}{m q:Nat}(h1:q+us<=m)(h2:m<=cur):(cur.take q ++ us ++ cur.drop (q+us)).take m=(cur.take m).take q ++ us ++ (cur.take m).drop (q+us):=by
 have hl:(cur.take q ++ us).length=q+us:=by rw [aa,ak];omega
 rw [List.take_append,an I,hl,List.drop_take,List.take_take,Nat.min_eq_left I]
theorem LL {W:World}{B G n c k:Nat}{xs us:List Value}(ho:W.ownsRow B 60 12 (.slice (qp G) n c) n xs)(hk:k<n)(hu:us.length=12):(W.setCells G (k*12) us).ownsRow B 60 12 (.slice (qp G) n c) n (xs.take (k*12) ++ us ++ xs.drop ((k+1)*12)):=by
 obtain ⟨hl,⟨e,_⟩ | ⟨G',cap,cur,e,hb,hB,hn,hm,hs,ht⟩⟩:=ho
 ·cases e
 ·injection e with e1 _ e3
  injection e1 with e1;injection e1 with e1;subst e1 e3;have hcl:cur.toList=c*12:=by simpa using hs
  have q:=aF us (w:=W) (cs:=cur.toList) (g:=G) (t:=60) (k*12) hB I;refine ⟨?_,.inr ⟨G,c,_,rfl,hb,q,hn,hm,?_,?_⟩⟩
  ·simp only [aa,ak,am]
   omega
  ·simp only [List.size_toArray,aa,ak,am]
   omega
  ·rw [<- ht,show (k+1)*12=k*12+us.length by omega]
   exact Di I I
theorem RL.mid {R:GN->List Value->Prop}(hR:∀ x cs,R x cs->cs.length=12){t:List GN}{css us:List Value}{x:GN}{k:Nat}(h:RL R t css)(hx:R x us)(hk:k<t):RL R (t.set k x) (css.take (k*12) ++ us ++ css.drop ((k+1)*12)):=by
 rw [List.set_eq_take_append_cons_drop,if_pos hk,ah];exact (h.take hR k).append ((RL.one hx).append (h.drop hR (k+1)))
def rV (t:List GN)(P:Nat->Prop)(w:World)(e:Ending)(w':World):Prop:=∃ A c s,e=.returned (.agg #[.slice A s.length c])∧Nds w' (fun b=>P b∨w<=b) (.slice A s.length c) s∧(∀ x ∈ s,dG x)∧Ext w w'∧(s=t∨∃ k x',k<t.length∧s=t.set k x'∧Sp1 (t.getD k default) x')
section
variable {P:Nat->Prop}{t:List GN}{w:World}{a:Act}{vn:Value}{at_ how z:Int}{R:Exit->Act->World->Prop}
theorem BC {W:World}{B G n c k:Nat}{css:List Value}(ho:W.ownsRow B 60 12 (.slice (qp G) n c) n css)(hk:k<n){j:Nat}{u:Value}(hj:j<12)(hu:((css.drop (k*12)).take 12)[j]?=some u):qc W G (k*12+j) u:=by
 rw [ho.cellAt (k*12+j) I,<- hu,List.getElem?_take,if_pos hj,List.getElem?_drop]
theorem DL (hP:∀ k,P k->k<w)(ht:Nds w P vn t)(hlen:t.length<=1000)(hsm:∀ x ∈ t,fI x)(h1:I64 at_)(h2:I64 how)(hz:I64 z)
  (hsz:a.tmps.size=135)(e0:qq a 0 (.agg #[vn]))(e1:qq a 1 at_)(e2:qq a 2 how)(e3:qq a 3 z)
  (hR:∀ a' w' v,a'.defers=a.defers->qq a' 8 (qp (w+1))->qc w' (w+1) 0 v->rV t P w (.returned (.agg #[v])) w'->R .ret a' w'):qw zj R a w:=by
 obtain ⟨An,cn,css,rfl,-,-,hsl,hrl⟩:=ht;refine wp_seq (IP hsz e0 ?_);intro a1 g1 e4 e8;have hb4:=(aw w 25 #[.slice An t cn]).alloc (qk #[qn] 25);have hb8:=az (w.alloc (qk #[.slice An t cn] 25)) 25 #[qn] (g:=w.heap.size+1) U;have hx1:Ext w ((w.alloc (qk #[.slice An t cn] 25)).alloc (qk #[qn] 25)):=((aq w).alloc' _).alloc' _;generalize (w.alloc (qk #[.slice An t cn] 25)).alloc (qk #[qn] 25)=W1 at *;have z1:=g1.sz.trans hsz;refine wp_seq (EB z1 ?_);intro a2 W2 g2 e9 hb9 hx2;have z2:=g2.sz.trans z1;have l8:=hb8.lt;have hE2:=hx1.trans' hx2;refine wp_seq (Kg z2 (g2.get 4 e4) e9 ((hb4.ext hx2).cell' 0 rfl) hb9 (hsl.keep (aB.of_ext hE2) (fun _ h=>h)) I (RN.one hrl) ?_);intro a3 v W3 ho3 hx3 g3;have z3:=g3.sz.trans z2;have l9:=hb9.lt;have q9:Blk (W3.setCell (qp W1) v) W1 25 #[v]:=(hb9.ext hx3).set_ 0 v;have hge:=fun b hb=>ho3.block_ge (b:=b) hb
 have ho:=cP (M:=fun k=>k=W1.heap.size) ho3 (fW (aq W3) (g:=W1.heap.size) (o:=0) (u:=v)) (fun b hb e=>by have:=hge b hb;omega);have q8:=((hb8.ext hx2).ext hx3).far (p:=qp W1) (by show w.heap.size+1 ≠ W1;omega) v;have hE3:Ext w (W3.setCell (qp W1) v):=((ar (hE2.trans' hx3)).setCell (M:=fun _=>False) (p:=qp W1) (.inr hx1.size) v).ext;have hsW:=hx1.size;have hs3:W3.heap.size=(W3.setCell (qp W1) v):=by simp [World.setCell]
 have hs4:=hx3.size;generalize W3.setCell (qp W1) v=W at *;have ho:W.ownsRow w 60 12 v t css:=⟨ho.1,ho.2.imp id (fun ⟨G,cap,cur,q1,q2,q3⟩=>⟨G,cap,cur,q1,I,q3⟩)⟩;obtain ⟨A,c,rfl,-,-,-⟩:=Sl.of_own ho;have f8:=g3.get 8 (g2.get 8 e8);have f9:=g3.get 9 e9;refine wp_seq (wp_seq (IZ z3 f9 (q9.cell' 0 rfl) ?_));intro a4 g4 e22;have z4:=g4.sz.trans z3;have d4:a4.defers=a.defers:=g4.df.trans (g3.df.trans (g2.df.trans g1.df));by_cases h0:t.length=0
 ·refine wp_cond_true (e22.trans (by rw [h0];rfl)) (wp_seq (Jq z4 (g4.get 8 f8) (g4.get 9 f9) (q9.cell' 0 rfl) q8 ?_))
  intro a5 g5;have hE5:Ext w (W.setCell (qp (w+1)) (.slice A t c)):=((ar hE3).setCell (M:=fun _=>False) (p:=qp (w+1)) (.inr (Nat.le_succ _)) _).ext;refine wp_ret (hR a5 _ (.slice A t c) (g5.df.trans d4) (g5.get 8 (g4.get 8 f8)) ((q8.set_ 0 _).cell' 0 rfl) ⟨A,c,t,rfl,?_,fun x hx=>(hsm x hx).n,hE5,.inl rfl⟩);refine Lst.of_own (cP (M:=fun k=>k=w.heap.size+1) ho (fW (aq W)) (fun b hb e=>?_)) (hrl.move qY (aB.of_ext hE5) (fun _ _ h=>.inl h)) I (fun b hb=>.inr (ho.block_ge hb));have:=hge b hb;omega
 refine wp_cond_false (e22.trans (by rw [aYg I])) (wp_skip ?_);have hp:=gM (n:=at_) (m:=(t:Int)) I;refine wp_seq (Ly z4 (g4.get 1 (g3.get 1 (g2.get 1 (g1.get 1 e1)))) (g4.get 9 f9) (q9.cell' 0 rfl) ((fL at_ t W h1 I I).mono (fun _ _ q=>⟨q.1,q.2.symm⟩)) ?_);intro a5 g5 e10;have z5:=g5.sz.trans z4;obtain ⟨k,hk⟩:∃ k:Nat,fH at_ t.length=(k:Int):=⟨(fH at_ t).toNat,I⟩;rw [hk] at e10 hp;have hkt:k<t.length:=by omega
 obtain ⟨G,rfl⟩:∃ G,A=some ↑(qp G):=by
  rcases ho.2 with ⟨_,e⟩ | ⟨G,cap,cur,e,-⟩
  ·omega
  ·injection e with e
   exact ⟨G,e⟩
 have hG:W2<=G:=hge G rfl;obtain ⟨y,hy,hny⟩:=RL.get (qY.len w P) hrl default hkt;have hxm:fI (t.getD k default):=hsm _ (aC hkt);generalize hxx:t.getD k default=x at *;refine wp_seq (Km z5 (g5.get 9 (g4.get 9 f9)) e10 (q9.cell' 0 rfl) hkt (x:=x) (y:=y) (fun j u hu=>BC ho hkt (by have:=(List.getElem?_eq_some_iff.1 hu).1;simpa using this) (by rw [hy];exact hu)) ?_);intro a6 W6 g6 e11 hb11 hx6;have z6:=g6.sz.trans z5;have hE6:=hE3.trans' hx6;have hlG:G<W:=ho.block_lt rfl
 have hA:SpA w P (.slice (qp G) t c) t css (w+1) W1 W x y W6:=by
  refine ⟨hE6,q8.ext hx6,q9.ext hx6,hb11,ho.ext_ hx6,hny.keep (aB.of_ext hE6) (fun b hb=>⟨.inl hb,?_,?_,?_,?_⟩),⟨Nat.le_succ _,hsW,hE3.size⟩,⟨?_,?_,?_⟩,⟨?_,?_,?_⟩⟩
  ·have:=hP b hb;omega
  ·have:=hP b hb;omega
  ·have:=hP b hb;have:=hE3.size;omega
  ·intro e;have:=hP b hb;simp [Value.ownBlock] at e;omega
  ·omega
  ·omega
  ·omega
  ·intro e;simp [Value.ownBlock] at e;omega
  ·intro e;simp [Value.ownBlock] at e;omega
  ·intro e;simp [Value.ownBlock] at e;omega
 refine wp_seq (wp_seq (Gx z6 (g6.get 2 (g5.get 2 (g4.get 2 (g3.get 2 (g2.get 2 (g1.get 2 e2)))))) ((fL how 10 W6 h2 I I).mono (fun _ _ q=>⟨q.1,q.2.symm⟩)) ?_));intro a7 g7 e35;have z7:=g7.sz.trans z6;refine wp_block (Gp (a0:=a7) ⟨z7,g7.get 3 (g6.get 3 (g5.get 3 (g4.get 3 (g3.get 3 (g2.get 3 (g1.get 3 e3)))))),g7.get 11 e11,e35,.rf⟩ hA hxm hz ?_);intro a8 W8 x' y' g8 hA' hxs hsp;have z8:=g8.sz.trans z7
 obtain ⟨cur,hBG⟩:∃ cur,Blk W8 G 60 cur:=by
  obtain ⟨-,⟨e,_⟩ | ⟨G',cap,cur,e,hb,hB,-⟩⟩:=hA'.own
  ·cases e
  ·injection e with e
   injection e with e;injection e with e;subst e;exact ⟨cur,hB⟩
 have hcl:css.length=t*12:=hA'.own.1;refine wp_seq (Hv (x:=x') (y:=y') z8 (g8.get 9 (g7.get 9 (g6.get 9 (g5.get 9 (g4.get 9 f9))))) (g8.get 10 (g7.get 10 (g6.get 10 e10))) (g8.get 11 (g7.get 11 e11)) (hA'.b9.cell' 0 rfl) hkt hA'.b11 (fun j hj=>⟨_,BC hA'.own hkt hj (by rw [List.getElem?_take,if_pos hj,List.getElem?_drop];exact List.getElem?_eq_getElem I)⟩) hBG.frozen ?_);intro a9 g9;have z9:=g9.sz.trans z8;have hn8:W1 ≠ G:=by omega
 have hn9:w+1 ≠ G:=I;have r9:=hA'.b9.farCells hn8 (aN x' y') (k*12);have r8:=hA'.b8.farCells hn9 (aN x' y') (k*12);have ho9:=LL (us:=aN x' y') hA'.own hkt rfl;have hF9:Fr (fun b=>b=G) W8 (W8.setCells G (k*12) (aN x' y')):=Fr.setCells (M:=fun b=>b=G) _ _ (au _ W8) (.inl rfl);generalize W8.setCells G (k*12) (aN x' y')=W9 at *;refine wp_seq (Gu z9 (g9.get 8 (g8.get 8 (g7.get 8 (g6.get 8 (g5.get 8 (g4.get 8 f8)))))) (g9.get 9 (g8.get 9 (g7.get 9 (g6.get 9 (g5.get 9 (g4.get 9 f9)))))) (r9.cell' 0 rfl) r8 ?_);intro a10 g10;have hF10:Fr (fun b=>b=w.heap.size+1) W9 (W9.setCell (qp (w+1)) (.slice (qp G) t c)):=fW (aq W9);have hEF:Ext w (W9.setCell (qp (w+1)) (.slice (qp G) t c)):=((ar hA'.ext).trans ((hF9.mono (N:=fun b=>w.heap.size<=b) (fun b hb=>by omega)).trans (hF10.mono (fun b hb=>by omega)))).new_ext (fun _ h=>h);have hlt:(t.set k x').length=t.length:=by simp
 refine wp_ret (hR a10 _ (.slice (qp G) t c) (g10.df.trans (g9.df.trans (g8.df.trans (g7.df.trans (g6.df.trans (g5.df.trans d4)))))) (g10.get 8 (g9.get 8 (g8.get 8 (g7.get 8 (g6.get 8 (g5.get 8 (g4.get 8 f8))))))) ((r8.set_ 0 _).cell' 0 rfl) ⟨some ↑(qp G),c,t.set k x',by rw [hlt],?_,fun u hu=>?_,hEF,.inr ⟨k,x',hkt,rfl,by rw [hxx];exact hsp⟩⟩)
 ·rw [hlt]
  have hoF:=cP (M:=fun b=>b=w.heap.size+1) ho9 hF10 (fun b hb e=>by simp [Value.ownBlock] at hb;omega);refine Lst.of_own (hoF.len_cast hlt.symm rfl) (RL.mid (qY.len _ _) (hrl.move qY (aB.of_ext hEF) (fun _ _ h=>.inl h)) ⟨y',rfl,?_⟩ hkt) I (fun b hb=>.inr (ho9.block_ge hb));have h5:aB (SpP w P (.slice (qp G) t c) (w+1) W1 W) W8 W9:=aB.of_fr hF9 (fun b hb e=>hb.2.2.2.2 gj);have h6:NAt W9 (SpP w P (.slice (qp G) t c) (w+1) W1 W) x' y':=hA'.nat.keep h5 (fun _ h=>h);exact h6.keep (aB.of_fr hF10 (fun b hb e=>hb.2.1 e)) (fun b hb=>hb.1)
 ·rcases List.mem_or_eq_of_mem_set hu with hu | rfl
  ·exact (hsm u hu).n
  ·exact hxs
theorem FE (hP:∀ k,P k->k<w)(ht:Nds w P vn t)(hlen:t.length<=1000)(hsm:∀ x ∈ t,fI x)(h1:I64 at_)(h2:I64 how)(hz:I64 z):qg 8 #[.agg #[vn],↑at_,↑how,↑z] w (rV t P w):=by
 refine calls_of_wp Tryz.func8 Ej (DL hP ht hlen hsm h1 h2 hz ?_ ?_ ?_ ?_ ?_ ?_)
 ·simp [Tryz.ntmps8]
 ·simp [Ev,Act.eval]
 ·simp [Ev,Act.eval]
 ·simp [Ev,Act.eval]
 ·simp [Ev,Act.eval]
 ·intro a' w' v q1 q2 q3 q4
  refine bodyPost_ret (v:=.agg #[v]) ?_ q1 q4;have h5:a'.tmps[8]?.getD undef=↑(qp (w+1)):=by rw [<- q2];simp [Ev,Act.eval]
  simp [results,Tryz.results8,go_sem,h5,q3]
end
