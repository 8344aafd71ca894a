/- Contracts of functions, plain laws. Conditions: none. -/
import Derived.Test.YtkoeecdjijfjnaaGreatSD
import Derived.Test.YtkoeecdjijfjnaaGreatLY
set_option maxRecDepth 100000
set_option maxHeartbeats 8000000
namespace Go.Proofs.YtkoeecdjijfjnaaGreat
open Go.RowKit
noncomputable def aQx:Code:=(Tryz.f21.body.bind (aO 0)).getD .skip
noncomputable def aQw:Code:=(Tryz.f21.body.bind (aO 1)).getD .skip
noncomputable def aQv:Code:=(Tryz.f21.body.bind (aO 2)).getD .skip
noncomputable def aQu:Code:=(Tryz.f21.body.bind (aO 3)).getD .skip
noncomputable def aQt:Code:=(Tryz.f21.body.bind (aO 4)).getD .skip
noncomputable def aQs:Code:=(Tryz.f21.body.bind (aO 5)).getD .skip
noncomputable def aQr:Code:=(Tryz.f21.body.bind (aO 6)).getD .skip
noncomputable def aQq:Code:=(Tryz.f21.body.bind (aO 7)).getD .skip
noncomputable def aQp:Code:=(Tryz.f21.body.bind (aO 8)).getD .skip
noncomputable def aM7:Code:=(Tryz.f21.body.bind (aO 9)).getD .skip
noncomputable def aDy:Code:=(Tryz.f21.body.bind (aO 10)).getD .skip
noncomputable def aJb:Code:=(Tryz.f21.body.bind (aO 11)).getD .skip
noncomputable def aDx:Code:=(Tryz.f21.body.bind (aO 12)).getD .skip
noncomputable def aDw:Code:=(Tryz.f21.body.bind (aO 13)).getD .skip
noncomputable def aJa:Code:=(Tryz.f21.body.bind (aO 14)).getD .skip
noncomputable def aDv:Code:=(Tryz.f21.body.bind (aO 15)).getD .skip
noncomputable def aI9:Code:=(Tryz.f21.body.bind (aO 16)).getD .skip
noncomputable def aDu:Code:=(Tryz.f21.body.bind (aO 17)).getD .skip
noncomputable def aI8:Code:=(Tryz.f21.body.bind (aO 18)).getD .skip
noncomputable def aDt:Code:=(Tryz.f21.body.bind (aO 19)).getD .skip
noncomputable def aI7:Code:=(Tryz.f21.body.bind (aO 20)).getD .skip
noncomputable def aDs:Code:=(Tryz.f21.body.bind (aO 21)).getD .skip
noncomputable def aI6:Code:=(Tryz.f21.body.bind (aO 22)).getD .skip
noncomputable def aDr:Code:=(Tryz.f21.body.bind (aO 23)).getD .skip
noncomputable def aI5:Code:=(Tryz.f21.body.bind (aO 24)).getD .skip
noncomputable def aDq:Code:=(Tryz.f21.body.bind (aO 25)).getD .skip
noncomputable def aI4:Code:=(Tryz.f21.body.bind (aO 26)).getD .skip
noncomputable def aDp:Code:=(Tryz.f21.body.bind (aO 27)).getD .skip
noncomputable def aI3:Code:=(Tryz.f21.body.bind (aO 28)).getD .skip
noncomputable def aDo:Code:=(Tryz.f21.body.bind (aO 29)).getD .skip
noncomputable def aI2:Code:=(Tryz.f21.body.bind (aO 30)).getD .skip
noncomputable def aDn:Code:=(Tryz.f21.body.bind (aO 31)).getD .skip
noncomputable def aI1:Code:=(Tryz.f21.body.bind (aO 32)).getD .skip
noncomputable def aI0:Code:=(Tryz.f21.body.bind (aO 33)).getD .skip
section
variable {Q:Exit->Act->World->Prop}{a:Act}{w:World}{g g4 g8 g9:Nat}{z:Int}{v:Value}{k n c:Nat}{A:Option Addr}
theorem aMd (hsz:a.tmps.size=135)(e0:Ev a (.tmp 0)=.agg #[v])(h:∀ a',Ag [1,2,3] a a'->Ev a' (.tmp 4)=.pointer (some ⟨w.heap.size,0,none⟩)->Ev a' (.tmp 8)=.pointer (some ⟨w.heap.size+1,0,none⟩)->Q .normal a' ((w.alloc (.cells #[v] 25)).alloc (.cells #[.slice none 0 0] 25))):Code.wp Tryz.prog aQx Q a w:=by
 conv=>arg 2;whnf
 refine aA ?_
 iterate 2 refine l_v rfl rfl (by simp [execOp,go_sem, *];exact ⟨rfl,rfl⟩) ?_
 exact aQ (h _ (by (repeat refine .put ?_ rfl);exact .rf) (by simp [*]) (by simp [*]))
theorem aMc (hsz:a.tmps.size=135)(h:∀ a' w',Ag [1,2,3,4,8] a a'->Ev a' (.tmp 9)=.pointer (some ⟨w.heap.size,0,none⟩)->Blk w' w.heap.size 25 #[.slice none 0 0]->Ext w w'->Q .normal a' w'):Code.wp Tryz.prog aQw Q a w:=by
 conv=>arg 2;whnf
 refine aA ?_
 iterate 2 refine l_v rfl rfl (by simp [execOp,go_sem, *];exact ⟨rfl,rfl⟩) ?_
 have hB:=Blk.new w 25 #[.slice none 0 0];have hX:Ext w (w.alloc (.cells #[.slice none 0 0] 25)):=(Ext.refl w).alloc' _;generalize w.alloc (.cells #[.slice none 0 0] 25)=W at *;refine l_s rfl rfl (by simp [execOp,go_sem,hB.cell,hB.frozen, *];rfl) ?_;exact aQ (h _ _ (by (repeat refine .put ?_ rfl);exact .rf) (by simp [*]) (hB.set_ 0 _) (hX.setCell' (p:=⟨w.heap.size,0,none⟩) (Nat.le_refl _) _))
theorem aMb {xs:List Value}{S:Nat->Prop}(hsz:a.tmps.size=135)(e4:Ev a (.tmp 4)=.pointer (some ⟨g4,0,none⟩))(e9:Ev a (.tmp 9)=.pointer (some ⟨g9,0,none⟩))(c4:w.cell? ⟨g4,0,none⟩=some (.slice A n c))(hB:Blk w g9 25 #[.slice none 0 0])(hs:Sl w S 12 A n xs)(hn:n<=1000000)(hone:∀ u ∈ xs,u.oneCell'=true)
  (h:∀ a' v5 w5,w5.ownsRow w.heap.size 87 12 v5 n xs->Ext w w5->Ag [1,2,3,8,9] a a'->Q .normal a' (w5.setCell ⟨g9,0,none⟩ v5)):Code.wp Tryz.prog aQv Q a w:=by
 conv=>arg 2;whnf
 refine aA ?_;have c9:=hB.cell' (u:=.slice none 0 0) 0 rfl
 iterate 4 refine l_v rfl rfl (by simp [execOp,go_sem, *];exact ⟨rfl,rfl⟩) ?_
 refine l_a rfl rfl rfl Tryz.underlying23 Tryz.info87 rfl (by omega) (aX w w.heap.size 87 12) hs (by simp [*]) (by simp [*];rfl) hone (by omega) (by omega) (Nat.le_refl _) ?_;intro v5 w5 ho hf hb;have hX:Ext w w5:=Fr.none_ext hf;have hB5:=hB.ext hX;have q:=hB5.cell' (u:=.slice none 0 0) 0 rfl;have f:=hB5.frozen 0;obtain ⟨A5,c5,rfl,-,-,-⟩:=Sl.of_own ho
 iterate 1 refine l_v rfl rfl (by simp [execOp,go_sem, *];exact ⟨rfl,rfl⟩) ?_
 refine l_s rfl rfl (by simp [execOp,go_sem, *];rfl) ?_;exact aQ (h _ _ w5 (by simpa using ho) hX (by (repeat refine .put ?_ rfl);exact .rf))
theorem aMa (hsz:a.tmps.size=135)(e9:Ev a (.tmp 9)=.pointer (some ⟨g9,0,none⟩))(c9:w.cell? ⟨g9,0,none⟩=some (.slice A n c))(h:∀ a',Ag [1,2,3,8,9] a a'->Ev a' (.tmp 22)=.bool ((n:Int) == 0)->Q .normal a' w):Code.wp Tryz.prog aQu Q a w:=by
 conv=>arg 2;whnf
 refine aA ?_
 iterate 4 refine l_v rfl rfl (by simp [execOp,go_sem, *];exact ⟨rfl,rfl⟩) ?_
 exact aQ (h _ (by (repeat refine .put ?_ rfl);exact .rf) (by simp [*]))
theorem aL9 (hsz:a.tmps.size=135)(e8:Ev a (.tmp 8)=.pointer (some ⟨g8,0,none⟩))(e9:Ev a (.tmp 9)=.pointer (some ⟨g9,0,none⟩))(c9:w.cell? ⟨g9,0,none⟩=some (.slice A n c))(hB:Blk w g8 25 #[.slice none 0 0])(h:∀ a',Ag [8] a a'->Q .normal a' (w.setCell ⟨g8,0,none⟩ (.slice A n c))):Code.wp Tryz.prog aQt Q a w:=by
 conv=>arg 2;whnf
 refine aA ?_
 iterate 1 refine l_v rfl rfl (by simp [execOp,go_sem, *];exact ⟨rfl,rfl⟩) ?_
 refine l_s rfl rfl (by simp [execOp,go_sem,hB.cell,hB.frozen, *];rfl) ?_;exact aQ (h _ (by (repeat refine .put ?_ rfl);exact .rf))
theorem aGq (hsz:a.tmps.size=135)(e8:Ev a (.tmp 8)=.pointer (some ⟨g8,0,none⟩))(e9:Ev a (.tmp 9)=.pointer (some ⟨g9,0,none⟩))(c9:w.cell? ⟨g9,0,none⟩=some (.slice A n c))(hB:Blk w g8 25 #[.slice none 0 0])(h:∀ a',Ag [8] a a'->Q .normal a' (w.setCell ⟨g8,0,none⟩ (.slice A n c))):Code.wp Tryz.prog aI0 Q a w:=by
 conv=>arg 2;whnf
 refine aA ?_
 iterate 1 refine l_v rfl rfl (by simp [execOp,go_sem, *];exact ⟨rfl,rfl⟩) ?_
 refine l_s rfl rfl (by simp [execOp,go_sem,hB.cell,hB.frozen, *];rfl) ?_;exact aQ (h _ (by (repeat refine .put ?_ rfl);exact .rf))
theorem aL8 {p:Int}(hsz:a.tmps.size=135)(e1:Ev a (.tmp 1)=.int .i64 z)(e9:Ev a (.tmp 9)=.pointer (some ⟨g9,0,none⟩))(c9:w.cell? ⟨g9,0,none⟩=some (.slice A n c))(hc:Calls Tryz.prog 9 #[.int .i64 z,.int .i64 (n:Int)] w fun e w'=>e=.returned (.int .i64 p)∧w'=w)
  (h:∀ a',Ag [2,3,8,9] a a'->Ev a' (.tmp 10)=.int .i64 p->Q .normal a' w):Code.wp Tryz.prog aQs Q a w:=by
 conv=>arg 2;whnf
 refine aA ?_
 iterate 4 refine l_v rfl rfl (by simp [execOp,go_sem, *];exact ⟨rfl,rfl⟩) ?_
 refine l_c rfl rfl rfl Tryz.func9 (by rfl) (by rfl) hc (by simp [*]) ?_;rintro e w' ⟨rfl,rfl⟩;refine ⟨_,rfl,?_⟩
 iterate 1 refine l_v rfl rfl (by simp [execOp,go_sem, *];exact ⟨rfl,rfl⟩) ?_
 exact aQ (h _ (by (repeat refine .put ?_ rfl);exact .rf) (by simp [*]))
theorem aL7 {G:Nat}{x:GN}{y:NA}(hsz:a.tmps.size=135)(e9:Ev a (.tmp 9)=.pointer (some ⟨g9,0,none⟩))(e10:Ev a (.tmp 10)=.int .i64 (k:Int))(c9:w.cell? ⟨g9,0,none⟩=some (.slice (some ⟨G,0,none⟩) n c))(hk:k<n)(hx:∀ j u,(aE x y)[j]?=some u->w.cell? ⟨G,k*12+j,none⟩=some u)
  (h:∀ a' w',Ag [2,3,8,9,10] a a'->Ev a' (.tmp 11)=.pointer (some ⟨w.heap.size,0,none⟩)->Blk w' w.heap.size 87 (aE x y).toArray->Ext w w'->Q .normal a' w'):Code.wp Tryz.prog aQr Q a w:=by
 have q0:=hx 0 _ rfl;have q1:=hx 1 _ rfl;have q2:=hx 2 _ rfl;have q3:=hx 3 _ rfl;have q4:=hx 4 _ rfl;have q5:=hx 5 _ rfl;have q6:=hx 6 _ rfl;have q7:=hx 7 _ rfl;have q8:=hx 8 _ rfl;have q9:=hx 9 _ rfl;have q10:=hx 10 _ rfl;have q11:=hx 11 _ rfl;rw [Nat.add_zero] at q0;clear hx;have hk':(k:Int)<(n:Int):=by omega
 conv=>arg 2;whnf
 refine aA ?_
 iterate 6 refine l_v rfl rfl (by simp [execOp,go_sem, *];exact ⟨rfl,rfl⟩) ?_
 clear q0 q1 q2 q3 q4 q5 q6 q7 q8 q9 q10 q11;have hB:=Blk.new w 87 #[.int .i64 0,.string ⟨#[]⟩,.int .i64 0,.int .i64 0,.slice none 0 0,.slice none 0 0,.slice none 0 0,.slice none 0 0,.int .i64 0,.int .i64 0,.string ⟨#[]⟩,.slice none 0 0];have hX:Ext w (w.alloc (.cells #[.int .i64 0,.string ⟨#[]⟩,.int .i64 0,.int .i64 0,.slice none 0 0,.slice none 0 0,.slice none 0 0,.slice none 0 0,.int .i64 0,.int .i64 0,.string ⟨#[]⟩,.slice none 0 0] 87)):=(Ext.refl w).alloc' _;generalize w.alloc (.cells #[.int .i64 0,.string ⟨#[]⟩,.int .i64 0,.int .i64 0,.slice none 0 0,.slice none 0 0,.slice none 0 0,.slice none 0 0,.int .i64 0,.int .i64 0,.string ⟨#[]⟩,.slice none 0 0] 87)=W at *;refine l_s rfl rfl (by simp [execOp,go_sem,hB.cell,hB.frozen,hsz];rfl) ?_;refine aQ (h _ _ (by (repeat refine .put ?_ rfl);exact .rf) (by simp [*]) (aR (aE x y) (cs:=[.int .i64 0,.string ⟨#[]⟩,.int .i64 0,.int .i64 0,.slice none 0 0,.slice none 0 0,.slice none 0 0,.slice none 0 0,.int .i64 0,.int .i64 0,.string ⟨#[]⟩,.slice none 0 0]) 0 hB (by simp)) ?_);exact ((Fr.of_ext (M:=fun _=>False) hX).setCells (aE x y) 0 (.inr (Nat.le_refl _))).ext
theorem aL6 {p:Int}(hsz:a.tmps.size=135)(e2:Ev a (.tmp 2)=.int .i64 z)(hc:Calls Tryz.prog 9 #[.int .i64 z,.int .i64 10] w fun e w'=>e=.returned (.int .i64 p)∧w'=w)
  (h:∀ a',Ag [3,8,9,10,11] a a'->Ev a' (.tmp 35)=.int .i64 p->Q .normal a' w):Code.wp Tryz.prog aQq Q a w:=by
 conv=>arg 2;whnf
 refine aA ?_
 iterate 1 refine l_v rfl rfl (by simp [execOp,go_sem, *];exact ⟨rfl,rfl⟩) ?_
 refine l_c rfl rfl rfl Tryz.func9 (by rfl) (by rfl) hc (by simp [*]) ?_;rintro e w' ⟨rfl,rfl⟩;exact ⟨_,rfl,aQ (h _ (by (repeat refine .put ?_ rfl);exact .rf) (by simp [*]))⟩
theorem aG9 (hsz:a.tmps.size=135)(e35:Ev a (.tmp 35)=.int .i64 z)(h:∀ a',Ag [3,8,9,10,11,35] a a'->Ev a' (.tmp 62)=.bool (z == 0)->Q .normal a' w):Code.wp Tryz.prog aJa Q a w:=by
 conv=>arg 2;whnf
 refine aA ?_
 iterate 2 refine l_v rfl rfl (by simp [execOp,go_sem, *];exact ⟨rfl,rfl⟩) ?_
 exact aQ (h _ (by (repeat refine .put ?_ rfl);exact .rf) (by simp [*]))
theorem aG7 (hsz:a.tmps.size=135)(e35:Ev a (.tmp 35)=.int .i64 z)(h:∀ a',Ag [3,8,9,10,11,35] a a'->Ev a' (.tmp 66)=.bool (z == 1)->Q .normal a' w):Code.wp Tryz.prog aI9 Q a w:=by
 conv=>arg 2;whnf
 refine aA ?_
 iterate 2 refine l_v rfl rfl (by simp [execOp,go_sem, *];exact ⟨rfl,rfl⟩) ?_
 exact aQ (h _ (by (repeat refine .put ?_ rfl);exact .rf) (by simp [*]))
theorem aG5 (hsz:a.tmps.size=135)(e35:Ev a (.tmp 35)=.int .i64 z)(h:∀ a',Ag [3,8,9,10,11,35] a a'->Ev a' (.tmp 70)=.bool (z == 2)->Q .normal a' w):Code.wp Tryz.prog aI8 Q a w:=by
 conv=>arg 2;whnf
 refine aA ?_
 iterate 2 refine l_v rfl rfl (by simp [execOp,go_sem, *];exact ⟨rfl,rfl⟩) ?_
 exact aQ (h _ (by (repeat refine .put ?_ rfl);exact .rf) (by simp [*]))
theorem aG3 (hsz:a.tmps.size=135)(e35:Ev a (.tmp 35)=.int .i64 z)(h:∀ a',Ag [3,8,9,10,11,35] a a'->Ev a' (.tmp 74)=.bool (z == 3)->Q .normal a' w):Code.wp Tryz.prog aI7 Q a w:=by
 conv=>arg 2;whnf
 refine aA ?_
 iterate 2 refine l_v rfl rfl (by simp [execOp,go_sem, *];exact ⟨rfl,rfl⟩) ?_
 exact aQ (h _ (by (repeat refine .put ?_ rfl);exact .rf) (by simp [*]))
theorem aG1 (hsz:a.tmps.size=135)(e35:Ev a (.tmp 35)=.int .i64 z)(h:∀ a',Ag [3,8,9,10,11,35] a a'->Ev a' (.tmp 84)=.bool (z == 4)->Q .normal a' w):Code.wp Tryz.prog aI6 Q a w:=by
 conv=>arg 2;whnf
 refine aA ?_
 iterate 2 refine l_v rfl rfl (by simp [execOp,go_sem, *];exact ⟨rfl,rfl⟩) ?_
 exact aQ (h _ (by (repeat refine .put ?_ rfl);exact .rf) (by simp [*]))
theorem aGz (hsz:a.tmps.size=135)(e35:Ev a (.tmp 35)=.int .i64 z)(h:∀ a',Ag [3,8,9,10,11,35] a a'->Ev a' (.tmp 94)=.bool (z == 5)->Q .normal a' w):Code.wp Tryz.prog aI5 Q a w:=by
 conv=>arg 2;whnf
 refine aA ?_
 iterate 2 refine l_v rfl rfl (by simp [execOp,go_sem, *];exact ⟨rfl,rfl⟩) ?_
 exact aQ (h _ (by (repeat refine .put ?_ rfl);exact .rf) (by simp [*]))
theorem aGx (hsz:a.tmps.size=135)(e35:Ev a (.tmp 35)=.int .i64 z)(h:∀ a',Ag [3,8,9,10,11,35] a a'->Ev a' (.tmp 102)=.bool (z == 6)->Q .normal a' w):Code.wp Tryz.prog aI4 Q a w:=by
 conv=>arg 2;whnf
 refine aA ?_
 iterate 2 refine l_v rfl rfl (by simp [execOp,go_sem, *];exact ⟨rfl,rfl⟩) ?_
 exact aQ (h _ (by (repeat refine .put ?_ rfl);exact .rf) (by simp [*]))
theorem aGv (hsz:a.tmps.size=135)(e35:Ev a (.tmp 35)=.int .i64 z)(h:∀ a',Ag [3,8,9,10,11,35] a a'->Ev a' (.tmp 111)=.bool (z == 7)->Q .normal a' w):Code.wp Tryz.prog aI3 Q a w:=by
 conv=>arg 2;whnf
 refine aA ?_
 iterate 2 refine l_v rfl rfl (by simp [execOp,go_sem, *];exact ⟨rfl,rfl⟩) ?_
 exact aQ (h _ (by (repeat refine .put ?_ rfl);exact .rf) (by simp [*]))
theorem aGt (hsz:a.tmps.size=135)(e35:Ev a (.tmp 35)=.int .i64 z)(h:∀ a',Ag [3,8,9,10,11,35] a a'->Ev a' (.tmp 122)=.bool (z == 8)->Q .normal a' w):Code.wp Tryz.prog aI2 Q a w:=by
 conv=>arg 2;whnf
 refine aA ?_
 iterate 2 refine l_v rfl rfl (by simp [execOp,go_sem, *];exact ⟨rfl,rfl⟩) ?_
 exact aQ (h _ (by (repeat refine .put ?_ rfl);exact .rf) (by simp [*]))
theorem aG8 (hsz:a.tmps.size=135)(e3:Ev a (.tmp 3)=.int .i64 z)(e11:Ev a (.tmp 11)=.pointer (some ⟨g,0,none⟩)){cs:Array Value}(hB:Blk w g 87 cs)(hc:cs[0]?=some v)(h:∀ a',Ag [8,9,10,11] a a'->Q .normal a' (w.setCell ⟨g,0,none⟩ (.int .i64 z))):Code.wp Tryz.prog aDv Q a w:=by
 conv=>arg 2;whnf
 refine aA ?_
 iterate 2 refine l_v rfl rfl (by simp [execOp,go_sem, *];exact ⟨rfl,rfl⟩) ?_
 refine l_s rfl rfl (by simp [execOp,go_sem,hB.cell,hB.frozen, *];rfl) ?_;exact aQ (h _ (by (repeat refine .put ?_ rfl);exact .rf))
theorem aG6 (hsz:a.tmps.size=135)(e3:Ev a (.tmp 3)=.int .i64 z)(e11:Ev a (.tmp 11)=.pointer (some ⟨g,0,none⟩)){cs:Array Value}(hB:Blk w g 87 cs)(hc:cs[2]?=some v)(h:∀ a',Ag [8,9,10,11] a a'->Q .normal a' (w.setCell ⟨g,2,none⟩ (.int .i64 z))):Code.wp Tryz.prog aDu Q a w:=by
 conv=>arg 2;whnf
 refine aA ?_
 iterate 2 refine l_v rfl rfl (by simp [execOp,go_sem, *];exact ⟨rfl,rfl⟩) ?_
 refine l_s rfl rfl (by simp [execOp,go_sem,hB.cell,hB.frozen, *];rfl) ?_;exact aQ (h _ (by (repeat refine .put ?_ rfl);exact .rf))
theorem aG4 (hsz:a.tmps.size=135)(e3:Ev a (.tmp 3)=.int .i64 z)(e11:Ev a (.tmp 11)=.pointer (some ⟨g,0,none⟩)){cs:Array Value}(hB:Blk w g 87 cs)(hc:cs[3]?=some v)(h:∀ a',Ag [8,9,10,11] a a'->Q .normal a' (w.setCell ⟨g,3,none⟩ (.int .i64 z))):Code.wp Tryz.prog aDt Q a w:=by
 conv=>arg 2;whnf
 refine aA ?_
 iterate 2 refine l_v rfl rfl (by simp [execOp,go_sem, *];exact ⟨rfl,rfl⟩) ?_
 refine l_s rfl rfl (by simp [execOp,go_sem,hB.cell,hB.frozen, *];rfl) ?_;exact aQ (h _ (by (repeat refine .put ?_ rfl);exact .rf))
theorem aG2 {l:List Int}{P:Nat->Prop}(hsz:a.tmps.size=135)(e3:Ev a (.tmp 3)=.int .i64 z)(hz:I64 z)(e11:Ev a (.tmp 11)=.pointer (some ⟨g,0,none⟩)){cs:Array Value}(hB:Blk w g 87 cs)(hc:cs[4]?=some (.slice A l.length c))(hl:bT w P (.slice A l.length c) l)(hn:l.length<=1000000)
  (h:∀ a' A' c' W,Ag [8,9,10,11] a a'->bT W (fun b=>w.heap.size<=b) (.slice A' (l.length+1) c') (l ++ [z])->Ext w W->Q .normal a' (W.setCell ⟨g,4,none⟩ (.slice A' (l.length+1) c'))):Code.wp Tryz.prog aDs Q a w:=by
 obtain ⟨A0,c0,e,-,-,hi,hsl⟩:=hl;injection e with e1 _ e2;subst e1 e2;have q0:=hB.cell' 4 hc
 conv=>arg 2;whnf
 refine aA ?_
 iterate 1 refine l_v rfl rfl (by simp [execOp,go_sem, *];exact ⟨rfl,rfl⟩) ?_
 have hown:=World.ownsRow_lit (base:=w.heap.size) (e:=3) (size:=1) w #[] 0 (Nat.le_refl _) (by unfold maxLen;omega) rfl;have hX:Ext w (w.alloc (.cells #[] 3)):=(Ext.refl w).alloc' _;generalize w.alloc (.cells #[] 3)=W at *;have q1:=aB hX q0
 iterate 2 refine l_v rfl rfl (by simp [execOp,go_sem, *];exact ⟨rfl,rfl⟩) ?_
 refine l_a rfl rfl rfl Tryz.underlying22 Tryz.info3 rfl (by omega) hown (hsl.keep (aD.of_ext hX) (fun _ h=>h)) (by simp [*]) (by simp [*];rfl) (fun u hu=>by obtain ⟨q,_,rfl⟩:=List.mem_map.1 hu;rfl) (by omega) (by omega) hX.size ?_;intro v1 w1 ho1 hf1 hb1;have hX1:Ext w w1:=((Fr.of_ext hX).trans (hf1.mono (N:=fun k=>w.heap.size<=k) (fun k hk=>hown.block_ge hk.symm))).new_ext (fun _ h=>h)
 iterate 2 refine l_v rfl rfl (by simp [execOp,go_sem, *];exact ⟨rfl,rfl⟩) ?_
 refine l_a rfl rfl rfl Tryz.underlying22 Tryz.info3 rfl (by omega) (ho1.alloc _) (Sl.new w1 [.int .i64 z] 3 1 1 rfl) (by simp [*]) (by simp [*];rfl) (by simp [Value.oneCell']) (by omega) (by omega) (by have:=hX1.size;simp;omega) ?_;intro v2 w2 ho2 hf2 hb2;have hX2:Ext w w2:=((Fr.of_ext (hX1.trans' ((Ext.refl w1).alloc' _))).trans (hf2.mono (N:=fun k=>w.heap.size<=k) (fun k hk=>ho1.block_ge hk.symm))).new_ext (fun _ h=>h);have hB2:=hB.ext hX2;have q2:=hB2.cell' 4 hc;have f2:=hB2.frozen 4;rw [List.nil_append,show l.map (Value.int .i64) ++ [.int .i64 z]=(l ++ [z]).map (Value.int .i64) by simp,show 0+l.length+1=l.length+1 by omega] at ho2;have hge:=fun b hb=>ho2.block_ge (b:=b) hb
 obtain ⟨A2,c2,rfl,r1,r2,r3⟩:=Sl.of_own ho2;unfold maxLen at r2
 iterate 1 refine l_v rfl rfl (by simp [execOp,go_sem, *];exact ⟨rfl,rfl⟩) ?_
 refine l_s rfl rfl (by simp [execOp,go_sem, *];rfl) ?_;refine aQ (h _ A2 c2 w2 (by (repeat refine .put ?_ rfl);exact .rf) ⟨A2,c2,by simp,by simpa using r1,⟨by simp;omega,r2⟩,fun q hq=>?_,by simpa using r3 _ hge⟩ hX2);rcases List.mem_append.1 hq with hq | hq
 ·exact hi q hq
 ·rw [List.mem_singleton.1 hq];exact hz
theorem aG0 {l:List Int}{P:Nat->Prop}(hsz:a.tmps.size=135)(e3:Ev a (.tmp 3)=.int .i64 z)(hz:I64 z)(e11:Ev a (.tmp 11)=.pointer (some ⟨g,0,none⟩)){cs:Array Value}(hB:Blk w g 87 cs)(hc:cs[7]?=some (.slice A l.length c))(hl:bT w P (.slice A l.length c) l)(hn:l.length<=1000000)
  (h:∀ a' A' c' W,Ag [8,9,10,11] a a'->bT W (fun b=>w.heap.size<=b) (.slice A' (l.length+1) c') (l ++ [z])->Ext w W->Q .normal a' (W.setCell ⟨g,7,none⟩ (.slice A' (l.length+1) c'))):Code.wp Tryz.prog aDr Q a w:=by
 obtain ⟨A0,c0,e,-,-,hi,hsl⟩:=hl;injection e with e1 _ e2;subst e1 e2;have q0:=hB.cell' 7 hc
 conv=>arg 2;whnf
 refine aA ?_
 iterate 1 refine l_v rfl rfl (by simp [execOp,go_sem, *];exact ⟨rfl,rfl⟩) ?_
 have hown:=World.ownsRow_lit (base:=w.heap.size) (e:=3) (size:=1) w #[] 0 (Nat.le_refl _) (by unfold maxLen;omega) rfl;have hX:Ext w (w.alloc (.cells #[] 3)):=(Ext.refl w).alloc' _;generalize w.alloc (.cells #[] 3)=W at *;have q1:=aB hX q0
 iterate 2 refine l_v rfl rfl (by simp [execOp,go_sem, *];exact ⟨rfl,rfl⟩) ?_
 refine l_a rfl rfl rfl Tryz.underlying22 Tryz.info3 rfl (by omega) hown (hsl.keep (aD.of_ext hX) (fun _ h=>h)) (by simp [*]) (by simp [*];rfl) (fun u hu=>by obtain ⟨q,_,rfl⟩:=List.mem_map.1 hu;rfl) (by omega) (by omega) hX.size ?_;intro v1 w1 ho1 hf1 hb1;have hX1:Ext w w1:=((Fr.of_ext hX).trans (hf1.mono (N:=fun k=>w.heap.size<=k) (fun k hk=>hown.block_ge hk.symm))).new_ext (fun _ h=>h)
 iterate 2 refine l_v rfl rfl (by simp [execOp,go_sem, *];exact ⟨rfl,rfl⟩) ?_
 refine l_a rfl rfl rfl Tryz.underlying22 Tryz.info3 rfl (by omega) (ho1.alloc _) (Sl.new w1 [.int .i64 z] 3 1 1 rfl) (by simp [*]) (by simp [*];rfl) (by simp [Value.oneCell']) (by omega) (by omega) (by have:=hX1.size;simp;omega) ?_;intro v2 w2 ho2 hf2 hb2;have hX2:Ext w w2:=((Fr.of_ext (hX1.trans' ((Ext.refl w1).alloc' _))).trans (hf2.mono (N:=fun k=>w.heap.size<=k) (fun k hk=>ho1.block_ge hk.symm))).new_ext (fun _ h=>h);have hB2:=hB.ext hX2;have q2:=hB2.cell' 7 hc;have f2:=hB2.frozen 7;rw [List.nil_append,show l.map (Value.int .i64) ++ [.int .i64 z]=(l ++ [z]).map (Value.int .i64) by simp,show 0+l.length+1=l.length+1 by omega] at ho2;have hge:=fun b hb=>ho2.block_ge (b:=b) hb
 obtain ⟨A2,c2,rfl,r1,r2,r3⟩:=Sl.of_own ho2;unfold maxLen at r2
 iterate 1 refine l_v rfl rfl (by simp [execOp,go_sem, *];exact ⟨rfl,rfl⟩) ?_
 refine l_s rfl rfl (by simp [execOp,go_sem, *];rfl) ?_;refine aQ (h _ A2 c2 w2 (by (repeat refine .put ?_ rfl);exact .rf) ⟨A2,c2,by simp,by simpa using r1,⟨by simp;omega,r2⟩,fun q hq=>?_,by simpa using r3 _ hge⟩ hX2);rcases List.mem_append.1 hq with hq | hq
 ·exact hi q hq
 ·rw [List.mem_singleton.1 hq];exact hz
end
end Go.Proofs.YtkoeecdjijfjnaaGreat
