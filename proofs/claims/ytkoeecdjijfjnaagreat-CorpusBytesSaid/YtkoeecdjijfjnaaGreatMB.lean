/- Contracts and laws. Conditions: none. -/
import Derived.Test.YtkoeecdjijfjnaaGreatMA
import Derived.Test.YtkoeecdjijfjnaaGreatED
import Derived.Test.YtkoeecdjijfjnaaGreatO1
set_option linter.all false
set_option maxRecDepth 100000
set_option maxHeartbeats 8000000
namespace Go.Proofs.YtkoeecdjijfjnaaGreat
open Go.RowKit
noncomputable def aX3:=RG Tryz.f28 0
noncomputable def aX2:=RG Tryz.f28 1
noncomputable def aX1:=RG Tryz.f28 2
noncomputable def aX0:=RG Tryz.f28 3
noncomputable def aXz:=RG Tryz.f28 4
noncomputable def aXy:=RG Tryz.f28 5
noncomputable def aXx:=RG Tryz.f28 6
noncomputable def aXw:=RG Tryz.f28 7
noncomputable def aXv:=RG Tryz.f28 8
noncomputable def aXu:=RG Tryz.f28 9
noncomputable def aSv:=RG Tryz.f28 10
noncomputable def aSu:=RG Tryz.f28 11
noncomputable def aSt:=RG Tryz.f28 12
noncomputable def aSs:=RG Tryz.f28 13
noncomputable def aSr:=RG Tryz.f28 14
noncomputable def aSq:=RG Tryz.f28 15
noncomputable def aSp:=RG Tryz.f28 16
noncomputable def aSo:=RG Tryz.f28 17
noncomputable def aSn:=RG Tryz.f28 18
noncomputable def aSm:=RG Tryz.f28 19
noncomputable def aSl:=RG Tryz.f28 20
section
variable {Q:Exit->Act->World->Prop}{a:Act}{w:World}{gc go g n c d k m:Nat}{A:Option Addr}{b:Bool}{vn vo v:Value}{L M:List GE}{Z:Nat->Prop}
end
noncomputable abbrev aZc:Code:=.seq aXw (.seq (.cond (.tmp 28) .skip (.exit 0)) (.seq (.block 1 (.seq aXv (.seq aXu (.cond (.tmp 33) aSv .skip)))) aSu))
noncomputable abbrev aZb:Code:=.seq aSq (.seq (.cond (.tmp 45) .skip (.exit 2)) (.seq (.block 3 (.seq aSp (.seq aSo (.cond (.tmp 50) aSn .skip)))) aSm))
noncomputable abbrev a0q:Code:=.seq aX3 (.seq (.seq aX2 (.cond (.tmp 13) (.seq aX1 .ret) .skip)) (.seq (.seq aX0 (.cond (.tmp 23) (.seq aXz .ret) .skip)) (.seq aXy (.seq (.seq aXx (.block 0 (.loop aZc))) (.seq aSt (.seq aSs (.seq (.seq aSr (.block 2 (.loop aZb))) (.seq aSl .ret))))))))
def a09 (t:List GN)(vn:Value)(b:Int)(L':List GE)(g:CA)(P:Nat->Prop)(v:Value)(w w':World):Prop :=
 ∃ P' v',lC t vn b L' g P' v' 0 w'∧Fr (g.M v) w w'∧(∀ k,P' k->P k∨w<=k)∧∀ k,g.M v' k->g.M v k∨w<=k
section
variable {t t':List GN}{vn vo:Value}{b b':Int}{L M L1 L2:List GE}{g g':CA}{P P':Nat->Prop}{v v':Value}{w w':World}{a:Act}{R:Exit->Act->World->Prop}{d:Nat}{A:Option Addr}
def I28 (t:List GN)(vn:Value)(b:Int)(L M:List GE)(g:CA)(P:Nat->Prop)(v:Value)(w:World)(Z:Nat->Prop)(B:Nat)(A:Option Addr)(d k:Nat)(a0 a:Act)(wr:World):Prop :=
 ∃ P1 v1 vr,a.tmps.size=a0.tmps.size∧a.defers=a0.defers∧k<=M∧qq a 0 (qp g.c)∧qq a 6 vr∧qq a 25 (.slice A M d)∧qq a 26 (↑(M:Int))∧qq a 27 (k:Int) ∧
  lC t vn b (mg L (M.take k)).1 g P1 v1 0 wr∧Fr (g.M v) w wr∧(∀ q,P1 q->P q∨w<=q)∧(∀ q,g.M v1 q->g.M v q∨w<=q)∧Ens wr Z (.slice A M d) M∧Pth wr B Z vr (mg L (M.take k)).2 ∧
  (∀ q,Z q∨vr.ownBlock=some q->¬ g.M v1 q)∧(∀ q,vr.ownBlock=some q->¬ P1 q)∧B<=wr
def a4a (L':List GE)(ps:List (List Int))(A:Option Addr)(d:Nat)(gc:Nat)(k:Nat)(a0 a:Act)(ws w:World):Prop :=
 a.tmps.size=a0.tmps.size∧a.defers=a0.defers∧k<=ps∧qq a 0 (qp gc)∧qq a 9 (.int .i64 ((aY6 L' (ps.take k):Nat):Int))∧qq a 42 (.slice A ps d)∧qq a 43 (↑(ps:Int))∧qq a 44 (k:Int)∧Ext ws w
end
