/- Contracts and laws. Conditions: none. -/
import Derived.Test.YtkoeecdjijfjnaaGreatTR
set_option linter.all false
set_option maxRecDepth 100000
set_option maxHeartbeats 8000000
namespace Go.Proofs.YtkoeecdjijfjnaaGreat
open Go.RowKit
noncomputable def aYk:=RG Tryz.f21 0
noncomputable def aYj:=RG Tryz.f21 1
noncomputable def aYi:=RG Tryz.f21 2
noncomputable def aYh:=RG Tryz.f21 3
noncomputable def aYg:=RG Tryz.f21 4
noncomputable def aYf:=RG Tryz.f21 5
noncomputable def aYe:=RG Tryz.f21 6
noncomputable def aYd:=RG Tryz.f21 7
noncomputable def aYc:=RG Tryz.f21 8
noncomputable def aYb:=RG Tryz.f21 9
noncomputable def aTq:=RG Tryz.f21 10
noncomputable def aTp:=RG Tryz.f21 11
noncomputable def aTo:=RG Tryz.f21 12
noncomputable def aTn:=RG Tryz.f21 13
noncomputable def aTm:=RG Tryz.f21 14
noncomputable def aTl:=RG Tryz.f21 15
noncomputable def aTk:=RG Tryz.f21 16
noncomputable def aTj:=RG Tryz.f21 17
noncomputable def aTi:=RG Tryz.f21 18
noncomputable def aTh:=RG Tryz.f21 19
noncomputable def aTg:=RG Tryz.f21 20
noncomputable def aTf:=RG Tryz.f21 21
noncomputable def aTe:=RG Tryz.f21 22
noncomputable def aTd:=RG Tryz.f21 23
noncomputable def aTc:=RG Tryz.f21 24
noncomputable def aTb:=RG Tryz.f21 25
noncomputable def aTa:=RG Tryz.f21 26
noncomputable def aS9:=RG Tryz.f21 27
noncomputable def aS8:=RG Tryz.f21 28
noncomputable def aS7:=RG Tryz.f21 29
noncomputable def aS6:=RG Tryz.f21 30
noncomputable def aS5:=RG Tryz.f21 31
noncomputable def aS4:=RG Tryz.f21 32
noncomputable def aS3:=RG Tryz.f21 33
section
variable {Q:Exit->Act->World->Prop}{a:Act}{w:World}{g g4 g8 g9:Nat}{z:Int}{v:Value}{k n c:Nat}{A:Option Addr}
end
section
variable {Q:Exit->Act->World->Prop}{a:Act}{w:World}{g g4 g8 g9:Nat}{z:Int}{v:Value}{k n c:Nat}{A:Option Addr}
end
structure aJb (x:GN):Prop where
 mw:x.weights.length<=999999
 ml:x.labels.length<=999999
 mv:x.values.length<=999999
 mj:x.kids.length<=999999
 mx:gsz x.value<=1000000000
 mvs:∀ u ∈ x.values,gsz u<=1000000000
def Sp1 (x x':GN):Prop:=x'.kids.length<=x.kids+1∧(x'.kind=x.kind∨(x'.kids=x.kids∧x'.weights=x.weights∧x'.values=x.values))
def SpP (w0:World)(P:Nat->Prop)(v:Value)(g8 g9 g:Nat)(k:Nat):Prop:=(P k∨w0<=k)∧k ≠ g8∧k ≠ g9∧k ≠ g∧some k ≠ v.ownBlock
structure SpA (w0:World)(P:Nat->Prop)(v:Value)(n:Nat)(xs:List Value)(g8 g9 g:Nat)(x:GN)(y:NA)(w:World):Prop where
 ext:Ext w0 w
 b8:Blk w g8 25 #[qn]
 b9:Blk w g9 25 #[v]
 b11:Blk w g 87 (aK x y).toArray
 own:w.ownsRow w0 87 12 v n xs
 nat:NAt w (SpP w0 P v g8 g9 g) x y
 ge:w0<=g8∧w0<=g9∧w0<=g
 ne:g8 ≠ g9∧g8 ≠ g∧g9 ≠ g
 no:some g8 ≠ v.ownBlock∧some g9 ≠ v.ownBlock∧some g ≠ v.ownBlock
section
variable {w0:World}{P:Nat->Prop}{v:Value}{n:Nat}{xs:List Value}{g8 g9 g:Nat}{x x':GN}{y y':NA}{w W:World}
end
structure SpS (a0 a:Act)(z hw:Int)(g:Nat):Prop where
 sz:a.tmps.size=135
 e3:qq a 3 z
 e11:qq a 11 (qp g)
 e35:qq a 35 hw
 ag:Ag [8,9,10,11] a0 a
section
variable {w0:World}{P:Nat->Prop}{v:Value}{n:Nat}{xs:List Value}{g8 g9 g:Nat}{x:GN}{y:NA}{w:World}{a0 a:Act}{z hw:Int}{R:Exit->Act->World->Prop}
end
noncomputable abbrev a1d:Code:=.seq aTm (.cond (.tmp 62) aTl (.seq aTk (.cond (.tmp 66) aTj (.seq aTi (.cond (.tmp 70) aTh (.seq aTg (.cond (.tmp 74) aTf (.seq aTe (.cond (.tmp 84) aTd (.seq aTc (.cond (.tmp 94) aTb (.seq aTa (.cond (.tmp 102) aS9 (.seq aS8 (.cond (.tmp 111) aS7 (.seq aS6 (.cond (.tmp 122) aS5 (.seq aYc (.cond (.tmp 39) (.seq aYb aTq) (.seq aTp (.cond (.tmp 52) (.seq aTo aTn) .skip)))))))))))))))))))))
noncomputable abbrev a0r:Code:=.seq aYk (.seq aYj (.seq aYi (.seq (.seq aYh (.cond (.tmp 22) (.seq aYg .ret) .skip)) (.seq aYf (.seq aYe (.seq (.seq aYd (.block 0 a1d)) (.seq aS4 (.seq aS3 .ret))))))))
section
variable {w0:World}{P:Nat->Prop}{v:Value}{n:Nat}{xs:List Value}{g8 g9 g:Nat}{x:GN}{y:NA}{w:World}{a0 a:Act}{z hw:Int}{R:Exit->Act->World->Prop}
end
def aV1 (t:List GN)(P:Nat->Prop)(w:World)(e:Ending)(w':World):Prop:=∃ A c s,e=.returned (.agg #[.slice A s.length c])∧Nds w' (fun b=>P b∨w<=b) (.slice A s.length c) s∧(∀ x ∈ s,iD x)∧Ext w w'∧(s=t∨∃ k x',k<t.length∧s=t.set k x'∧Sp1 (t.getD k default) x')
section
variable {P:Nat->Prop}{t:List GN}{w:World}{a:Act}{vn:Value}{at_ how z:Int}{R:Exit->Act->World->Prop}
end
