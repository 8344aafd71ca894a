/- Contracts of functions. Conditions: none. -/
import Derived.Test.YtkoeecdjijfjnaaGreatTR
set_option maxRecDepth 100000
set_option maxHeartbeats 8000000
namespace Go.Proofs.YtkoeecdjijfjnaaGreat
open Go.RowKit
noncomputable def aSu:=RG Tryz.f21 0
noncomputable def aSt:=RG Tryz.f21 1
noncomputable def aSs:=RG Tryz.f21 2
noncomputable def aSr:=RG Tryz.f21 3
noncomputable def aSq:=RG Tryz.f21 4
noncomputable def aSp:=RG Tryz.f21 5
noncomputable def aSo:=RG Tryz.f21 6
noncomputable def aSn:=RG Tryz.f21 7
noncomputable def aSm:=RG Tryz.f21 8
noncomputable def aSl:=RG Tryz.f21 9
noncomputable def aOn:=RG Tryz.f21 10
noncomputable def aOm:=RG Tryz.f21 11
noncomputable def aOl:=RG Tryz.f21 12
noncomputable def aOk:=RG Tryz.f21 13
noncomputable def aOj:=RG Tryz.f21 14
noncomputable def aOi:=RG Tryz.f21 15
noncomputable def aOh:=RG Tryz.f21 16
noncomputable def aOg:=RG Tryz.f21 17
noncomputable def aOf:=RG Tryz.f21 18
noncomputable def aOe:=RG Tryz.f21 19
noncomputable def aOd:=RG Tryz.f21 20
noncomputable def aOc:=RG Tryz.f21 21
noncomputable def aOb:=RG Tryz.f21 22
noncomputable def aOa:=RG Tryz.f21 23
noncomputable def aN9:=RG Tryz.f21 24
noncomputable def aN8:=RG Tryz.f21 25
noncomputable def aN7:=RG Tryz.f21 26
noncomputable def aN6:=RG Tryz.f21 27
noncomputable def aN5:=RG Tryz.f21 28
noncomputable def aN4:=RG Tryz.f21 29
noncomputable def aN3:=RG Tryz.f21 30
noncomputable def aN2:=RG Tryz.f21 31
noncomputable def aN1:=RG Tryz.f21 32
noncomputable def aN0:=RG Tryz.f21 33
section
variable {Q:Exit->Act->World->Prop}{a:Act}{w:World}{g g4 g8 g9:Nat}{z:Int}{v:Value}{k n c:Nat}{A:Option Addr}
end
section
variable {Q:Exit->Act->World->Prop}{a:Act}{w:World}{g g4 g8 g9:Nat}{z:Int}{v:Value}{k n c:Nat}{A:Option Addr}
end
structure aU8 (x:GN):Prop where
 mw:x.weights.length<=999999
 ml:x.labels.length<=999999
 mv:x.values.length<=999999
 mj:x.kids.length<=999999
 mx:gsz x.value<=1000000
 mvs:∀ u ∈ x.values,gsz u<=1000000
def Sp1 (x x':GN):Prop:=x'.kids.length<=x.kids.length+1∧(x'.kind=x.kind∨(x'.kids=x.kids∧x'.weights=x.weights∧x'.values=x.values))
def SpP (w0:World)(P:Nat->Prop)(v:Value)(g8 g9 g:Nat)(k:Nat):Prop:=(P k∨w0.heap.size<=k)∧k ≠ g8∧k ≠ g9∧k ≠ g∧some k ≠ v.ownBlock
structure SpA (w0:World)(P:Nat->Prop)(v:Value)(n:Nat)(xs:List Value)(g8 g9 g:Nat)(x:GN)(y:NA)(w:World):Prop where
 ext:Ext w0 w
 b8:Blk w g8 25 #[.slice none 0 0]
 b9:Blk w g9 25 #[v]
 b11:Blk w g 87 (aL x y).toArray
 own:w.ownsRow w0.heap.size 87 12 v n xs
 nat:NAt w (SpP w0 P v g8 g9 g) x y
 ge:w0.heap.size<=g8∧w0.heap.size<=g9∧w0.heap.size<=g
 ne:g8 ≠ g9∧g8 ≠ g∧g9 ≠ g
 no:some g8 ≠ v.ownBlock∧some g9 ≠ v.ownBlock∧some g ≠ v.ownBlock
section
variable {w0:World}{P:Nat->Prop}{v:Value}{n:Nat}{xs:List Value}{g8 g9 g:Nat}{x x':GN}{y y':NA}{w W:World}
end
structure SpS (a0 a:Act)(z hw:Int)(g:Nat):Prop where
 sz:a.tmps.size=135
 e3:Ev a (.tmp 3)=↑z
 e11:Ev a (.tmp 11)=.pointer (some ⟨g,0,none⟩)
 e35:Ev a (.tmp 35)=↑hw
 ag:Ag [8,9,10,11] a0 a
section
variable {w0:World}{P:Nat->Prop}{v:Value}{n:Nat}{xs:List Value}{g8 g9 g:Nat}{x:GN}{y:NA}{w:World}{a0 a:Act}{z hw:Int}{R:Exit->Act->World->Prop}
end
noncomputable abbrev aVm:Code:=.seq aOj (.cond (.tmp 62) aOi (.seq aOh (.cond (.tmp 66) aOg (.seq aOf (.cond (.tmp 70) aOe (.seq aOd (.cond (.tmp 74) aOc (.seq aOb (.cond (.tmp 84) aOa (.seq aN9 (.cond (.tmp 94) aN8 (.seq aN7 (.cond (.tmp 102) aN6 (.seq aN5 (.cond (.tmp 111) aN4 (.seq aN3 (.cond (.tmp 122) aN2 (.seq aSm (.cond (.tmp 39) (.seq aSl aOn) (.seq aOm (.cond (.tmp 52) (.seq aOl aOk) .skip)))))))))))))))))))))
noncomputable abbrev aU3:Code:=.seq aSu (.seq aSt (.seq aSs (.seq (.seq aSr (.cond (.tmp 22) (.seq aSq .ret) .skip)) (.seq aSp (.seq aSo (.seq (.seq aSn (.block 0 aVm)) (.seq aN1 (.seq aN0 .ret))))))))
section
variable {w0:World}{P:Nat->Prop}{v:Value}{n:Nat}{xs:List Value}{g8 g9 g:Nat}{x:GN}{y:NA}{w:World}{a0 a:Act}{z hw:Int}{R:Exit->Act->World->Prop}
end
def aQo (t:List GN)(P:Nat->Prop)(w:World)(e:Ending)(w':World):Prop:=∃ A c s,e=.returned (.agg #[.slice A s.length c])∧Nds w' (fun b=>P b∨w.heap.size<=b) (.slice A s.length c) s∧(∀ x ∈ s,jG x)∧Ext w w'∧(s=t∨∃ k x',k<t.length∧s=t.set k x'∧Sp1 (t.getD k default) x')
section
variable {P:Nat->Prop}{t:List GN}{w:World}{a:Act}{vn:Value}{at_ how z:Int}{R:Exit->Act->World->Prop}
end
end Go.Proofs.YtkoeecdjijfjnaaGreat
