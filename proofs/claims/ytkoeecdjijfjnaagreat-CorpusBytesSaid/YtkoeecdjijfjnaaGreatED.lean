/- Contracts and laws. Conditions: none. -/
import Derived.Test.YtkoeecdjijfjnaaGreatEA
import Derived.Test.YtkoeecdjijfjnaaGreatPlA
set_option linter.all false
set_option maxRecDepth 100000
set_option maxHeartbeats 8000000
namespace Go.Proofs.YtkoeecdjijfjnaaGreat
open Go.RowKit
noncomputable def aT1:=RG Tryz.f155 0
noncomputable def a0f:=RG Tryz.f155 1
noncomputable def aT0:=RG Tryz.f155 2
noncomputable def a0e:=RG Tryz.f155 3
noncomputable def aTz:=RG Tryz.f155 4
noncomputable def aTy:=RG Tryz.f155 5
noncomputable def a0d:=RG Tryz.f155 6
noncomputable def aTx:=RG Tryz.f155 7
noncomputable def aTw:=RG Tryz.f155 8
noncomputable def aTv:=RG Tryz.f155 9
variable {Q:Exit->Act->World->Prop}{a:Act}{w:World}{n m c d k:Nat}{A B:Option Addr}{F:Value}{b:Bool}
def S1 (r:Code):Prop:=∀ (Q:Exit->Act->World->Prop)(a:Act)(w:World)(A B:Option Addr)(n m c d:Nat),a.tmps.size=30->qq a 0 (.slice A n c)->qq a 1 (.slice B m d)->(∀ a',Ag [0,1,2] a a'->qq a' 12 ((n:Int) != (m:Int))->Q .normal a' w)->qw r Q a w
def S3 (r:Code):Prop:=∀ (Q:Exit->Act->World->Prop)(a:Act)(w:World)(A:Option Addr)(n c:Nat),a.tmps.size=30->qq a 0 (.slice A n c)->(∀ a',Ag [0,1,2] a a'->qq a' 14 (n:Int)->qq a' 15 qz->Q .normal a' w)->qw r Q a w
def S6 (r:Code)(A B:Option Addr)(n c d:Nat)(F:Value)(k:Nat)(b:Bool)(w:World):Prop:=∀ (Q:Exit->Act->World->Prop)(a:Act),a.tmps.size=30->qq a 0 (.slice A n c)->qq a 1 (.slice B n d)->qq a 2 F->qq a 7 (k:Int) ->
 (∀ a' w',Ext w w'->Ag [0,1,2,14,15] a a'->qq a' 28 (!b)->Q .normal a' w')->qw r Q a w
noncomputable abbrev bdS (r6:Code):Code:=.seq aTz (.seq (.cond (.tmp 16) .skip (.exit 0)) (.seq (.block 1 (.seq aTy (.seq r6 (.cond (.tmp 28) (.seq aTx .ret) .skip)))) aTw))
noncomputable abbrev a2h (r1 r3 r6:Code):Code:=.seq aT1 (.seq (.seq r1 (.cond (.tmp 12) (.seq aT0 .ret) .skip)) (.seq (.seq r3 (.block 0 (.loop (bdS r6)))) (.seq aTv .ret)))
def IS (n:Nat)(f:Nat->Bool)(a0:Act)(ws:World)(k:Nat)(a:Act)(w:World):Prop:=Ag [0,1,2] a0 a∧k<=n∧qq a 14 (n:Int)∧qq a 15 (k:Int)∧Ext ws w∧(List.range k).all f=true
noncomputable def a0c:=RG Tryz.f157 1
noncomputable def a0b:=RG Tryz.f157 3
noncomputable def a0a:=RG Tryz.f157 6
noncomputable def aZ9:=RG Tryz.f159 1
noncomputable def aZ8:=RG Tryz.f159 3
noncomputable def aZ7:=RG Tryz.f159 6
noncomputable def a0i:=RG Tryz.f114 1
noncomputable def a0h:=RG Tryz.f114 3
noncomputable def a0g:=RG Tryz.f114 6
noncomputable def aUd:=RG Tryz.f115 0
noncomputable def aUc:=RG Tryz.f115 1
noncomputable def aUb:=RG Tryz.f115 2
noncomputable def aXf:=RG Tryz.f65 0
noncomputable def aXe:=RG Tryz.f65 1
noncomputable def aXd:=RG Tryz.f65 2
noncomputable def aXc:=RG Tryz.f65 3
noncomputable def aXb:=RG Tryz.f65 4
noncomputable def aXa:=RG Tryz.f65 5
variable {Q:Exit->Act->World->Prop}{a:Act}{w:World}{g f:Nat}{x y:GN}{ax ay:NA}{b1 b2 b3 b4 b5:Bool}{k5:Int}
def eqI (l m:List Int):Bool:=decide (l.length=m) && (List.range l).all fun k=>l.getD k 0 == m.getD k 0
def eqS (l m:List ByteArray):Bool:=decide (l.length=m) && (List.range l).all fun k=>(l.getD k default).toList == (m.getD k default).toList
def eqV (l m:List GV):Bool:=decide (l.length=m) && (List.range l).all fun k=>cJ (l.getD k default) (m.getD k default) == 0
def sN (x y:GN):Bool:=x.kind == y.kind && x.name.toList == y.name.toList && x.lo == y.lo && x.hi == y.hi && eqI x.weights y.weights && eqS x.labels y.labels && eqV x.values y.values && eqI x.kids y.kids && cJ x.value y.value == 0
def eqT (s t:List GN):Bool:=decide (s.length=t) && (List.range s).all fun k=>sN (s.getD k default) (t.getD k default)
section
variable {w:World}{P Q:Nat->Prop}{A B:Option Addr}{c d:Nat}
theorem nW.get {n l}(h:nW w P (.slice A n c) l){i:Nat}(hi:i<l):∃ b off,A=some ↑(qt b off)∧qc w b (off+i) (.string (l.getD i default)):=by
 obtain ⟨b,off,c',cs,e,hb,-,-,hr,hc⟩:=Lst.at_ aJt.len h default hi;injection e with e _ _;have:=hc 0 (.string (l.getD i default)) (by rw [hr.2];rfl);exact ⟨b,off,e,ik⟩
end
noncomputable abbrev aY5:Code:=.seq aUd (.seq aUc (.seq aUb .ret))
noncomputable abbrev a0o:Code:=.seq aXf (.seq aXe (.seq aXd (.seq aXc (.seq aXb (.seq aXa .ret)))))
section
variable {w:World}{P P':Nat->Prop}{x y:GN}{ax ay:NA}{a:Act}{R:Exit->Act->World->Prop}
end
