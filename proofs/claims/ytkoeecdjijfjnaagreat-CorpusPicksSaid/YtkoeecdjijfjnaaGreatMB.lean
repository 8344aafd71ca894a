/- Contracts of functions. Conditions: none. -/
import Derived.Test.YtkoeecdjijfjnaaGreatO1
set_option maxRecDepth 100000
set_option maxHeartbeats 8000000
namespace Go.Proofs.YtkoeecdjijfjnaaGreat
open Go.RowKit
def mgS (s:List GE × List (List Int))(x:GE):List GE × List (List Int):=(dN s.1 x,if fT x.path s.1 then s.2 else s.2 ++ [x.path])
def mg (L M:List GE):List GE × List (List Int):=M.foldl mgS (L,[])
def aTh (L:List GE)(ps:List (List Int)):Nat:=(ps.filter fun p=>fT p L).length
def mgE (b:Int)(L M:List GE):List GE:=uF b (mg L M).1
def mgN (b:Int)(L M:List GE):Int:=(aTh (mgE b L M) (mg L M).2:Nat)
theorem zZ {α:Type}{l:List α}{k:Nat}(d:α)(hk:k<l.length):l.take (k+1)=l.take k ++ [l.getD k d]:=by
 rw [List.take_add_one];simp [List.getD,hk]
section
variable {L M:List GE}{k:Nat}
end
def RP (w:World)(P:Nat->Prop)(p:List Int)(cs:List Value):Prop:=∃ v,cs=[v]∧aU w P v p
def Pth (w:World)(B:Nat)(P:Nat->Prop)(v:Value)(ps:List (List Int)):Prop:=∃ xs,w.ownsRow B 22 1 v ps.length xs∧RL (RP w P) ps xs
section
variable {w w':World}{B:Nat}{P P':Nat->Prop}{v:Value}{ps:List (List Int)}
end
noncomputable def aOu:=RG Tryz.f155 0
noncomputable def aUr:=RG Tryz.f155 1
noncomputable def aOt:=RG Tryz.f155 2
noncomputable def aUq:=RG Tryz.f155 3
noncomputable def aOs:=RG Tryz.f155 4
noncomputable def aOr:=RG Tryz.f155 5
noncomputable def aUp:=RG Tryz.f155 6
noncomputable def aOq:=RG Tryz.f155 7
noncomputable def aOp:=RG Tryz.f155 8
noncomputable def aOo:=RG Tryz.f155 9
variable {Q:Exit->Act->World->Prop}{a:Act}{w:World}{n m c d k:Nat}{A B:Option Addr}{F:Value}{b:Bool}
def S1 (r:Code):Prop:=∀ (Q:Exit->Act->World->Prop)(a:Act)(w:World)(A B:Option Addr)(n m c d:Nat),a.tmps.size=30->Ev a (.tmp 0)=.slice A n c->Ev a (.tmp 1)=.slice B m d->(∀ a',Ag [0,1,2] a a'->Ev a' (.tmp 12)=.bool ((n:Int) != (m:Int))->Q .normal a' w)->Code.wp Tryz.prog r Q a w
def S3 (r:Code):Prop:=∀ (Q:Exit->Act->World->Prop)(a:Act)(w:World)(A:Option Addr)(n c:Nat),a.tmps.size=30->Ev a (.tmp 0)=.slice A n c->(∀ a',Ag [0,1,2] a a'->Ev a' (.tmp 14)=↑(n:Int)->Ev a' (.tmp 15)=.int .i64 0->Q .normal a' w)->Code.wp Tryz.prog r Q a w
def S6 (r:Code)(A B:Option Addr)(n c d:Nat)(F:Value)(k:Nat)(b:Bool)(w:World):Prop:=∀ (Q:Exit->Act->World->Prop)(a:Act),a.tmps.size=30->Ev a (.tmp 0)=.slice A n c->Ev a (.tmp 1)=.slice B n d->Ev a (.tmp 2)=F->Ev a (.tmp 7)=↑(k:Int) ->
 (∀ a' w',Ext w w'->Ag [0,1,2,14,15] a a'->Ev a' (.tmp 28)=.bool (!b)->Q .normal a' w')->Code.wp Tryz.prog r Q a w
noncomputable abbrev bdS (r6:Code):Code:=.seq aOs (.seq (.cond (.tmp 16) .skip (.exit 0)) (.seq (.block 1 (.seq aOr (.seq r6 (.cond (.tmp 28) (.seq aOq .ret) .skip)))) aOp))
noncomputable abbrev aWc (r1 r3 r6:Code):Code:=.seq aOu (.seq (.seq r1 (.cond (.tmp 12) (.seq aOt .ret) .skip)) (.seq (.seq r3 (.block 0 (.loop (bdS r6)))) (.seq aOo .ret)))
def IS (n:Nat)(f:Nat->Bool)(a0:Act)(ws:World)(k:Nat)(a:Act)(w:World):Prop:=Ag [0,1,2] a0 a∧k<=n∧Ev a (.tmp 14)=↑(n:Int)∧Ev a (.tmp 15)=↑(k:Int)∧Ext ws w∧(List.range k).all f=true
noncomputable def aUo:=RG Tryz.f157 1
noncomputable def aUn:=RG Tryz.f157 3
noncomputable def aUm:=RG Tryz.f157 6
noncomputable def aUl:=RG Tryz.f159 1
noncomputable def aUk:=RG Tryz.f159 3
noncomputable def aUj:=RG Tryz.f159 6
noncomputable def aUu:=RG Tryz.f114 1
noncomputable def aUt:=RG Tryz.f114 3
noncomputable def aUs:=RG Tryz.f114 6
noncomputable def aO6:=RG Tryz.f115 0
noncomputable def aO5:=RG Tryz.f115 1
noncomputable def aO4:=RG Tryz.f115 2
noncomputable def aRp:=RG Tryz.f65 0
noncomputable def aRo:=RG Tryz.f65 1
noncomputable def aRn:=RG Tryz.f65 2
noncomputable def aRm:=RG Tryz.f65 3
noncomputable def aRl:=RG Tryz.f65 4
noncomputable def aRk:=RG Tryz.f65 5
variable {Q:Exit->Act->World->Prop}{a:Act}{w:World}{g f:Nat}{x y:GN}{ax ay:NA}{b1 b2 b3 b4 b5:Bool}{k5:Int}
def eqI (l m:List Int):Bool:=decide (l.length=m.length) && (List.range l.length).all fun k=>l.getD k 0 == m.getD k 0
def eqS (l m:List ByteArray):Bool:=decide (l.length=m.length) && (List.range l.length).all fun k=>(l.getD k default).toList == (m.getD k default).toList
def eqV (l m:List GV):Bool:=decide (l.length=m.length) && (List.range l.length).all fun k=>cH (l.getD k default) (m.getD k default) == 0
def sN (x y:GN):Bool:=x.kind == y.kind && x.name.toList == y.name.toList && x.lo == y.lo && x.hi == y.hi && eqI x.weights y.weights && eqS x.labels y.labels && eqV x.values y.values && eqI x.kids y.kids && cH x.value y.value == 0
def eqT (s t:List GN):Bool:=decide (s.length=t.length) && (List.range s.length).all fun k=>sN (s.getD k default) (t.getD k default)
section
variable {w:World}{P Q:Nat->Prop}{A B:Option Addr}{c d:Nat}
end
noncomputable abbrev aTg:Code:=.seq aO6 (.seq aO5 (.seq aO4 .ret))
noncomputable abbrev aU0:Code:=.seq aRp (.seq aRo (.seq aRn (.seq aRm (.seq aRl (.seq aRk .ret)))))
section
variable {w:World}{P P':Nat->Prop}{x y:GN}{ax ay:NA}{a:Act}{R:Exit->Act->World->Prop}
end
noncomputable def aSd:=RG Tryz.f28 0
noncomputable def aSc:=RG Tryz.f28 1
noncomputable def aSb:=RG Tryz.f28 2
noncomputable def aSa:=RG Tryz.f28 3
noncomputable def aR9:=RG Tryz.f28 4
noncomputable def aR8:=RG Tryz.f28 5
noncomputable def aR7:=RG Tryz.f28 6
noncomputable def aR6:=RG Tryz.f28 7
noncomputable def aR5:=RG Tryz.f28 8
noncomputable def aR4:=RG Tryz.f28 9
noncomputable def aNs:=RG Tryz.f28 10
noncomputable def aNr:=RG Tryz.f28 11
noncomputable def aNq:=RG Tryz.f28 12
noncomputable def aNp:=RG Tryz.f28 13
noncomputable def aNo:=RG Tryz.f28 14
noncomputable def aNn:=RG Tryz.f28 15
noncomputable def aNm:=RG Tryz.f28 16
noncomputable def aNl:=RG Tryz.f28 17
noncomputable def aNk:=RG Tryz.f28 18
noncomputable def aNj:=RG Tryz.f28 19
noncomputable def aNi:=RG Tryz.f28 20
section
variable {Q:Exit->Act->World->Prop}{a:Act}{w:World}{gc go g n c d k m:Nat}{A:Option Addr}{b:Bool}{vn vo v:Value}{L M:List GE}{Z:Nat->Prop}
end
noncomputable abbrev aTm:Code:=.seq aR6 (.seq (.cond (.tmp 28) .skip (.exit 0)) (.seq (.block 1 (.seq aR5 (.seq aR4 (.cond (.tmp 33) aNs .skip)))) aNr))
noncomputable abbrev aTl:Code:=.seq aNn (.seq (.cond (.tmp 45) .skip (.exit 2)) (.seq (.block 3 (.seq aNm (.seq aNl (.cond (.tmp 50) aNk .skip)))) aNj))
noncomputable abbrev aU2:Code:=.seq aSd (.seq (.seq aSc (.cond (.tmp 13) (.seq aSb .ret) .skip)) (.seq (.seq aSa (.cond (.tmp 23) (.seq aR9 .ret) .skip)) (.seq aR8 (.seq (.seq aR7 (.block 0 (.loop aTm))) (.seq aNq (.seq aNp (.seq (.seq aNo (.block 2 (.loop aTl))) (.seq aNi .ret))))))))
def aVl (t:List GN)(vn:Value)(b:Int)(L':List GE)(g:CA)(P:Nat->Prop)(v:Value)(w w':World):Prop :=
 ∃ P' v',oL t vn b L' g P' v' 0 w'∧Fr (g.M v) w w'∧(∀ k,P' k->P k∨w.heap.size<=k)∧∀ k,g.M v' k->g.M v k∨w.heap.size<=k
section
variable {t t':List GN}{vn vo:Value}{b b':Int}{L M L1 L2:List GE}{g g':CA}{P P':Nat->Prop}{v v':Value}{w w':World}{a:Act}{R:Exit->Act->World->Prop}{d:Nat}{A:Option Addr}
def I28 (t:List GN)(vn:Value)(b:Int)(L M:List GE)(g:CA)(P:Nat->Prop)(v:Value)(w:World)(Z:Nat->Prop)(B:Nat)(A:Option Addr)(d k:Nat)(a0 a:Act)(wr:World):Prop :=
 ∃ P1 v1 vr,a.tmps.size=a0.tmps.size∧a.defers=a0.defers∧k<=M.length∧Ev a (.tmp 0)=.pointer (some ⟨g.c,0,none⟩)∧Ev a (.tmp 6)=vr∧Ev a (.tmp 25)=.slice A M.length d∧Ev a (.tmp 26)=.int .i64 (M.length:Int)∧Ev a (.tmp 27)=↑(k:Int) ∧
  oL t vn b (mg L (M.take k)).1 g P1 v1 0 wr∧Fr (g.M v) w wr∧(∀ q,P1 q->P q∨w.heap.size<=q)∧(∀ q,g.M v1 q->g.M v q∨w.heap.size<=q)∧Ens wr Z (.slice A M.length d) M∧Pth wr B Z vr (mg L (M.take k)).2 ∧
  (∀ q,Z q∨vr.ownBlock=some q->¬ g.M v1 q)∧(∀ q,vr.ownBlock=some q->¬ P1 q)∧B<=wr.heap.size
def aYk (L':List GE)(ps:List (List Int))(A:Option Addr)(d:Nat)(gc:Nat)(k:Nat)(a0 a:Act)(ws w:World):Prop :=
 a.tmps.size=a0.tmps.size∧a.defers=a0.defers∧k<=ps.length∧Ev a (.tmp 0)=.pointer (some ⟨gc,0,none⟩)∧Ev a (.tmp 9)=.int .i64 ((aTh L' (ps.take k):Nat):Int)∧Ev a (.tmp 42)=.slice A ps.length d∧Ev a (.tmp 43)=.int .i64 (ps.length:Int)∧Ev a (.tmp 44)=↑(k:Int)∧Ext ws w
end
end Go.Proofs.YtkoeecdjijfjnaaGreat
