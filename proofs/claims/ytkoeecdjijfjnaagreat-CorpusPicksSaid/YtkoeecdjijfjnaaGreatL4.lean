/- Contracts of functions. Conditions: none. -/
import Derived.Deep.RegionHeld3
import Derived.Deep.DeepCutAuto
import Derived.Test.YtkoeecdjijfjnaaGreatPlM
set_option maxRecDepth 100000
set_option maxHeartbeats 8000000
namespace Go.Proofs.YtkoeecdjijfjnaaGreat
open Go.RowKit
def aU9 (n:Nat)(w:World)(e:Ending)(w':World):Prop:=∃ (A:Option Addr)(c:Nat)(l:List Int),e=.returned (.slice A l.length c)∧aU w' (fun b=>w.heap.size<=b) (.slice A l.length c) l∧l.length=n∧Ext w w'
def aVc (n:Nat)(W:World)(v i:Value)(wr:World):Prop :=
 ∃ (k:Nat) (l:List Int),k<=n∧i=↑k∧l.length=k∧(∀ x ∈ l,I64 x)∧wr.ownsRow W.heap.size 3 1 v k (l.map (Value.int .i64))∧Ext W wr
structure GG where
 path:List Int
 kind:Int
 at_:Int
 code:Int
 fresh:Bool
instance:Inhabited GG:=⟨⟨[],0,0,0,false⟩⟩
structure GAt (w:World)(P:Nat->Prop)(x:GG)(A:Option Addr)(c:Nat):Prop where
 path:aU w P (.slice A x.path.length c) x.path
 short:x.path.length<=256
 kind:I64 x.kind
 at_:I64 x.at_
 code:I64 x.code
def pO (x:GG)(A:Option Addr)(c:Nat):List Value:=[.slice A x.path.length c,.int .i64 x.kind,.int .i64 x.at_,.int .i64 x.code,.bool x.fresh]
def RGg (w:World)(P:Nat->Prop)(x:GG)(cs:List Value):Prop:=∃ A c,cs=pO x A c∧GAt w P x A c
section
variable {w w':World}{P Q:Nat->Prop}
theorem GAt.carry {x:GG}{A:Option Addr}{c:Nat}(h:GAt w P x A c)(hk:aB P w w')(hPQ:∀ b,b<w.heap.size->P b->Q b):GAt w' Q x A c:=⟨h.path.carry hk hPQ,h.short,h.kind,h.at_,h.code⟩
theorem aHn:aMm 5 RGg:=⟨fun _ _ _ _ h=>by obtain ⟨A,c,rfl,_⟩:=h;rfl,fun _ _ _ _ _ _ h hk hPQ=>by obtain ⟨A,c,e,h⟩:=h;exact ⟨A,c,e,h.carry hk hPQ⟩⟩
end
def Gvs (w:World)(P:Nat->Prop)(v:Value)(L:List GG):Prop:=Lst w P 5 (RGg w P) v L
section
variable {w w':World}{P Q:Nat->Prop}
theorem Gvs.carry {v:Value}{L:List GG}(h:Gvs w P v L)(hk:aB P w w')(hPQ:∀ b,b<w.heap.size->P b->Q b):Gvs w' Q v L:=Lst.carry h U hk hPQ (fun x _ cs hx=>aHn.carry _ _ _ _ _ _ hx hk hPQ)
theorem Gvs.get {A:Option Addr}{n c:Nat}{L:List GG}(h:Gvs w P (.slice A n c) L){i:Nat}(hi:i<L.length):∃ b off A' d,A=some ⟨b,off,none⟩∧P b∧GAt w P (L.getD i default) A' d∧(∀ j u,(pO (L.getD i default) A' d)[j]?=some u->w.cell? ⟨b,off+i*5+j,none⟩=some u):=by
 obtain ⟨b,off,c',cs,e,hb,_,_,⟨A',d,rfl,hv⟩,hc⟩:=Lst.at_ (aHn.len w P) h default hi;injection e with e _ _;exact ⟨b,off,A',d,e,hb,hv,hc⟩
end
theorem Tryz.info43:(Tryz.prog.info? 43).map (fun i=>(i.zero,i.size,i.bytes))=some (some (.agg #[.slice none 0 0,.int .i64 0,.int .i64 0,.int .i64 0,.bool false]),5,56):=aa
def aTq (most:Nat)(w:World)(e:Ending)(w':World):Prop:=∃ A c gs,e=.returned (.slice A gs.length c)∧Gvs w' (fun b=>b<w'.heap.size) (.slice A gs.length c) gs∧gs.length<=most∧Ext w w'
def aRc (S:Nat->Prop)(most:Nat)(w:World)(e:Ending)(w':World):Prop:=∃ A c gs,e=.returned (.slice A gs.length c)∧Gvs w' (fun b=>b<w'.heap.size∧S b) (.slice A gs.length c) gs∧gs.length<=most∧Ext w w'
def aTn (S:Nat->Prop)(most:Nat)(W:World)(v i:Value)(wr:World):Prop :=
 ∃ (k:Nat) (gs:List GG) (xs:List Value),k<=most∧i=↑k∧gs.length=k∧wr.ownsRow W.heap.size 43 5 v k xs∧RL (RGg wr (fun b=>b<wr.heap.size∧some b ≠ v.ownBlock∧S b)) gs xs∧Ext W wr
theorem oT {S:Nat->Prop}{W wr w1 w4:World}{v v':Value}{gs:List GG}{xs:List Value}{x:GG}{A:Option Addr}{c:Nat}(_:wr.ownsRow W.heap.size 43 5 v gs.length xs)(hr:RL (RGg wr (fun b=>b<wr.heap.size∧some b ≠ v.ownBlock∧S b)) gs xs)(h1:Ext wr w1)(hg:GAt w1 (fun b=>some b ≠ v.ownBlock∧S b) x A c)
  (hf:Fr (fun k=>some k=v.ownBlock) w1 w4)(hown:v'.ownBlock=v.ownBlock∨∃ b,v'.ownBlock=some b∧w1.heap.size<=b):RL (RGg w4 (fun b=>b<w4.heap.size∧some b ≠ v'.ownBlock∧S b)) (gs ++ [x]) (xs ++ pO x A c):=by
 have hs1:=h1.size;have hs4:=hf.size
 have hne:∀ b,b<w1.heap.size->some b ≠ v.ownBlock->some b ≠ v'.ownBlock:=by
  intro b hb h;rcases hown with e | ⟨b',e,h'⟩
  ·rw [e];exact h
  ·rw [e];intro e';injection e' with e';omega
 refine (hr.move aHn (fun b hb h=>(hf.block b U (fun e=>h.2.1 e)).trans (h1.block b hb)) (fun b hb h=>⟨U,hne b U h.2.1,h.2.2⟩)).append (RL.one ⟨A,c,rfl,hg.carry (fun b hb h=>hf.block b hb (fun e=>h.1 e)) (fun b hb h=>⟨U,hne b hb h.1,h.2⟩)⟩)
end Go.Proofs.YtkoeecdjijfjnaaGreat
