/- Words for memory: what a slice reads as, what a call leaves alone. Conditions: none. -/
import Derived.WalkKit
import Derived.WalkSpells
import Derived.WalkLawsBesides
import Derived.Lib.Hide
import Derived.Deep.Draws
import Derived.Deep.QuietTactic
import Derived.BigQuiet
import Derived.StillTailTactics
import Derived.Laws.OwnMore
import Derived.Laws.Rows
namespace Go.Proofs.YtkoeecdjijfjnaaGreat
open Go.RowKit
def I64 (n:Int):Prop:=-9223372036854775808≤n∧n≤9223372036854775807
abbrev Ext (w w':World):Prop:=Below w.heap.size w w'
theorem Ext.trans' {a b c:World}(h:Ext a b)(k:Ext b c):Ext a c:=Below.trans h (Below.mono k h.size)
theorem Ext.drewN (w:World)(n:Nat):Ext w (w.drewN n):=⟨rfl,rfl,rfl,Nat.le_refl _,fun _ _=>rfl⟩
theorem cell_new (w:World)(cs:Array Value)(t:TypeId)(fr:Nat × Nat)(i:Nat):(w.alloc (.cells cs t fr)).cell? ⟨w.heap.size,i,none⟩=cs[i]?:=by
 have:(w.alloc (.cells cs t fr)).heap[w.heap.size]?=some (.cells cs t fr):=heap_alloc_new w _
 simp only [World.cell?,this]
 simp
theorem Ext.refl (w:World):Ext w w:=Below.refl _ _
theorem Ext.alloc' {w w1:World}(h:Ext w w1)(o:Obj):Ext w (w1.alloc o):=Below.alloc h h.size o
theorem Ext.drewN' {w w1:World}(h:Ext w w1)(n:Nat):Ext w (w1.drewN n):=⟨h.os,h.tape,h.output,h.size,h.block⟩
theorem Ext.drew' {w w1:World}(h:Ext w w1):Ext w w1.drew:=⟨h.os,h.tape,h.output,h.size,h.block⟩
theorem Ext.setCell' {w w1:World}(h:Ext w w1){p:Addr}(hp:w.heap.size≤p.block)(u:Value):Ext w (w1.setCell p u):=Below.setCell h hp u
def Sl (w:World)(P:Nat→Prop)(size:Nat)(A:Option Addr)(n:Nat)(cs:List Value):Prop :=
 cs.length=n*size∧(0<n→∃ b off,A=some ⟨b,off,none⟩∧P b∧∀ j u,cs[j]?=some u→w.cell? ⟨b,off+j,none⟩=some u)
theorem lt_of_cell {w:World}{b off:Nat}{u:Value}(h:w.cell? ⟨b,off,none⟩=some u):b<w.heap.size:=by
 rcases Nat.lt_or_ge b w.heap.size with h1 | h1
 ·exact h1
 ·have:w.heap[b]?=none:=Array.getElem?_eq_none h1
  simp [World.cell?,this] at h
def Keeps (P:Nat→Prop)(w w':World):Prop:=∀ b,b<w.heap.size→P b→w'.heap[b]?=w.heap[b]?
theorem Keeps.of_ext {P:Nat→Prop}{w w':World}(h:Ext w w'):Keeps P w w':=fun b hb _=>h.block b hb
theorem Sl.keep {w w':World}{P Q:Nat→Prop}{size:Nat}{A:Option Addr}{n:Nat}{cs:List Value}(h:Sl w P size A n cs)
  (hk:Keeps P w w')(hPQ:∀ b,P b→Q b):Sl w' Q size A n cs :=
 ⟨h.1,fun hn=>by
  obtain ⟨b,off,e,hb,hc⟩:=h.2 hn
  exact ⟨b,off,e,hPQ b hb,fun j u hu=>(World.cell?_of_block (w:=w) (w':=w') (hk b (lt_of_cell (hc j u hu)) hb)).trans (hc j u hu)⟩⟩
def Ints (w:World)(P:Nat→Prop)(v:Value)(l:List Int):Prop :=
 ∃ A c,v=.slice A l.length c∧l.length≤c∧(l.length≤17592186044416∧c≤9223372036854775807)∧(∀ x ∈ l,I64 x)∧Sl w P 1 A l.length (l.map (Value.int .i64))
theorem Ints.keep {w w':World}{P Q:Nat→Prop}{v:Value}{l:List Int}(h:Ints w P v l)
  (hk:Keeps P w w')(hPQ:∀ b,P b→Q b):Ints w' Q v l:=by
 obtain ⟨A,c,hv,h1,h2,h3,h4⟩:=h
 exact ⟨A,c,hv,h1,h2,h3,h4.keep hk hPQ⟩
theorem Ints.ext {w w':World}{P:Nat→Prop}{v:Value}{l:List Int}(h:Ints w P v l)(hx:Ext w w'):Ints w' P v l:=h.keep (Keeps.of_ext hx) (fun _ h=>h)
theorem cell_new' (w:World)(cs:Array Value)(t:TypeId)(fr:Nat × Nat)(i b:Nat)(hb:b=w.heap.size){u:Option Value}(hu:cs[i]?=u):(w.alloc (.cells cs t fr)).cell? ⟨b,i,none⟩=u:=by
 subst hb;rw [cell_new];exact hu
theorem cell_ext {w w':World}(hx:Ext w w'){b off:Nat}{u:Value}(h:w.cell? ⟨b,off,none⟩=some u):w'.cell? ⟨b,off,none⟩=some u:=by
 rw [← h];exact hx.cell (p:=⟨b,off,none⟩) (lt_of_cell h)
theorem cell_old {w:World}{b off:Nat}{u:Option Value}(h:w.cell? ⟨b,off,none⟩=u)(o:Obj):b<w.heap.size→(w.alloc o).cell? ⟨b,off,none⟩=u:=fun hb=>by
 rw [← h];exact World.cell?_alloc_lt w o _ hb
structure Fr (M:Nat→Prop)(w w':World):Prop where
 os:w'.os=w.os
 tape:w'.tape=w.tape
 output:w'.output=w.output
 size:w.heap.size≤w'.heap.size
 block:∀ k,k<w.heap.size→¬ M k→w'.heap[k]?=w.heap[k]?
theorem Fr.refl (M:Nat→Prop)(w:World):Fr M w w:=⟨rfl,rfl,rfl,Nat.le_refl _,fun _ _ _=>rfl⟩
theorem Fr.of_ext {M:Nat→Prop}{w w':World}(h:Ext w w'):Fr M w w':=⟨h.os,h.tape,h.output,h.size,fun k hk _=>h.block k hk⟩
theorem Fr.ext {w w':World}(h:Fr (fun _=>False) w w'):Ext w w':=⟨h.os,h.tape,h.output,h.size,fun k hk=>h.block k hk (fun h=>h)⟩
theorem Fr.trans {M:Nat→Prop}{a b c:World}(h:Fr M a b)(k:Fr M b c):Fr M a c :=
 ⟨k.os.trans h.os,k.tape.trans h.tape,k.output.trans h.output,Nat.le_trans h.size k.size,fun i hi hm=>(k.block i (Nat.lt_of_lt_of_le hi h.size) hm).trans (h.block i hi hm)⟩
theorem Fr.trans_new {M:Nat→Prop}{a b c:World}(h:Fr M a b)(k:Fr (fun i=>M i∨a.heap.size≤i) b c):Fr M a c :=
 ⟨k.os.trans h.os,k.tape.trans h.tape,k.output.trans h.output,Nat.le_trans h.size k.size,fun i hi hm=>(k.block i (Nat.lt_of_lt_of_le hi h.size) (fun h=>h.elim hm (fun h=>by omega))).trans (h.block i hi hm)⟩
theorem Fr.mono {M N:Nat→Prop}{w w':World}(h:Fr M w w')(hMN:∀ b,M b→N b):Fr N w w':=⟨h.os,h.tape,h.output,h.size,fun k hk hn=>h.block k hk (fun hm=>hn (hMN k hm))⟩
theorem Fr.alloc {M:Nat→Prop}{w w1:World}(h:Fr M w w1)(o:Obj):Fr M w (w1.alloc o):=h.trans (Fr.of_ext ((Ext.refl _).alloc' o))
theorem Fr.drewN {M:Nat→Prop}{w w1:World}(h:Fr M w w1)(n:Nat):Fr M w (w1.drewN n):=h.trans (Fr.of_ext ((Ext.refl _).drewN' n))
theorem Fr.drew {M:Nat→Prop}{w w1:World}(h:Fr M w w1):Fr M w w1.drew:=h.trans (Fr.of_ext (Ext.refl _).drew')
theorem Fr.setCell {M:Nat→Prop}{w w1:World}(h:Fr M w w1){p:Addr}(hp:M p.block∨w.heap.size≤p.block)(u:Value):Fr M w (w1.setCell p u) :=
 h.trans_new ⟨rfl,rfl,rfl,by simp [World.setCell],fun k _ hk=>Below.heap_setCell _ _ _ _ (fun e=>hk (e ▸ hp))⟩
theorem Fr.new_ext {M:Nat→Prop}{w w':World}(h:Fr M w w')(hM:∀ b,M b→w.heap.size≤b):Ext w w':=⟨h.os,h.tape,h.output,h.size,fun k hk=>h.block k hk (fun hm=>by have:=hM k hm;omega)⟩
theorem Keeps.of_fr {P M:Nat→Prop}{w w':World}(h:Fr M w w')(hPM:∀ b,P b→¬ M b):Keeps P w w':=fun b hb hp=>h.block b hb (hPM b hp)
def Blk (w:World)(g:Nat)(t:TypeId)(cs:Array Value):Prop:=w.heap[g]?=some (.cells cs t (0,0))
section
variable {w w':World}{g:Nat}{t:TypeId}{cs:Array Value}
theorem Blk.lt (h:Blk w g t cs):g<w.heap.size:=by
 rcases Nat.lt_or_ge g w.heap.size with hlt | hge
 ·exact hlt
 ·unfold Blk at h;rw [Array.getElem?_eq_none hge] at h;cases h
theorem Blk.cell (h:Blk w g t cs)(i:Nat):w.cell? ⟨g,i,none⟩=cs[i]?:=cell_of_row w g i cs t (0,0) h
theorem Blk.cell' (h:Blk w g t cs)(i:Nat){u:Value}(hu:cs[i]?=some u):w.cell? ⟨g,i,none⟩=some u:=(h.cell i).trans hu
theorem Blk.frozen (h:Blk w g t cs)(i:Nat):w.frozen? ⟨g,i,none⟩=false:=by
 unfold Blk at h
 simp [World.frozen?,h]
theorem Blk.new (w:World)(t:TypeId)(cs:Array Value):Blk (w.alloc (.cells cs t)) w.heap.size t cs:=heap_alloc_new w _
theorem Blk.new' (w:World)(t:TypeId)(cs:Array Value){g:Nat}(hg:g=w.heap.size):Blk (w.alloc (.cells cs t)) g t cs:=by subst hg;exact heap_alloc_new w _
theorem Blk.drew (h:Blk w g t cs):Blk w.drew g t cs:=h
theorem Blk.drewN (h:Blk w g t cs)(n:Nat):Blk (w.drewN n) g t cs:=h
theorem Blk.alloc (h:Blk w g t cs)(o:Obj):Blk (w.alloc o) g t cs:=(Below.heap_alloc w o g h.lt).trans h
theorem Blk.set_ (h:Blk w g t cs)(i:Nat)(u:Value):Blk (w.setCell ⟨g,i,none⟩ u) g t (cs.setIfInBounds i u):=by
 unfold Blk at h ⊢
 simp [World.setCell,Array.getElem?_modify,h]
theorem Blk.far (h:Blk w g t cs){p:Addr}(hp:g ≠ p.block)(u:Value):Blk (w.setCell p u) g t cs:=(Below.heap_setCell w p u g hp).trans h
theorem Blk.fr {M:Nat→Prop}(h:Blk w g t cs)(hb:Fr M w w')(hg:¬ M g):Blk w' g t cs:=(hb.block g h.lt hg).trans h
theorem Blk.ext (h:Blk w g t cs)(hb:Ext w w'):Blk w' g t cs:=(hb.block g h.lt).trans h
end
end Go.Proofs.YtkoeecdjijfjnaaGreat
