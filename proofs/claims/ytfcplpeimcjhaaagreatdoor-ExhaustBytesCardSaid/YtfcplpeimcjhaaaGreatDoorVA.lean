/- Common ground: memory, steps of a walk. Conditions: none. -/
import Derived.Test.YtfcplpeimcjhaaaGreatDoorProg
import Derived.WalkKit
import Derived.WalkSpells
import Derived.WalkLawsBesides
import Derived.Lib.Hide
import Derived.Deep.Draws
import Derived.Deep.QuietTactic
import Derived.BigQuiet
import Derived.StillTailTactics
import Derived.Laws.OwnMore
import Derived.Laws.Rows
import Derived.Maps.AppendAt
import Derived.Deep.AppendLies
import Derived.RegionTactic
import Derived.OwnWalk
import Derived.BigCall
import Derived.Deep.RegionLaw
import Derived.OrdersHeld
import Derived.StillTail
import Derived.Laws.EntriesVeiled
import Derived.Deep.DeepCutAuto
import Derived.Deep.RegionHeld3
import Derived.Laws.IdiomCopy
import Derived.BigGuardPart
import Derived.Lib.Overlaps
import Derived.Lib.AppendZerosOnto
import Derived.Laws.Externs
import Derived.BigRegion
namespace Go.Proofs.YtfcplpeimcjhaaaGreatDoor
open Go.RowKit
def I64 (n:Int):Prop:=-9223372036854775808≤n∧n≤9223372036854775807
abbrev Ext (w w':World):Prop:=Below w.heap.size w w'
theorem Ext.trans' {a b c:World}(h:Ext a b)(k:Ext b c):Ext a c:=Below.trans h (Below.mono k h.size)
theorem Ext.drewN (w:World)(n:Nat):Ext w (w.drewN n):=⟨rfl,rfl,rfl,Nat.le_refl _,fun _ _=>rfl⟩
theorem cell_new (w:World)(cs:Array Value)(t:TypeId)(fr:Nat × Nat)(i:Nat):(w.alloc (.cells cs t fr)).cell? ⟨w.heap.size,i,none⟩=cs[i]?:=by
  have:(w.alloc (.cells cs t fr)).heap[w.heap.size]?=some (.cells cs t fr):=heap_alloc_new w _
  simp only [World.cell?,this]
  simp
theorem Ext.refl (w:World):Ext w w:=Below.refl _ _
theorem Ext.alloc' {w w1:World}(h:Ext w w1)(o:Obj):Ext w (w1.alloc o):=Below.alloc h h.size o
theorem Ext.drewN' {w w1:World}(h:Ext w w1)(n:Nat):Ext w (w1.drewN n):=⟨h.os,h.tape,h.output,h.size,h.block⟩
theorem Ext.drew' {w w1:World}(h:Ext w w1):Ext w w1.drew:=⟨h.os,h.tape,h.output,h.size,h.block⟩
def Sl (w:World)(P:Nat→Prop)(size:Nat)(A:Option Addr)(n:Nat)(cs:List Value):Prop :=
  cs.length=n*size∧(0<n→∃ b off,A=some ⟨b,off,none⟩∧P b∧∀ j u,cs[j]?=some u→w.cell? ⟨b,off+j,none⟩=some u)
theorem lt_of_cell {w:World}{b off:Nat}{u:Value}(h:w.cell? ⟨b,off,none⟩=some u):b<w.heap.size:=by
  rcases Nat.lt_or_ge b w.heap.size with h1 | h1
  · exact h1
  · have:w.heap[b]?=none:=Array.getElem?_eq_none h1
    simp [World.cell?,this] at h
def Keeps (P:Nat→Prop)(w w':World):Prop:=∀ b,b<w.heap.size→P b→w'.heap[b]?=w.heap[b]?
theorem Keeps.of_ext {P:Nat→Prop}{w w':World}(h:Ext w w'):Keeps P w w':=fun b hb _=>h.block b hb
theorem Sl.keep {w w':World}{P Q:Nat→Prop}{size:Nat}{A:Option Addr}{n:Nat}{cs:List Value}(h:Sl w P size A n cs)
    (hk:Keeps P w w')(hPQ:∀ b,P b→Q b):Sl w' Q size A n cs :=
  ⟨h.1,fun hn=>by
    obtain ⟨b,off,e,hb,hc⟩:=h.2 hn
    exact ⟨b,off,e,hPQ b hb,fun j u hu=>(World.cell?_of_block (w:=w) (w':=w') (hk b (lt_of_cell (hc j u hu)) hb)).trans (hc j u hu)⟩⟩
def Ints (w:World)(P:Nat→Prop)(v:Value)(l:List Int):Prop :=
  ∃ A c,v=.slice A l.length c∧l.length≤c∧(l.length≤17592186044416∧c≤9223372036854775807)∧(∀ x ∈ l,I64 x)∧Sl w P 1 A l.length (l.map (Value.int .i64))
theorem Ints.keep {w w':World}{P Q:Nat→Prop}{v:Value}{l:List Int}(h:Ints w P v l)
    (hk:Keeps P w w')(hPQ:∀ b,P b→Q b):Ints w' Q v l:=by
  obtain ⟨A,c,hv,h1,h2,h3,h4⟩:=h
  exact ⟨A,c,hv,h1,h2,h3,h4.keep hk hPQ⟩
theorem Ints.ext {w w':World}{P:Nat→Prop}{v:Value}{l:List Int}(h:Ints w P v l)(hx:Ext w w'):Ints w' P v l:=h.keep (Keeps.of_ext hx) (fun _ h=>h)
theorem cell_ext {w w':World}(hx:Ext w w'){b off:Nat}{u:Value}(h:w.cell? ⟨b,off,none⟩=some u):w'.cell? ⟨b,off,none⟩=some u:=by
  rw [← h];exact hx.cell (p:=⟨b,off,none⟩) (lt_of_cell h)
structure Fr (M:Nat→Prop)(w w':World):Prop where
  os:w'.os=w.os
  tape:w'.tape=w.tape
  output:w'.output=w.output
  size:w.heap.size≤w'.heap.size
  block:∀ k,k<w.heap.size→¬ M k→w'.heap[k]?=w.heap[k]?
theorem Fr.refl (M:Nat→Prop)(w:World):Fr M w w:=⟨rfl,rfl,rfl,Nat.le_refl _,fun _ _ _=>rfl⟩
theorem Fr.of_ext {M:Nat→Prop}{w w':World}(h:Ext w w'):Fr M w w':=⟨h.os,h.tape,h.output,h.size,fun k hk _=>h.block k hk⟩
theorem Fr.ext {w w':World}(h:Fr (fun _=>False) w w'):Ext w w':=⟨h.os,h.tape,h.output,h.size,fun k hk=>h.block k hk (fun h=>h)⟩
theorem Fr.trans {M:Nat→Prop}{a b c:World}(h:Fr M a b)(k:Fr M b c):Fr M a c :=
  ⟨k.os.trans h.os,k.tape.trans h.tape,k.output.trans h.output,Nat.le_trans h.size k.size,fun i hi hm=>(k.block i (Nat.lt_of_lt_of_le hi h.size) hm).trans (h.block i hi hm)⟩
theorem Fr.trans_new {M:Nat→Prop}{a b c:World}(h:Fr M a b)(k:Fr (fun i=>M i∨a.heap.size≤i) b c):Fr M a c :=
  ⟨k.os.trans h.os,k.tape.trans h.tape,k.output.trans h.output,Nat.le_trans h.size k.size,fun i hi hm=>(k.block i (Nat.lt_of_lt_of_le hi h.size) (fun h=>h.elim hm (fun h=>by omega))).trans (h.block i hi hm)⟩
theorem Fr.mono {M N:Nat→Prop}{w w':World}(h:Fr M w w')(hMN:∀ b,M b→N b):Fr N w w':=⟨h.os,h.tape,h.output,h.size,fun k hk hn=>h.block k hk (fun hm=>hn (hMN k hm))⟩
theorem Fr.alloc {M:Nat→Prop}{w w1:World}(h:Fr M w w1)(o:Obj):Fr M w (w1.alloc o):=h.trans (Fr.of_ext ((Ext.refl _).alloc' o))
theorem Fr.drewN {M:Nat→Prop}{w w1:World}(h:Fr M w w1)(n:Nat):Fr M w (w1.drewN n):=h.trans (Fr.of_ext ((Ext.refl _).drewN' n))
theorem Fr.drew {M:Nat→Prop}{w w1:World}(h:Fr M w w1):Fr M w w1.drew:=h.trans (Fr.of_ext (Ext.refl _).drew')
theorem Fr.setCell {M:Nat→Prop}{w w1:World}(h:Fr M w w1){p:Addr}(hp:M p.block∨w.heap.size≤p.block)(u:Value):Fr M w (w1.setCell p u) :=
  h.trans_new ⟨rfl,rfl,rfl,by simp [World.setCell],fun k _ hk=>Below.heap_setCell _ _ _ _ (fun e=>hk (e ▸ hp))⟩
theorem Fr.new_ext {M:Nat→Prop}{w w':World}(h:Fr M w w')(hM:∀ b,M b→w.heap.size≤b):Ext w w':=⟨h.os,h.tape,h.output,h.size,fun k hk=>h.block k hk (fun hm=>by have:=hM k hm;omega)⟩
theorem Keeps.of_fr {P M:Nat→Prop}{w w':World}(h:Fr M w w')(hPM:∀ b,P b→¬ M b):Keeps P w w':=fun b hb hp=>h.block b hb (hPM b hp)
def Blk (w:World)(g:Nat)(t:TypeId)(cs:Array Value):Prop:=w.heap[g]?=some (.cells cs t (0,0))
section
variable {w w':World}{g:Nat}{t:TypeId}{cs:Array Value}
theorem Blk.lt (h:Blk w g t cs):g<w.heap.size:=by
  rcases Nat.lt_or_ge g w.heap.size with hlt | hge
  · exact hlt
  · unfold Blk at h;rw [Array.getElem?_eq_none hge] at h;cases h
theorem Blk.cell (h:Blk w g t cs)(i:Nat):w.cell? ⟨g,i,none⟩=cs[i]?:=cell_of_row w g i cs t (0,0) h
theorem Blk.cell' (h:Blk w g t cs)(i:Nat){u:Value}(hu:cs[i]?=some u):w.cell? ⟨g,i,none⟩=some u:=(h.cell i).trans hu
theorem Blk.frozen (h:Blk w g t cs)(i:Nat):w.frozen? ⟨g,i,none⟩=false:=by
  unfold Blk at h
  simp [World.frozen?,h]
theorem Blk.new (w:World)(t:TypeId)(cs:Array Value):Blk (w.alloc (.cells cs t)) w.heap.size t cs:=heap_alloc_new w _
theorem Blk.new' (w:World)(t:TypeId)(cs:Array Value){g:Nat}(hg:g=w.heap.size):Blk (w.alloc (.cells cs t)) g t cs:=by subst hg;exact heap_alloc_new w _
theorem Blk.drew (h:Blk w g t cs):Blk w.drew g t cs:=h
theorem Blk.drewN (h:Blk w g t cs)(n:Nat):Blk (w.drewN n) g t cs:=h
theorem Blk.alloc (h:Blk w g t cs)(o:Obj):Blk (w.alloc o) g t cs:=(Below.heap_alloc w o g h.lt).trans h
theorem Blk.set_ (h:Blk w g t cs)(i:Nat)(u:Value):Blk (w.setCell ⟨g,i,none⟩ u) g t (cs.setIfInBounds i u):=by
  unfold Blk at h ⊢
  simp [World.setCell,Array.getElem?_modify,h]
theorem Blk.far (h:Blk w g t cs){p:Addr}(hp:g ≠ p.block)(u:Value):Blk (w.setCell p u) g t cs:=(Below.heap_setCell w p u g hp).trans h
theorem Blk.fr {M:Nat→Prop}(h:Blk w g t cs)(hb:Fr M w w')(hg:¬ M g):Blk w' g t cs:=(hb.block g h.lt hg).trans h
theorem Blk.ext (h:Blk w g t cs)(hb:Ext w w'):Blk w' g t cs:=(hb.block g h.lt).trans h
end
end Go.Proofs.YtfcplpeimcjhaaaGreatDoor
namespace Go.Proofs.YtfcplpeimcjhaaaGreatDoor
def around (n m:Int):Int:=if n<0 then (-(n+1)) % m else n % m
theorem drop_getD {α:Type}{l:List α}{k:Nat}(d:α)(h:k<l.length):l.drop k=l.getD k d :: l.drop (k+1):=by
  rw [List.drop_eq_getElem_cons h];simp [h]
theorem take_succ_getD {α:Type}{l:List α}{k:Nat}(d:α)(h:k<l.length):l.take (k+1)=l.take k ++ [l.getD k d]:=by
  rw [List.take_succ_eq_append_getElem h];simp [h]
end Go.Proofs.YtfcplpeimcjhaaaGreatDoor
namespace Go.Proofs.YtfcplpeimcjhaaaGreatDoor
open Go.RowKit
inductive GV:Type where
  | mk (kind n:Int) (s:ByteArray) (kids:List GV)
def GV.kind:GV→Int | .mk k _ _ _=>k
def GV.n:GV→Int | .mk _ n _ _=>n
def GV.s:GV→ByteArray | .mk _ _ s _=>s
def GV.kids:GV→List GV | .mk _ _ _ l=>l
instance : Inhabited GV:=⟨.mk 0 0 ByteArray.empty []⟩
mutual
def RV (w:World)(P:Nat→Prop):GV→List Value→Prop
  | .mk k n s kids,cs=>I64 k∧I64 n∧s.size≤17592186044416∧∃ A c css,cs=[.int .i64 k,.int .i64 n,.string s,.slice A kids.length c]∧kids.length≤c∧(kids.length≤17592186044416∧c≤9223372036854775807) ∧
      Sl w P 4 A kids.length css∧RVs w P kids css
def RVs (w:World)(P:Nat→Prop):List GV→List Value→Prop
  | [],cs=>cs=[]
  | x :: xs,cs=>∃ c1 c2,cs=c1 ++ c2∧RV w P x c1∧RVs w P xs c2
end
def Vals (w:World)(P:Nat→Prop)(v:Value)(l:List GV):Prop :=
  ∃ A c css,v=.slice A l.length c∧l.length≤c∧(l.length≤17592186044416∧c≤9223372036854775807)∧Sl w P 4 A l.length css∧RVs w P l css
theorem RV.mk_iff {w:World}{P:Nat→Prop}{k n:Int}{s:ByteArray}{kids:List GV}{cs:List Value} :
    RV w P (.mk k n s kids) cs ↔ I64 k∧I64 n∧s.size≤17592186044416∧∃ v,cs=[.int .i64 k,.int .i64 n,.string s,v]∧Vals w P v kids:=by
  unfold RV Vals
  constructor
  · rintro ⟨h1,h2,h3,A,c,css,rfl,h4⟩
    exact ⟨h1,h2,h3,_,rfl,A,c,css,rfl,h4⟩
  · rintro ⟨h1,h2,h3,v,rfl,A,c,css,rfl,h4⟩
    exact ⟨h1,h2,h3,A,c,css,rfl,h4⟩
theorem RV.open_ {w:World}{P:Nat→Prop}{x:GV}{cs:List Value}(h:RV w P x cs) :
    I64 x.kind∧I64 x.n∧x.s.size≤17592186044416∧∃ v,cs=[.int .i64 x.kind,.int .i64 x.n,.string x.s,v]∧Vals w P v x.kids:=by
  obtain ⟨k,n,s,kids⟩:=x
  exact RV.mk_iff.1 h
theorem RV.len {w:World}{P:Nat→Prop}{x:GV}{cs:List Value}(h:RV w P x cs):cs.length=4:=by
  obtain ⟨k,n,s,kids⟩:=x
  obtain ⟨_,_,_,v,rfl,_⟩:=RV.mk_iff.1 h
  rfl
theorem RVs.len {w:World}{P:Nat→Prop}{l:List GV}{cs:List Value}(h:RVs w P l cs):cs.length=l.length*4:=by
  induction l generalizing cs with
  | nil=>simp only [RVs] at h;subst h;rfl
  | cons x xs ih =>
    simp only [RVs] at h
    obtain ⟨c1,c2,rfl,h1,h2⟩:=h
    have:=ih h2
    have:=h1.len
    simp only [List.length_append,List.length_cons]
    omega
mutual
theorem RV.keep {w w':World}{P Q:Nat→Prop}(hk:Keeps P w w')(hPQ:∀ b,P b→Q b):∀ {x:GV}{cs:List Value},RV w P x cs→RV w' Q x cs
  | .mk k n s kids,cs,h=>by
    simp only [RV] at h ⊢
    obtain ⟨h1,h2,h3,A,c,css,h4,h5,h6,h7,h8⟩:=h
    exact ⟨h1,h2,h3,A,c,css,h4,h5,h6,h7.keep hk hPQ,RVs.keep hk hPQ h8⟩
theorem RVs.keep {w w':World}{P Q:Nat→Prop}(hk:Keeps P w w')(hPQ:∀ b,P b→Q b):∀ {l:List GV}{cs:List Value},RVs w P l cs→RVs w' Q l cs
  | [],cs,h=>by simp only [RVs] at h ⊢;exact h
  | x :: xs,cs,h=>by
    simp only [RVs] at h ⊢
    obtain ⟨c1,c2,h1,h2,h3⟩:=h
    exact ⟨c1,c2,h1,RV.keep hk hPQ h2,RVs.keep hk hPQ h3⟩
end
theorem Vals.keep {w w':World}{P Q:Nat→Prop}{v:Value}{l:List GV}(h:Vals w P v l)(hk:Keeps P w w')(hPQ:∀ b,P b→Q b):Vals w' Q v l:=by
  obtain ⟨A,c,css,h1,h2,h3,h4,h5⟩:=h
  exact ⟨A,c,css,h1,h2,h3,h4.keep hk hPQ,RVs.keep hk hPQ h5⟩
theorem Vals.ext {w w':World}{P:Nat→Prop}{v:Value}{l:List GV}(h:Vals w P v l)(hx:Ext w w'):Vals w' P v l:=h.keep (Keeps.of_ext hx) (fun _ h=>h)
theorem RV.ext {w w':World}{P:Nat→Prop}{x:GV}{cs:List Value}(h:RV w P x cs)(hx:Ext w w'):RV w' P x cs:=RV.keep (Keeps.of_ext hx) (fun _ h=>h) h
theorem RVs.append {w:World}{P:Nat→Prop}{a b:List GV}{ca cb:List Value}(ha:RVs w P a ca)(hb:RVs w P b cb):RVs w P (a ++ b) (ca ++ cb):=by
  induction a generalizing ca with
  | nil=>simp only [RVs] at ha;subst ha;exact hb
  | cons x xs ih =>
    simp only [RVs] at ha
    obtain ⟨c1,c2,rfl,h1,h2⟩:=ha
    simp only [List.cons_append,RVs]
    exact ⟨c1,c2 ++ cb,by simp,h1,ih h2⟩
theorem RVs.one {w:World}{P:Nat→Prop}{x:GV}{c:List Value}(h:RV w P x c):RVs w P [x] c:=by
  simp only [RVs]
  exact ⟨c,[],by simp,h,rfl⟩
theorem RVs.drop {w:World}{P:Nat→Prop}{l:List GV}{cs:List Value}(h:RVs w P l cs)(k:Nat):RVs w P (l.drop k) (cs.drop (k*4)):=by
  induction k generalizing l cs with
  | zero=>simpa using h
  | succ k ih =>
    cases l with
    | nil=>simp only [RVs] at h;subst h;simp [RVs]
    | cons x xs =>
      simp only [RVs] at h
      obtain ⟨c1,c2,rfl,h1,h2⟩:=h
      have e:(k+1)*4=c1.length+k*4:=by rw [h1.len];omega
      rw [e,List.drop_length_add_append]
      exact ih h2
theorem RVs.take {w:World}{P:Nat→Prop}{l:List GV}{cs:List Value}(h:RVs w P l cs)(k:Nat):RVs w P (l.take k) (cs.take (k*4)):=by
  induction k generalizing l cs with
  | zero=>simp [RVs]
  | succ k ih =>
    cases l with
    | nil=>simp only [RVs] at h;subst h;simp [RVs]
    | cons x xs =>
      simp only [RVs] at h
      obtain ⟨c1,c2,rfl,h1,h2⟩:=h
      have e:(k+1)*4=c1.length+k*4:=by rw [h1.len];omega
      rw [e,List.take_length_add_append]
      simp only [List.take_succ_cons,RVs]
      exact ⟨c1,_,rfl,h1,ih h2⟩
theorem RVs.get {w:World}{P:Nat→Prop}{l:List GV}{cs:List Value}(h:RVs w P l cs){i:Nat}(hi:i<l.length) :
    RV w P (l.getD i default) ((cs.drop (i*4)).take 4):=by
  have h1:=h.drop i
  rw [drop_getD default hi] at h1
  simp only [RVs] at h1
  obtain ⟨c1,c2,e,h2,_⟩:=h1
  rw [e,← h2.len,List.take_left']
  · exact h2
  · rfl
structure VAt (w:World)(P:Nat→Prop)(x:GV)(A:Option Addr)(c:Nat):Prop where
  kind:I64 x.kind
  n:I64 x.n
  s:x.s.size≤17592186044416
  len:x.kids.length≤c
  cap:x.kids.length≤17592186044416∧c≤9223372036854775807
  kids:Vals w P (.slice A x.kids.length c) x.kids
def cellsOf (x:GV)(A:Option Addr)(c:Nat):List Value:=[.int .i64 x.kind,.int .i64 x.n,.string x.s,.slice A x.kids.length c]
theorem RV.at_ {w:World}{P:Nat→Prop}{x:GV}{cs:List Value}(h:RV w P x cs):∃ A c,cs=cellsOf x A c∧VAt w P x A c:=by
  obtain ⟨h1,h2,h3,v,rfl,h4⟩:=h.open_
  have h5:=h4
  obtain ⟨A,c,css,rfl,h6,h7,_⟩:=h4
  exact ⟨A,c,rfl,h1,h2,h3,h6,h7,h5⟩
theorem VAt.keep {w w':World}{P Q:Nat→Prop}{x:GV}{A:Option Addr}{c:Nat}(h:VAt w P x A c)(hk:Keeps P w w')(hPQ:∀ b,P b→Q b):VAt w' Q x A c :=
  ⟨h.kind,h.n,h.s,h.len,h.cap,h.kids.keep hk hPQ⟩
theorem VAt.ext {w w':World}{P:Nat→Prop}{x:GV}{A:Option Addr}{c:Nat}(h:VAt w P x A c)(hx:Ext w w'):VAt w' P x A c:=h.keep (Keeps.of_ext hx) (fun _ h=>h)
theorem Vals.at_ {w:World}{P:Nat→Prop}{v:Value}{l:List GV}(h:Vals w P v l){i:Nat}(hi:i<l.length) :
    ∃ b off c A d,v=.slice (some ⟨b,off,none⟩) l.length c∧P b∧l.length≤c∧(l.length≤17592186044416∧c≤9223372036854775807)∧VAt w P (l.getD i default) A d ∧
      w.cell? ⟨b,off+i*4,none⟩=some (.int .i64 (l.getD i default).kind)∧w.cell? ⟨b,off+i*4+1,none⟩=some (.int .i64 (l.getD i default).n) ∧
      w.cell? ⟨b,off+i*4+2,none⟩=some (.string (l.getD i default).s)∧w.cell? ⟨b,off+i*4+3,none⟩=some (.slice A (l.getD i default).kids.length d):=by
  obtain ⟨A,c,css,rfl,h2,h3,h4,h5⟩:=h
  obtain ⟨b,off,rfl,hb,hc⟩:=h4.2 (by omega)
  obtain ⟨A',d,e,hu⟩:=(h5.get hi).at_
  have hx:∀ j,j<4→css[i*4+j]?=((css.drop (i*4)).take 4)[j]?:=by
    intro j hj
    rw [List.getElem?_take,if_pos hj,List.getElem?_drop]
  unfold cellsOf at e
  refine ⟨b,off,c,A',d,rfl,hb,h2,h3,hu,?_,?_,?_,?_⟩
  · apply hc;have:=hx 0 (by omega);rw [e] at this;simpa using this
  · rw [Nat.add_assoc];apply hc;have:=hx 1 (by omega);rw [e] at this;simpa using this
  · rw [Nat.add_assoc];apply hc;have:=hx 2 (by omega);rw [e] at this;simpa using this
  · rw [Nat.add_assoc];apply hc;have:=hx 3 (by omega);rw [e] at this;simpa using this
theorem getD_mem {α:Type}{l:List α}{i:Nat}{d:α}(h:i<l.length):l.getD i d ∈ l:=by
  have:l.getD i d=l[i]:=by simp [h]
  rw [this]
  exact List.getElem_mem h
end Go.Proofs.YtfcplpeimcjhaaaGreatDoor
namespace Go.Proofs.YtfcplpeimcjhaaaGreatDoor
open Go.RowKit
theorem addr_add_none (b off j:Nat):(Addr.mk b off none).add j=⟨b,off+j,none⟩:=by
  unfold Addr.add
  split
  · next h=>subst h;rfl
  · rfl
theorem Fr.of_grown {w w':World}{row:Option Nat}(h:w.grownBy w' row):Fr (fun k=>some k=row) w w' :=
  ⟨h.os,h.tape,h.output,h.size,fun k hk hm=>h.block k hk hm⟩
section
variable {P:Program}
theorem run_append_empty (w:World)(base:Nat)(t ty e:TypeId)(i:TypeInfo)(size:Nat)(ht:P.underlying t=some (.slice e))(hi:P.info? e=some i)
    (v:Value)(n:Nat)(xs:List Value)(hown:w.ownsRow base e size v n xs)(c:Nat):(Builtin.append_ #[t,t] ty #[v,.slice none 0 c]).run P w=.ok v w:=by
  rcases hown.2 with ⟨rfl,rfl⟩ | ⟨g,cap,cur,rfl,_,_,hnc,_⟩
  · simp [Builtin.append_,run_underlying ht,sizeOf,typeInfo,hi,Builtin.lenOf,Builtin.firstCells]
  · simp [Builtin.append_,run_underlying ht,sizeOf,typeInfo,hi,Builtin.lenOf,Builtin.firstCells,hnc,storeCells]
theorem run_append_sl (w:World)(base:Nat)(t ty e:TypeId)(i:TypeInfo)(z:Value)(size bytes:Nat)(ht:P.underlying t=some (.slice e))(hi:P.info? e=some i)(hz:i.zero=some z)
    (hsize:i.size=size)(hby:i.bytes=bytes)(hzs:z.cells.size=size)(hsz:0<size)
    (v:Value)(n:Nat)(xs:List Value)(hown:w.ownsRow base e size v n xs)
    (S:Nat→Prop)(A:Option Addr)(m c:Nat)(news:List Value)(hr:Sl w S size A m news)(h1:∀ u ∈ news,u.oneCell'=true)
    (h63:n+m≤1000000000000)(hbytes:(n+m)*bytes≤140737488355328)(hbase:base≤w.heap.size) :
    ∃ v' w',(Builtin.append_ #[t,t] ty #[v,.slice A m c]).run P w=.ok v' w'∧w'.ownsRow base e size v' (n+m) (xs ++ news)∧Fr (fun k=>some k=v.ownBlock) w w' ∧
      (v'.ownBlock=v.ownBlock∨v'.ownBlock=some w.heap.size):=by
  have h63':n+m≤maxLen:=by unfold maxLen;omega
  rcases A with _ | ad
  · have hm:m=0:=by
      rcases Nat.eq_zero_or_pos m with h0 | h0
      · exact h0
      · obtain ⟨b,off,h,_⟩:=hr.2 h0
        cases h
    subst hm
    have hn:news=[]:=List.eq_nil_of_length_eq_zero (by simpa using hr.1)
    subst hn
    exact ⟨v,w,run_append_empty w base t ty e i size ht hi v n xs hown c,by simpa using hown,Fr.refl _ _,.inl rfl⟩
  · have hcells:∀ j u,news[j]?=some u→w.cell? (ad.add j)=some u:=by
      intro j u hu
      rcases Nat.eq_zero_or_pos m with h0 | h0
      · subst h0
        have hn:news=[]:=List.eq_nil_of_length_eq_zero (by simpa using hr.1)
        subst hn
        simp at hu
      · obtain ⟨b,off,h,_,hc⟩:=hr.2 h0
        injection h with h
        subst h
        rw [addr_add_none]
        exact hc j u hu
    obtain ⟨v',w',hrun,h2,h3,_,h5⟩:=run_append_own_at (P:=P) w base t ty e i z size bytes ht hi hz hsize hby hzs hsz v n xs hown ad m c news hr.1 hcells h1 h63' hbytes hbase
    exact ⟨v',w',hrun,h2,Fr.of_grown h3,h5⟩
theorem wp_append_sl (w:World){o:Oper}{a:Act}{K:Act→World→Prop}{Q:Exit→Act→World→Prop}(s x:Operand)(t:TypeId)
    (ho:o.op=.call { callee:=.builtin .append,args:=#[s,x],argTypes:=#[t,t] })
    (base:Nat)(e:TypeId)(i:TypeInfo)(z:Value)(size bytes:Nat)(ht:P.underlying t=some (.slice e))(hi:P.info? e=some i)(hz:i.zero=some z)
    (hsize:i.size=size)(hby:i.bytes=bytes)(hzs:z.cells.size=size)(hsz:0<size)
    (v:Value)(n:Nat)(xs:List Value)(hs:a.eval s=v)(hown:w.ownsRow base e size v n xs)
    (S:Nat→Prop)(A:Option Addr)(m c:Nat)(news:List Value)(hx:a.eval x=.slice A m c)(hr:Sl w S size A m news)(h1:∀ u ∈ news,u.oneCell'=true)
    (h63:n+m≤1000000000000)(hbytes:(n+m)*bytes≤140737488355328)(hbase:base≤w.heap.size)
    (h:∀ v' w',w'.ownsRow base e size v' (n+m) (xs ++ news)→Fr (fun k=>some k=v.ownBlock) w w'→(v'.ownBlock=v.ownBlock∨v'.ownBlock=some w.heap.size)→K (a.put o.dst v') w'):o.wp P a w K Q:=by
  obtain ⟨v',w',hrun,h2,h3,h4⟩:=run_append_sl (P:=P) w base t o.type e i z size bytes ht hi hz hsize hby hzs hsz v n xs hown S A m c news hr h1 h63 hbytes hbase
  unfold Oper.wp execOp
  simp only [ho,resolve,invoke,builtin,Sem.run_bind,Sem.run_pure,Result.andThen_ok,List.map_toArray,List.map_cons,List.map_nil,hs,hx,hrun]
  exact h v' w' h2 h3 h4
theorem wpList_append_sl (w:World){ops:Array Oper}{rest:List Oper}{o:Oper}{a:Act}{Q:Exit→Act→World→Prop}(hgd:o.guard=none)(s x:Operand)(t:TypeId)
    (ho:o.op=.call { callee:=.builtin .append,args:=#[s,x],argTypes:=#[t,t] })
    (base:Nat)(e:TypeId)(i:TypeInfo)(z:Value)(size bytes:Nat)(ht:P.underlying t=some (.slice e))(hi:P.info? e=some i)(hz:i.zero=some z)
    (hsize:i.size=size)(hby:i.bytes=bytes)(hzs:z.cells.size=size)(hsz:0<size)
    (v:Value)(n:Nat)(xs:List Value)(hs:a.eval s=v)(hown:w.ownsRow base e size v n xs)
    (S:Nat→Prop)(A:Option Addr)(m c:Nat)(news:List Value)(hx:a.eval x=.slice A m c)(hr:Sl w S size A m news)(h1:∀ u ∈ news,u.oneCell'=true)
    (h63:n+m≤1000000000000)(hbytes:(n+m)*bytes≤140737488355328)(hbase:base≤w.heap.size)
    (h:∀ v' w',w'.ownsRow base e size v' (n+m) (xs ++ news)→Fr (fun k=>some k=v.ownBlock) w w'→(v'.ownBlock=v.ownBlock∨v'.ownBlock=some w.heap.size)→wpList P ops Q rest (a.put o.dst v') w'):wpList P ops Q (o :: rest) a w :=
  wpList_plain hgd fun _ hK=>wp_append_sl w s x t ho base e i z size bytes ht hi hz hsize hby hzs hsz v n xs hs hown S A m c news hx hr h1 h63 hbytes hbase fun v' w' h2 h3 h4=>hK _ _ (h v' w' h2 h3 h4)
theorem step_append_sl (w:World){ops:Array Oper}{o:Oper}{a:Act}{K:Act→World→Prop}{Q:Exit→Act→World→Prop}{E:Prop}(hgd:o.guard=none)(s x:Operand)(t:TypeId)
    (ho:o.op=.call { callee:=.builtin .append,args:=#[s,x],argTypes:=#[t,t] })
    (base:Nat)(e:TypeId)(i:TypeInfo)(z:Value)(size bytes:Nat)(ht:P.underlying t=some (.slice e))(hi:P.info? e=some i)(hz:i.zero=some z)
    (hsize:i.size=size)(hby:i.bytes=bytes)(hzs:z.cells.size=size)(hsz:0<size)
    (v:Value)(n:Nat)(xs:List Value)(hs:a.eval s=v)(hown:w.ownsRow base e size v n xs)
    (S:Nat→Prop)(A:Option Addr)(m c:Nat)(news:List Value)(hx:a.eval x=.slice A m c)(hr:Sl w S size A m news)(h1:∀ u ∈ news,u.oneCell'=true)
    (h63:n+m≤1000000000000)(hbytes:(n+m)*bytes≤140737488355328)(hbase:base≤w.heap.size)
    (h:∀ v' w',w'.ownsRow base e size v' (n+m) (xs ++ news)→Fr (fun k=>some k=v.ownBlock) w w'→(v'.ownBlock=v.ownBlock∨v'.ownBlock=some w.heap.size)→K (a.put o.dst v') w') :
    if Region.wanted o (yielded ops a.tmps)=true then Oper.wp P o a w K Q else E:=by
  have hw:Region.wanted o (yielded ops a.tmps)=true:=by simp [Region.wanted,hgd]
  rw [if_pos hw]
  exact wp_append_sl w s x t ho base e i z size bytes ht hi hz hsize hby hzs hsz v n xs hs hown S A m c news hx hr h1 h63 hbytes hbase h
end
theorem Sl.of_own {w:World}{base:Nat}{e:TypeId}{size n:Nat}{v:Value}{xs:List Value}(h:w.ownsRow base e size v n xs) :
    ∃ A c,v=.slice A n c∧n≤c∧c≤maxLen∧∀ Q:Nat→Prop,(∀ b,v.ownBlock=some b→Q b)→Sl w Q size A n xs:=by
  rcases h.2 with ⟨rfl,rfl⟩ | ⟨g,cap,cur,rfl,hg,hh,hn,hm,hs,ht⟩
  · exact ⟨none,0,rfl,Nat.le_refl _,Nat.zero_le _,fun Q _=>⟨by simpa using h.1,fun h=>absurd h (by omega)⟩⟩
  · refine ⟨_,cap,rfl,hn,hm,fun Q hQ=>⟨h.1,fun hn=>⟨g,0,rfl,hQ g rfl,fun j u hu=>?_⟩⟩⟩
    have hb:Blk w g e cur:=hh
    rw [hb.cell]
    rw [← ht,List.getElem?_take] at hu
    split at hu
    · simpa using hu
    · cases hu
def RL {α:Type}(R:α→List Value→Prop):List α→List Value→Prop
  | [],cs=>cs=[]
  | x :: xs,cs=>∃ c1 c2,cs=c1 ++ c2∧R x c1∧RL R xs c2
section
variable {α:Type}{R:α→List Value→Prop}{size:Nat}
theorem RL.len (hR:∀ x cs,R x cs→cs.length=size){l:List α}{cs:List Value}(h:RL R l cs):cs.length=l.length*size:=by
  induction l generalizing cs with
  | nil=>simp only [RL] at h;subst h;simp
  | cons x xs ih =>
    simp only [RL] at h
    obtain ⟨c1,c2,rfl,h1,h2⟩:=h
    rw [List.length_append,hR _ _ h1,ih h2,List.length_cons,Nat.add_mul,Nat.one_mul,Nat.add_comm]
theorem RL.mono {R':α→List Value→Prop}{l:List α}{cs:List Value}(h:RL R l cs)(hR:∀ x ∈ l,∀ cs,R x cs→R' x cs):RL R' l cs:=by
  induction l generalizing cs with
  | nil=>exact h
  | cons x xs ih =>
    simp only [RL] at h ⊢
    obtain ⟨c1,c2,rfl,h1,h2⟩:=h
    exact ⟨c1,c2,rfl,hR x (by simp) _ h1,ih h2 (fun y hy=>hR y (by simp [hy]))⟩
theorem RL.append {a b:List α}{ca cb:List Value}(ha:RL R a ca)(hb:RL R b cb):RL R (a ++ b) (ca ++ cb):=by
  induction a generalizing ca with
  | nil=>simp only [RL] at ha;subst ha;exact hb
  | cons x xs ih =>
    simp only [RL] at ha
    obtain ⟨c1,c2,rfl,h1,h2⟩:=ha
    simp only [List.cons_append,RL]
    exact ⟨c1,c2 ++ cb,by simp,h1,ih h2⟩
theorem RL.one {x:α}{c:List Value}(h:R x c):RL R [x] c:=by
  simp only [RL]
  exact ⟨c,[],by simp,h,rfl⟩
theorem RL.drop (hR:∀ x cs,R x cs→cs.length=size){l:List α}{cs:List Value}(h:RL R l cs)(k:Nat):RL R (l.drop k) (cs.drop (k*size)):=by
  induction k generalizing l cs with
  | zero=>simpa using h
  | succ k ih =>
    cases l with
    | nil=>simp only [RL] at h;subst h;simp [RL]
    | cons x xs =>
      simp only [RL] at h
      obtain ⟨c1,c2,rfl,h1,h2⟩:=h
      have e:(k+1)*size=c1.length+k*size:=by rw [hR _ _ h1,Nat.add_mul];omega
      rw [e,List.drop_length_add_append]
      exact ih h2
theorem RL.take (hR:∀ x cs,R x cs→cs.length=size){l:List α}{cs:List Value}(h:RL R l cs)(k:Nat):RL R (l.take k) (cs.take (k*size)):=by
  induction k generalizing l cs with
  | zero=>simp [RL]
  | succ k ih =>
    cases l with
    | nil=>simp only [RL] at h;subst h;simp [RL]
    | cons x xs =>
      simp only [RL] at h
      obtain ⟨c1,c2,rfl,h1,h2⟩:=h
      have e:(k+1)*size=c1.length+k*size:=by rw [hR _ _ h1,Nat.add_mul];omega
      rw [e,List.take_length_add_append]
      simp only [List.take_succ_cons,RL]
      exact ⟨c1,_,rfl,h1,ih h2⟩
theorem RL.get (hR:∀ x cs,R x cs→cs.length=size){l:List α}{cs:List Value}(h:RL R l cs){i:Nat}(d:α)(hi:i<l.length) :
    R (l.getD i d) ((cs.drop (i*size)).take size):=by
  have h1:=h.drop hR i
  rw [drop_getD d hi] at h1
  simp only [RL] at h1
  obtain ⟨c1,c2,e,h2,_⟩:=h1
  rw [e,← hR _ _ h2,List.take_left']
  · exact h2
  · rfl
end
theorem RVs_RL {w:World}{P:Nat→Prop}{l:List GV}{cs:List Value}:RVs w P l cs ↔ RL (RV w P) l cs:=by
  induction l generalizing cs with
  | nil=>simp [RVs,RL]
  | cons x xs ih=>simp [RVs,RL,ih]
def Lst {α:Type}(w:World)(P:Nat→Prop)(size:Nat)(R:α→List Value→Prop)(v:Value)(l:List α):Prop :=
  ∃ A c css,v=.slice A l.length c∧l.length≤c∧(l.length≤17592186044416∧c≤9223372036854775807)∧Sl w P size A l.length css∧RL R l css
theorem Vals_Lst {w:World}{P:Nat→Prop}{v:Value}{l:List GV}:Vals w P v l ↔ Lst w P 4 (RV w P) v l:=by
  unfold Vals Lst
  simp only [RVs_RL]
theorem Lst.at_ {α:Type}{w:World}{P:Nat→Prop}{size:Nat}{R:α→List Value→Prop}{v:Value}{l:List α}(hR:∀ x cs,R x cs→cs.length=size)(h:Lst w P size R v l)(d:α){i:Nat}(hi:i<l.length) :
    ∃ b off c cs,v=.slice (some ⟨b,off,none⟩) l.length c∧P b∧l.length≤c∧(l.length≤17592186044416∧c≤9223372036854775807)∧R (l.getD i d) cs∧(∀ j u,cs[j]?=some u→w.cell? ⟨b,off+i*size+j,none⟩=some u):=by
  obtain ⟨A,c,css,rfl,h2,h3,h4,h5⟩:=h
  obtain ⟨b,off,rfl,hb,hc⟩:=h4.2 (by omega)
  refine ⟨b,off,c,_,rfl,hb,h2,h3,h5.get hR d hi,fun j u hu=>?_⟩
  rw [Nat.add_assoc]
  apply hc
  rw [List.getElem?_take] at hu
  split at hu
  · rw [List.getElem?_drop] at hu;exact hu
  · cases hu
theorem Lst.keep {α:Type}{w w':World}{P Q:Nat→Prop}{size:Nat}{R R':α→List Value→Prop}{v:Value}{l:List α}(h:Lst w P size R v l)(hk:Keeps P w w')(hPQ:∀ b,P b→Q b)(hR:∀ x ∈ l,∀ cs,R x cs→R' x cs):Lst w' Q size R' v l:=by
  obtain ⟨A,c,css,h1,h2,h3,h4,h5⟩:=h
  exact ⟨A,c,css,h1,h2,h3,h4.keep hk hPQ,h5.mono hR⟩
section
variable {w w':World}{P Q:Nat→Prop}
theorem Ints.at_ {v:Value}{l:List Int}(h:Ints w P v l){i:Nat}(hi:i<l.length) :
    ∃ b off c,v=.slice (some ⟨b,off,none⟩) l.length c∧P b∧l.length≤c∧(l.length≤17592186044416∧c≤9223372036854775807)∧I64 (l.getD i 0)∧w.cell? ⟨b,off+i,none⟩=some (.int .i64 (l.getD i 0)):=by
  obtain ⟨A,c,rfl,h2,h3,h4,h5⟩:=h
  obtain ⟨b,off,rfl,hb,hc⟩:=h5.2 (by omega)
  refine ⟨b,off,c,rfl,hb,h2,h3,?_,?_⟩
  · exact h4 _ (getD_mem hi)
  · apply hc;simp [hi]
end
end Go.Proofs.YtfcplpeimcjhaaaGreatDoor
namespace Go.Proofs.YtfcplpeimcjhaaaGreatDoor
open Go.RowKit
theorem cell_of_ints {w:World}{b off:Nat}{l:List Int}{k:Nat}(hk:k<l.length)
   (hc:∀ j u,(l.map (Value.int .i64))[j]?=some u→w.cell? ⟨b,off+j,none⟩=some u):w.cell? ⟨b,off+k,none⟩=some (.int .i64 (l.getD k 0)):=by
  apply hc;simp [hk]
theorem ret_int {k:IntKind}{a b:Int}(h:a=b):Ending.returned (.int k a)=.returned (.int k b):=by rw [h]
theorem ret_bool {a b:Bool}(h:a=b):Ending.returned (.bool a)=.returned (.bool b):=by rw [h]
def RetQ (v:Value)(w:World)(e:Ending)(w':World):Prop:=e=.returned v∧∃ n,w'=w.drewN n
set_option maxHeartbeats 400000 in
theorem around_any (n m:Int)(w:World)(hn:I64 n)(hm:1≤m)(hm2:m≤9223372036854775807) :
    Calls Tryz.prog 19 #[.int .i64 n,.int .i64 m] w fun e w'=>e=.returned (.int .i64 (around n m))∧w=w':=by
  obtain ⟨hn1,hn2⟩:=hn
  by_cases h0:n<0
  · go_enter Tryz.func19,Tryz.ntmps19
    go_wp2
    go_ret
    refine ⟨ret_int ?_,rfl⟩
    unfold around
    rw [if_pos h0,← Int.neg_tmod,Int.tmod_eq_emod_of_nonneg (by omega)]
  · go_enter Tryz.func19,Tryz.ntmps19
    go_wp2
    go_ret
    refine ⟨ret_int ?_,rfl⟩
    unfold around
    rw [if_neg (by omega)]
def SameInv (a b:List Int)(w:World)(i:Value)(wr:World):Prop:=∃ k n:Nat,k≤a.length∧i=.int .i64 k∧wr=w.drewN n∧a.take k=b.take k
set_option maxHeartbeats 400000 in
theorem sameInts_any (a b:List Int)(P Q:Nat→Prop)(va vb:Value)(w:World)(ha:Ints w P va a)(hb:Ints w Q vb b) :
    Calls Tryz.prog 40 #[va,vb] w (RetQ (.bool (decide (a=b))) w):=by
  obtain ⟨A,c,rfl,h1,h2,h3,h4⟩:=ha
  obtain ⟨A',c',rfl,h1',h2',h3',h4'⟩:=hb
  clear h3 h3'
  have H4:=Lib.hid h4
  have H4':=Lib.hid h4'
  clear h4 h4'
  generalize hna:a.length=na at *
  generalize hnb:b.length=nb at *
  have HA:=Lib.hid hna
  have HB:=Lib.hid hnb
  clear hna hnb
  by_cases hl:na=nb
  · subst hl
    go_enter Tryz.func40,Tryz.ntmps40
    go_wp2
    go_loopw [5] (fun i wr=>SameInv a b w i wr) (fun i _=>na - (intOf i).toNat)
    case atStart=>exact ⟨0,0,Nat.zero_le _,rfl,rfl,rfl⟩
    case round =>
      obtain ⟨k,n,hk,rfl,rfl,ht⟩:=hrel
      rw [HA.out] at hk
      have HT:=Lib.hid ht
      clear ht
      by_cases hlt:k<na
      · obtain ⟨b1,o1,rfl,-,hc1⟩:=H4.out.2 (by omega)
        obtain ⟨b2,o2,rfl,-,hc2⟩:=H4'.out.2 (by omega)
        have g1:=cell_of_ints (k:=k) (by rw [HA.out];omega) hc1
        have g2:=cell_of_ints (k:=k) (by rw [HB.out];omega) hc2
        clear hc1 hc2
        generalize hx:a.getD k 0=x at *
        generalize hy:b.getD k 0=y at *
        have HX:=Lib.hid hx
        have HY:=Lib.hid hy
        clear hx hy
        by_cases hxy:x=y
        · subst hxy
          go_wp2
          go_quiet (fail)
          go_wp2
          go_roundw
          case rel =>
            refine ⟨k+1,_,by rw [HA.out];omega,by go_num,rfl,?_⟩
            rw [take_succ_getD 0 (by rw [HA.out];omega),take_succ_getD 0 (by rw [HB.out];omega),HT.out,HX.out,HY.out]
          case measure=>simp [intOf];omega
        · have hxy':(x != y)=true:=by simp [hxy]
          have HN:=Lib.hid hxy
          clear hxy
          go_wp2
          go_quiet (fail)
          go_wp2
          go_ret
          refine ⟨ret_bool ?_,_,World.drewN_drewN _ _ _⟩
          symm
          rw [decide_eq_false_iff_not]
          rintro rfl
          exact HN.out (HX.out.symm.trans HY.out)
      · go_wp2
        go_ret
        refine ⟨ret_bool ?_,_,rfl⟩
        have:=HT.out
        rw [List.take_of_length_le (by rw [HA.out];omega),List.take_of_length_le (by rw [HB.out];omega)] at this
        simp [this]
  · have hl':((na:Int) != (nb:Int))=true:=by simp;omega
    go_enter Tryz.func40,Tryz.ntmps40
    go_wp2
    go_ret
    refine ⟨ret_bool ?_,0,rfl⟩
    symm
    rw [decide_eq_false_iff_not]
    rintro rfl
    exact hl (HA.out.symm.trans HB.out)
def pick (l:List Int)(i m:Int):Int:=if i<0∨(l.length:Int)≤i then 0 else around (l.getD i.toNat 0) m
theorem I64_getD {l:List Int}(h:∀ x ∈ l,I64 x)(k:Nat):I64 (l.getD k 0):=by
  by_cases hk:k<l.length
  · have:l.getD k 0=l[k]:=by simp [hk]
    rw [this]
    exact h _ (List.getElem_mem hk)
  · have:l.getD k 0=0:=by simp [hk]
    rw [this]
    unfold I64;omega
set_option maxHeartbeats 400000 in
theorem pick_any (l:List Int)(i m:Int)(P:Nat→Prop)(v:Value)(w:World)(hv:Ints w P v l)(hi:I64 i)(hm:1≤m)(hm2:m≤9223372036854775807) :
    Calls Tryz.prog 5 #[v,.int .i64 i,.int .i64 m] w fun e w'=>e=.returned (.int .i64 (pick l i m))∧w=w':=by
  obtain ⟨A,c,rfl,h1,h2,h3,h4⟩:=hv
  obtain ⟨hi1,hi2⟩:=hi
  by_cases h0:i<0
  · go_enter Tryz.func5,Tryz.ntmps5
    go_wp2
    go_ret
    exact ⟨ret_int (by unfold pick;rw [if_pos (by omega)]),rfl⟩
  · by_cases h5:(l.length:Int)≤i
    · have h0':decide (i<0)=false:=by simpa using h0
      go_enter Tryz.func5,Tryz.ntmps5
      go_wp2
      go_ret
      exact ⟨ret_int (by unfold pick;rw [if_pos (by omega)]),rfl⟩
    · obtain ⟨k,rfl⟩:=Int.eq_ofNat_of_zero_le (show 0≤i by omega)
      have hk:k<l.length:=by omega
      obtain ⟨b1,o1,rfl,-,hc1⟩:=h4.2 (by omega)
      have g1:=cell_of_ints hk hc1
      have hx:=I64_getD h3 k
      have hr:pick l k m=around (l.getD k 0) m:=by
        unfold pick
        rw [if_neg (by omega)]
        rfl
      rw [hr]
      clear hr h3 hc1
      generalize l.getD k 0=x at *
      go_enter Tryz.func5,Tryz.ntmps5
      go_wp2_with (go_at_call 19;refine (around_any _ _ _ hx hm hm2).mono ?_;rintro e w' ⟨rfl,rfl⟩)
      go_ret
      exact ⟨rfl,rfl⟩
def RetE (v:Value)(w:World)(e:Ending)(w':World):Prop:=e=.returned v∧Ext w w'
end Go.Proofs.YtfcplpeimcjhaaaGreatDoor
namespace Go.Proofs.YtfcplpeimcjhaaaGreatDoor
open Go.RowKit
theorem step_call {P:Program}{ops:Array Oper}{o:Oper}{a:Act}{w:World}{K:Act→World→Prop}{Q:Exit→Act→World→Prop}{E:Prop}(hg:o.guard=none)(f:FuncId)(xs:Array Operand)(ats:Array TypeId)
    (hop:o.op=Op.call { callee:=Callee.value (Operand.func f),args:=xs,argTypes:=ats })(fn:Func)(hf:P.funcs[f]?=some fn)(hn:(fn.name == "runtime.NumGoroutine")=false) (hb:fn.body.isNone=false) (vs:Array Value) (hv:xs.map a.eval=vs) (h:Calls P f vs w fun e w'=>∃ v,e=.returned v∧K (a.put o.dst v) w') :
    if Region.wanted o (yielded ops a.tmps)=true then Oper.wp P o a w K Q else E:=by
  have hw:Region.wanted o (yielded ops a.tmps)=true:=by simp [Region.wanted,hg]
  rw [if_pos hw]
  unfold Oper.wp
  obtain ⟨dst,op,ty,pos,after,guard⟩:=o
  simp only at hop
  subst hop
  rw [execOp_call_go,hv]
  subst hv
  have hp:Sem.run P program w=.ok P w:=rfl
  simp only [callFunc,Array.append_empty,Array.empty_append,Sem.run_bind,hp,Result.andThen_ok,hf,hn,hb,Bool.false_eq_true,if_false,Sem.run_pure,Oper.upon]
  refine h.mono ?_
  rintro e w' ⟨v,rfl,hk⟩
  exact hk
section
variable {P:Program}{ops:Array Oper}{Q:Exit→Act→World→Prop}{md:Region.Mode}{S:World→Prop}{bf:Nat→Bool}
def wpAnyD (P:Program)(md:Region.Mode)(ops:Array Oper)(Q:Exit→Act→World→Prop)(S:World→Prop)(bf:Nat→Bool):Nat→Array Bool→Act→World→Prop
  | 0,listed,a,w=>Region.ready md ops listed=[]∧Q .normal a w
  | fuel+1,listed,a,w=>(Region.ready md ops listed=[]→Q .normal a w) ∧
    ∀ i ∈ Region.ready md ops listed,wpOp P ops Q i (fun a' w'=>(bf i=true→S w')∧wpAnyD P md ops Q S bf fuel (listed.setIfInBounds i true) a' w') a w
theorem wpAny_of_D:∀ (fuel:Nat)(listed:Array Bool)(a:Act)(w:World),wpAnyD P md ops Q S bf fuel listed a w→wpAny P md ops Q fuel listed a w
  | 0,_,_,_,h=>h
  | fuel+1,_,_,_,h=>⟨h.1,fun i hi=>wpOp_mono (fun a' w' h'=>wpAny_of_D fuel _ a' w' h'.2) (h.2 i hi)⟩
theorem wpAnyD_first {i:Nat}{oi:Oper}{v:Value}(hi:ops[i]?=some oi)(hsel:∀ (j:Nat)(o:Oper) cs b,ops[j]?=some o→o.op ≠ .select cs b)
    (hQ:∀ c a w,Q (.panic c) (a.put oi.dst v) w→Q (.panic c) a w)(hw:∀ j oj,ops[j]?=some oj→bf j=true∨∃ e ∈ oj.after,Region.binds md e=true∧e.on=i) :
    ∀ (fuel:Nat) (listed:Array Bool) (a:Act) (w:World),
      (∀ j oj,ops[j]?=some oj→j ≠ i→listed.getD j true=false→(∀ e ∈ oj.after,Region.binds md e=true→e.on ≠ i)→oi.apart ops oj=true) →
      i ∈ Region.ready md ops listed→YieldsIf P ops S oi v a→S w →
      wpAnyD P md ops Q S bf fuel (listed.setIfInBounds i true) (a.put oi.dst v) w→wpAnyD P md ops Q S bf (fuel+1) listed a w:=by
  intro fuel
  induction fuel with
  | zero =>
    intro listed a w _ hr hy hS H
    refine ⟨fun h=>(by rw [h] at hr;cases hr),fun j hj=>?_⟩
    by_cases hji:j=i
    · subst hji;exact hy.wpOp hi hS ⟨fun _=>hS,H⟩
    · have:=ready_mono hj hji
      rw [H.1] at this
      cases this
  | succ fuel ih =>
    intro listed a w hfree hr hy hS H
    refine ⟨fun h=>(by rw [h] at hr;cases hr),fun j hj=>?_⟩
    by_cases hji:j=i
    · subst hji;exact hy.wpOp hi hS ⟨fun _=>hS,H⟩
    · have h1:=H.2 j (ready_mono hj hji)
      obtain ⟨hjun,oj,hoj,hall⟩:=mem_ready.1 hj
      have hnot:∀ e ∈ oj.after,Region.binds md e=true→e.on ≠ i:=fun e he hb heq=>by
        have h1:=hall e he hb
        have h0:=(mem_ready.1 hr).1
        rw [heq] at h1
        rcases Nat.lt_or_ge i listed.size with h' | h'
        · simp [h'] at h0 h1;rw [h0] at h1;cases h1
        · simp [Array.getElem?_eq_none h'] at h1
      have hbj:bf j=true:=by
        rcases hw j oj hoj with h | ⟨e,he,hb,hon⟩
        · exact h
        · exact absurd hon (hnot e he hb)
      have h2:=wpOp_putIf hoj (hfree j oj hoj hji hjun hnot) (fun cs b=>hsel i oi cs b hi) (fun cs b=>hsel j oj cs b hoj) hQ hy h1
      have hfree':∀ k ok,ops[k]?=some ok→k ≠ i→(listed.setIfInBounds j true).getD k true=false →
          (∀ e ∈ ok.after,Region.binds md e=true→e.on ≠ i)→oi.apart ops ok=true:=fun k ok hk hki hun hno=>by
        refine hfree k ok hk hki ?_ hno
        by_cases hjk:j=k
        · subst hjk;exact hjun
        · rw [getD_set_ne true hjk] at hun;exact hun
      refine wpOp_mono (fun a' w' h3=>⟨h3.2.1,ih (listed.setIfInBounds j true) a' w' hfree' (ready_mono hr (Ne.symm hji)) h3.1 (h3.2.1 hbj) ?_⟩) h2
      rw [Array.setIfInBounds_comm _ _ hji]
      exact h3.2.2
def waitB (md:Region.Mode)(ops:Array Oper)(bf:Nat→Bool)(i:Nat):Bool:=(List.range ops.size).all fun j=>bf j || Region.waitsFor md ops j i
theorem waitB_spec {i:Nat}(h:waitB md ops bf i=true):∀ j oj,ops[j]?=some oj→bf j=true∨∃ e ∈ oj.after,Region.binds md e=true∧e.on=i:=by
  intro j oj hj
  have hlt:j<ops.size:=(Array.getElem?_eq_some_iff.1 hj).1
  have h1:=List.all_eq_true.1 h j (List.mem_range.2 hlt)
  rcases Bool.or_eq_true_iff.1 h1 with h1 | h1
  · exact .inl h1
  · obtain ⟨o',ho',e,he,hb,hon⟩:=Region.waitsFor_spec h1
    have:o'=oj:=Option.some.inj (ho'.symm.trans hj)
    subst this
    exact .inr ⟨e,he,hb,hon⟩
theorem wpAnyD_take {i:Nat}{oi:Oper}{v:Value}{fuel:Nat}{listed:Array Bool}{a:Act}{w:World}(hi:ops[i]?=some oi)
    (hs:Region.noSelect ops=true)(hf:Region.free md ops listed i=true)(hr:(Region.ready md ops listed).contains i=true)(hb:waitB md ops bf i=true)
    (hQ:∀ c a w,Q (.panic c) (a.put oi.dst v) w→Q (.panic c) a w)(hy:YieldsIf P ops S oi v a)(hS:S w)
    (h:wpAnyD P md ops Q S bf fuel (listed.setIfInBounds i true) (a.put oi.dst v) w):wpAnyD P md ops Q S bf (fuel+1) listed a w :=
  wpAnyD_first hi (Region.noSelect_spec hs) hQ (waitB_spec hb) fuel listed a w (Region.free_spec hi hf) (by simpa using hr) hy hS h
theorem wpAnyD_one {i:Nat}{o:Oper}{fuel:Nat}{listed:Array Bool}{a:Act}{w:World}(hr:Region.ready md ops listed=[i])(hi:ops[i]?=some o)
    (h:∀ K:Act→World→Prop,(∀ a' w',(bf i=true→S w')→wpAnyD P md ops Q S bf fuel (listed.setIfInBounds i true) a' w'→K a' w')→if Region.wanted o (yielded ops a.tmps)=true then Oper.wp P o a w K Q else K (a.put o.dst undef) w):wpAnyD P md ops Q S bf (fuel+1) listed a w:=by
  refine ⟨fun h0=>(by rw [h0] at hr;cases hr),fun j hj=>?_⟩
  rw [hr] at hj
  simp only [List.mem_singleton] at hj
  subst hj
  have h1:=h (fun a' w'=>(bf j=true→S w')∧wpAnyD P md ops Q S bf fuel (listed.setIfInBounds j true) a' w') (fun a' w' h2 h3=>⟨h2,h3⟩)
  unfold wpOp
  simp only [hi]
  split
  · rename_i hw
    rw [if_pos hw] at h1
    exact .inl h1
  · rename_i hw
    rw [if_neg hw] at h1
    exact h1
theorem wpAnyD_done {listed:Array Bool}{a:Act}{w:World}(hr:Region.ready md ops listed=[])(h:Q .normal a w) :
    ∀ fuel,wpAnyD P md ops Q S bf fuel listed a w
  | 0=>⟨hr,h⟩
  | _+1=>⟨fun _=>h,by rw [hr];simp⟩
theorem wp_region_D {id:Nat}{a:Act}{w:World}(S:World→Prop)(bf:Nat→Bool)(hm:P.follows .mixedOrders=true)
    (h:wpAnyD P .any ops Q S bf ops.size (Array.replicate ops.size false) a { w with drawn:=w.drawn+1 }):(Code.region id ops true).wp P Q a w :=
  wp_region_any hm (wpAny_of_D _ _ _ _ h)
end
theorem vp (a:Act)(d e:Nat)(v:Value):(a.put (some d) v).eval (.tmp e)=if d=e then (if d<a.tmps.size then v else undef) else a.eval (.tmp e):=by
  simp only [Act.put,Act.eval]
  by_cases h:d=e
  · subst h
    by_cases h2:d<a.tmps.size <;> simp [h2]
  · simp [h]
theorem zp (a:Act)(d:Nat)(v:Value):(a.put (some d) v).tmps.size=a.tmps.size:=by simp [Act.put]
end Go.Proofs.YtfcplpeimcjhaaaGreatDoor
namespace Go.Proofs.YtfcplpeimcjhaaaGreatDoor
open Go.RowKit
section
variable {w w':World}{P Q:Nat→Prop}{A:Option Addr}{n c:Nat}
theorem Ints.get {l:List Int}(h:Ints w P (.slice A n c) l){i:Nat}(hi:i<l.length) :
    ∃ b off,A=some ⟨b,off,none⟩∧P b∧I64 (l.getD i 0)∧w.cell? ⟨b,off+i,none⟩=some (.int .i64 (l.getD i 0)):=by
  obtain ⟨b,off,c',e,hb,_,_,h1,h2⟩:=h.at_ hi
  injection e with e _ _
  exact ⟨b,off,e,hb,h1,h2⟩
theorem Vals.get {l:List GV}(h:Vals w P (.slice A n c) l){i:Nat}(hi:i<l.length) :
    ∃ b off A' d,A=some ⟨b,off,none⟩∧P b∧VAt w P (l.getD i default) A' d ∧
      w.cell? ⟨b,off+i*4,none⟩=some (.int .i64 (l.getD i default).kind)∧w.cell? ⟨b,off+i*4+1,none⟩=some (.int .i64 (l.getD i default).n) ∧
      w.cell? ⟨b,off+i*4+2,none⟩=some (.string (l.getD i default).s)∧w.cell? ⟨b,off+i*4+3,none⟩=some (.slice A' (l.getD i default).kids.length d):=by
  obtain ⟨b,off,c',A',d,e,hb,_,_,h1,h2⟩:=h.at_ hi
  injection e with e _ _
  exact ⟨b,off,A',d,e,hb,h1,h2⟩
end
theorem Sl.new (W:World)(cs:List Value)(t:TypeId)(n size:Nat)(h:cs.length=n*size):Sl (W.alloc (.cells cs.toArray t)) (fun _=>True) size (some ⟨W.heap.size,0,none⟩) n cs :=
  ⟨h,fun _=>⟨W.heap.size,0,rfl,trivial,fun j u hu=>by rw [cell_new];simpa using hu⟩⟩
theorem _root_.Go.World.ownsRow.ext_ {w w':World}{base:Nat}{e:TypeId}{size:Nat}{v:Value}{n:Nat}{xs:List Value}(h:w.ownsRow base e size v n xs)(hx:Ext w w'):w'.ownsRow base e size v n xs:=by
  refine ⟨h.1,?_⟩
  rcases h.2 with h | ⟨g,cap,cur,h1,h2,h3,h4⟩
  · exact .inl h
  · exact .inr ⟨g,cap,cur,h1,h2,(Blk.ext (t:=e) h3 hx),h4⟩
end Go.Proofs.YtfcplpeimcjhaaaGreatDoor
namespace Go.Proofs.YtfcplpeimcjhaaaGreatDoor
open Go.RowKit
def regIn (n:Nat):Code→Option Code
  | .region id ops d=>if id=n then some (.region id ops d) else none
  | .seq a b=>match regIn n a with
    | some c=>some c
    | none=>regIn n b
  | .block _ c=>regIn n c
  | .scope c=>regIn n c
  | .loop c=>regIn n c
  | .cond _ a b=>match regIn n a with
    | some c=>some c
    | none=>regIn n b
  | _=>none
noncomputable def RG (f:Func) (n:Nat):Code:=(f.body.bind (regIn n)).getD .skip
section
variable {P:Program}{ops:Array Oper}{Q:Exit→Act→World→Prop}{md:Region.Mode}{S:World→Prop}{bf:Nat→Bool}
theorem wp_region_L {id:Nat}{a:Act}{w:World}(S:World→Prop)(bf:Nat→Bool)(n:Nat)(l:Array Bool)(hm:P.follows .mixedOrders=true)(hn:ops.size=n)(hl:Array.replicate n false=l)
    (h:wpAnyD P .any ops Q S bf n l a w.drew):(Code.region id ops true).wp P Q a w:=by
  subst hn hl
  exact wp_region_D S bf hm h
end
end Go.Proofs.YtfcplpeimcjhaaaGreatDoor
namespace Go.Proofs.YtfcplpeimcjhaaaGreatDoor
open Go.RowKit
structure WL (ops:Array Oper)(Q:Exit→Act→World→Prop)(l:List Oper)(a:Act)(w:World):Prop where
  out:wpList Tryz.prog ops Q l a w
theorem wp_region_W {id:Nat}{l:List Oper}{Q:Exit→Act→World→Prop}{a:Act}{w:World}(h:WL l.toArray Q l a w):(Code.region id l.toArray false).wp Tryz.prog Q a w:=wp_region_lit h.out
theorem rW {id:Nat}{l:List Oper}{Q:Exit→Act→World→Prop}{a:Act}{w:World}{c:Code}(h:WL l.toArray Q l a w)(hc:c=.region id l.toArray false:=by exact rfl):Code.wp Tryz.prog c Q a w:=by
  subst hc
  exact wp_region_W h
theorem l_nil {ops:Array Oper}{Q:Exit→Act→World→Prop}{a:Act}{w:World}(h:Q .normal a w):WL ops Q [] a w:=⟨h⟩
section
variable {ops:Array Oper}{Q:Exit→Act→World→Prop}{a:Act}{w w1:World}{rest:List Oper}{o:Oper}
theorem l_value (d:Nat)(v:Value)(hg:o.guard=none)(hd:o.dst=some d)(hrun:(execOp a.eval o).run Tryz.prog w=.ok (.value v) w1)(h:WL ops Q rest (a.put (some d) v) w1):WL ops Q (o :: rest) a w:=by
  refine ⟨wpList_plain hg (fun K hK=>?_)⟩
  unfold Oper.wp
  rw [hrun]
  show K (a.put o.dst v) w1
  rw [hd]
  exact hK _ _ h.out
theorem l_on (d:Nat)(v:Value)(hw:Region.wanted o (yielded ops a.tmps)=true)(hd:o.dst=some d)(hrun:(execOp a.eval o).run Tryz.prog w=.ok (.value v) w1)(h:WL ops Q rest (a.put (some d) v) w1):WL ops Q (o :: rest) a w:=by
  refine ⟨wpList_step (fun K hK=>?_)⟩
  rw [if_pos hw]
  unfold Oper.wp
  rw [hrun]
  show K (a.put o.dst v) w1
  rw [hd]
  exact hK _ _ h.out
theorem l_skip (hg:o.guard=none)(hd:o.dst=none)(hrun:(execOp a.eval o).run Tryz.prog w=.ok .skip w1)(h:WL ops Q rest a w1):WL ops Q (o :: rest) a w:=by
  refine ⟨wpList_plain hg (fun K hK=>?_)⟩
  unfold Oper.wp
  rw [hrun]
  show K (a.put o.dst undef) w1
  rw [hd]
  exact hK _ _ h.out
theorem l_call (d:Nat)(hg:o.guard=none)(hd:o.dst=some d)(f:FuncId)(xs:Array Operand)(ats:Array TypeId)(hop:o.op=Op.call { callee:=Callee.value (Operand.func f),args:=xs,argTypes:=ats })(fn:Func)(hf:Tryz.prog.funcs[f]?=some fn)(hn:(fn.name == "runtime.NumGoroutine")=false) (hb:fn.body.isNone=false) (vs:Array Value) (hv:xs.map a.eval=vs)
    (h:Calls Tryz.prog f vs w fun e w'=>∃ v,e=.returned v∧WL ops Q rest (a.put (some d) v) w'):WL ops Q (o :: rest) a w:=by
  refine ⟨wpList_step (fun K hK=>?_)⟩
  refine step_call hg f xs ats hop fn hf hn hb vs hv (h.mono ?_)
  rintro e w' ⟨v,rfl,h2⟩
  exact ⟨v,rfl,by rw [hd];exact hK _ _ h2.out⟩
theorem wanted_of {j d:Nat}{want b:Bool}(hg:o.guard=some (j,want))(hj:(ops[j]?).bind (fun x=>x.dst)=some d)(hd:d<a.tmps.size)(he:a.eval (.tmp d)=.bool b):Region.wanted o (yielded ops a.tmps)=(b == want):=by
  have h1:a.tmps[d]?=some (.bool b):=by
    have h2:a.tmps.getD d undef=.bool b:=he
    simp only [Array.getD,hd,dite_true] at h2
    rw [Array.getElem?_eq_getElem hd]
    exact congrArg some h2
  have h3:yielded ops a.tmps j=some b:=by
    unfold yielded
    rw [show ((ops[j]?).bind (fun x=>x.dst)).bind (fun x=>a.tmps[x]?)=some (.bool b) by rw [hj];exact h1]
  simp only [Region.wanted,hg,h3]
  cases b <;> cases want <;> rfl
theorem l_off (d gd:Nat){j:Nat}{want b:Bool}(hg:o.guard=some (j,want))(hj:(ops[j]?).bind (fun x=>x.dst)=some gd)(hs:gd<a.tmps.size)(he:a.eval (.tmp gd)=.bool b)(hb:(b == want)=false)(hd:o.dst=some d)(h:WL ops Q rest (a.put (some d) undef) w):WL ops Q (o :: rest) a w:=by
  refine ⟨wpList_skip (by rw [wanted_of hg hj hs he,hb]) ?_⟩
  rw [hd]
  exact h.out
theorem l_onG (d:Nat)(v:Value)(gd:Nat){j:Nat}{want b:Bool}(hg:o.guard=some (j,want))(hj:(ops[j]?).bind (fun x=>x.dst)=some gd)(hs:gd<a.tmps.size)(he:a.eval (.tmp gd)=.bool b)(hb:(b == want)=true)(hd:o.dst=some d)(hrun:(execOp a.eval o).run Tryz.prog w=.ok (.value v) w1)(h:WL ops Q rest (a.put (some d) v) w1):WL ops Q (o :: rest) a w :=
  l_on d v (by rw [wanted_of hg hj hs he,hb]) hd hrun h
theorem l_append (s x:Operand)(t:TypeId)(d:Nat)(hgd:o.guard=none)(hd:o.dst=some d)
    (ho:o.op=.call { callee:=.builtin .append,args:=#[s,x],argTypes:=#[t,t] })
    (base:Nat)(e:TypeId)(i:TypeInfo)(z:Value)(size bytes:Nat)(ht:Tryz.prog.underlying t=some (.slice e))(hi:Tryz.prog.info? e=some i)(hz:i.zero=some z)
    (hsize:i.size=size)(hby:i.bytes=bytes)(hzs:z.cells.size=size)(hsz:0<size)
    (v:Value)(n:Nat)(xs:List Value)(hs:a.eval s=v)(hown:w.ownsRow base e size v n xs)
    (S:Nat→Prop)(A:Option Addr)(m c:Nat)(news:List Value)(hx:a.eval x=.slice A m c)(hr:Sl w S size A m news)(h1:∀ u ∈ news,u.oneCell'=true)
    (h63:n+m≤1000000000000)(hbytes:(n+m)*bytes≤140737488355328)(hbase:base≤w.heap.size)
    (h:∀ v' w',w'.ownsRow base e size v' (n+m) (xs ++ news)→Fr (fun k=>some k=v.ownBlock) w w'→(v'.ownBlock=v.ownBlock∨v'.ownBlock=some w.heap.size)→WL ops Q rest (a.put (some d) v') w'):WL ops Q (o :: rest) a w :=
  ⟨wpList_append_sl w hgd s x t ho base e i z size bytes ht hi hz hsize hby hzs hsz v n xs hs hown S A m c news hx hr h1 h63 hbytes hbase (fun v' w' q1 q2 q3=>by rw [hd];exact (h v' w' q1 q2 q3).out)⟩
end
theorem wp_goCall {P:Program}{o:Oper}{a:Act}{w:World}{K:Act→World→Prop}{Q:Exit→Act→World→Prop}(f:FuncId)(xs:Array Operand)(ats:Array TypeId)
    (hop:o.op=Op.call { callee:=Callee.value (Operand.func f),args:=xs,argTypes:=ats })(fn:Func)(hf:P.funcs[f]?=some fn)(hn:(fn.name == "runtime.NumGoroutine")=false) (hb:fn.body.isNone=false) (vs:Array Value) (hv:xs.map a.eval=vs) (h:Calls P f vs w fun e w'=>∃ v,e=.returned v∧K (a.put o.dst v) w') :
    Oper.wp P o a w K Q:=by
  unfold Oper.wp
  obtain ⟨dst,op,ty,pos,after,guard⟩:=o
  simp only at hop
  subst hop
  rw [execOp_call_go,hv]
  subst hv
  have hp:Sem.run P program w=.ok P w:=rfl
  simp only [callFunc,Array.append_empty,Array.empty_append,Sem.run_bind,hp,Result.andThen_ok,hf,hn,hb,Bool.false_eq_true,if_false,Sem.run_pure,Oper.upon]
  refine h.mono ?_
  rintro e w' ⟨v,rfl,hk⟩
  exact hk
section
variable {ops:Array Oper}{Q:Exit→Act→World→Prop}{a:Act}{w w1:World}{rest:List Oper}{o:Oper}
theorem l_callG (d gd:Nat){j:Nat}{want b:Bool}(hg:o.guard=some (j,want))(hj:(ops[j]?).bind (fun x=>x.dst)=some gd)(hs:gd<a.tmps.size)(he:a.eval (.tmp gd)=.bool b)(hbw:(b == want)=true)(hd:o.dst=some d)(f:FuncId)(xs:Array Operand)(ats:Array TypeId)(hop:o.op=Op.call { callee:=Callee.value (Operand.func f),args:=xs,argTypes:=ats })(fn:Func)(hf:Tryz.prog.funcs[f]?=some fn)(hn:(fn.name == "runtime.NumGoroutine")=false) (hb:fn.body.isNone=false) (vs:Array Value) (hv:xs.map a.eval=vs)
    (h:Calls Tryz.prog f vs w fun e w'=>∃ v,e=.returned v∧WL ops Q rest (a.put (some d) v) w'):WL ops Q (o :: rest) a w:=by
  have hw:Region.wanted o (yielded ops a.tmps)=true:=by rw [wanted_of hg hj hs he,hbw]
  refine ⟨wpList_step (fun K hK=>?_)⟩
  rw [if_pos hw]
  refine wp_goCall f xs ats hop fn hf hn hb vs hv (h.mono ?_)
  rintro e w' ⟨v,rfl,h2⟩
  exact ⟨v,rfl,by rw [hd];exact hK _ _ h2.out⟩
end
structure WQ (ops:Array Oper)(C:World→Prop)(K:Act→Prop)(l:List Oper)(a:Act):Prop where
  out:wpQuiet Tryz.prog ops C K l a
section
variable {ops:Array Oper}{C:World→Prop}{K:Act→Prop}{a:Act}{rest:List Oper}{o:Oper}
theorem q_at (d:Nat)(v:Value)(hw:Region.wanted o (yielded ops a.tmps)=true)(hd:o.dst=some d)(hrun:∀ w,C w→o.quietAt Tryz.prog a C w v)(h:WQ ops C K rest (a.put (some d) v)):WQ ops C K (o :: rest) a:=by
  refine ⟨Go.BigFrame.wpQuiet_want hw (fun K hK=>⟨v,hrun,?_⟩)⟩
  rw [hd]
  exact hK _ h.out
end
def mkL (n:Nat):List Nat→Array Bool
  | []=>Array.replicate n false
  | i :: is=>(mkL n is).setIfInBounds i true
def NQ (K:Act→World→Prop):Exit→Act→World→Prop:=fun e a w=>e=.normal∧K a w
def tkB (ops:Array Oper)(bf:Nat→Bool)(is:List Nat)(i:Nat):Bool:=Region.noSelect ops && (Region.free .any ops (mkL ops.size is) i && ((Region.ready .any ops (mkL ops.size is)).contains i && waitB .any ops bf i))
structure WD (ops:Array Oper)(K:Act→World→Prop)(S:World→Prop)(bf:Nat→Bool)(n:Nat)(is:List Nat)(a:Act)(w:World):Prop where
  out:wpAnyD Tryz.prog .any ops (NQ K) S bf n (mkL ops.size is) a w
section
variable {ops:Array Oper}{K:Act→World→Prop}{S:World→Prop}{bf:Nat→Bool}{n:Nat}{is:List Nat}{a:Act}{w w1:World}{o:Oper}
theorem wp_region_WD {id:Nat}{Q:Exit→Act→World→Prop}(S:World→Prop)(bf:Nat→Bool)(n:Nat)(hm:Tryz.prog.follows .mixedOrders=true)(hn:ops.size=n)(h:WD ops (fun a w=>Q .normal a w) S bf n [] a w.drew):(Code.region id ops true).wp Tryz.prog Q a w:=by
  subst hn
  refine wp_mono (wp_region_D S bf hm h.out) ?_
  rintro e a w ⟨rfl,h⟩
  exact h
theorem d_nil (hr:Region.ready .any ops (mkL ops.size is)=[])(h:K a w):WD ops K S bf n is a w:=⟨wpAnyD_done hr ⟨rfl,h⟩ n⟩
theorem d_yields (i d:Nat)(v:Value)(hi:ops[i]?=some o)(hd:o.dst=some d)(ht:tkB ops bf is i=true)(hy:YieldsIf Tryz.prog ops S o v a)(hS:S w)(h:WD ops K S bf n (i :: is) (a.put (some d) v) w):WD ops K S bf (n+1) is a w:=by
  simp only [tkB,Bool.and_eq_true] at ht
  refine ⟨wpAnyD_take hi ht.1 ht.2.1 ht.2.2.1 ht.2.2.2 (fun _ _ _ h=>absurd h.1 (by simp)) hy hS ?_⟩
  rw [hd]
  exact h.out
theorem d_one (i:Nat)(hr:Region.ready .any ops (mkL ops.size is)=[i])(hi:ops[i]?=some o)
    (h:∀ K':Act→World→Prop,(∀ a' w',(bf i=true→S w')→WD ops K S bf n (i :: is) a' w'→K' a' w')→if Region.wanted o (yielded ops a.tmps)=true then Oper.wp Tryz.prog o a w K' (NQ K) else K' (a.put o.dst undef) w):WD ops K S bf (n+1) is a w :=
  ⟨wpAnyD_one hr hi (fun K' hK=>h K' (fun a' w' h1 h2=>hK a' w' h1 h2.out))⟩
theorem d_skip (i:Nat)(hr:Region.ready .any ops (mkL ops.size is)=[i])(hi:ops[i]?=some o)(hg:o.guard=none)(hd:o.dst=none)
    (hrun:(execOp a.eval o).run Tryz.prog w=.ok .skip w1)(hS:bf i=true→S w1)(h:WD ops K S bf n (i :: is) a w1):WD ops K S bf (n+1) is a w:=by
  refine d_one i hr hi (fun K' hK=>?_)
  have hw:Region.wanted o (yielded ops a.tmps)=true:=by simp [Region.wanted,hg]
  rw [if_pos hw]
  unfold Oper.wp
  rw [hrun]
  show K' (a.put o.dst undef) w1
  rw [hd]
  exact hK _ _ hS h
theorem d_wcall (i d:Nat)(hr:Region.ready .any ops (mkL ops.size is)=[i])(hi:ops[i]?=some o)(hw:Region.wanted o (yielded ops a.tmps)=true)(hd:o.dst=some d)(f:FuncId)(xs:Array Operand)(ats:Array TypeId)(hop:o.op=Op.call { callee:=Callee.value (Operand.func f),args:=xs,argTypes:=ats })(fn:Func)(hf:Tryz.prog.funcs[f]?=some fn)(hn:(fn.name == "runtime.NumGoroutine")=false) (hb:fn.body.isNone=false) (vs:Array Value) (hv:xs.map a.eval=vs)
    (h:Calls Tryz.prog f vs w fun e w'=>∃ v,e=.returned v∧(bf i=true→S w')∧WD ops K S bf n (i :: is) (a.put (some d) v) w'):WD ops K S bf (n+1) is a w:=by
  refine d_one i hr hi (fun K' hK=>?_)
  rw [if_pos hw]
  refine wp_goCall f xs ats hop fn hf hn hb vs hv (h.mono ?_)
  rintro e w' ⟨v,rfl,h1,h2⟩
  exact ⟨v,rfl,by rw [hd];exact hK _ _ h1 h2⟩
theorem d_call (i d:Nat)(hr:Region.ready .any ops (mkL ops.size is)=[i])(hi:ops[i]?=some o)(hg:o.guard=none)(hd:o.dst=some d)(f:FuncId)(xs:Array Operand)(ats:Array TypeId)(hop:o.op=Op.call { callee:=Callee.value (Operand.func f),args:=xs,argTypes:=ats })(fn:Func)(hf:Tryz.prog.funcs[f]?=some fn)(hn:(fn.name == "runtime.NumGoroutine")=false) (hb:fn.body.isNone=false) (vs:Array Value) (hv:xs.map a.eval=vs)
    (h:Calls Tryz.prog f vs w fun e w'=>∃ v,e=.returned v∧(bf i=true→S w')∧WD ops K S bf n (i :: is) (a.put (some d) v) w'):WD ops K S bf (n+1) is a w :=
  d_wcall i d hr hi (by simp [Region.wanted,hg]) hd f xs ats hop fn hf hn hb vs hv h
end
end Go.Proofs.YtfcplpeimcjhaaaGreatDoor
namespace Go.Proofs.YtfcplpeimcjhaaaGreatDoor
open Go.RowKit
def Ev (a:Act):Operand→Value:=a.eval
def Pt (a:Act)(d:Nat)(v:Value):Act:=a.put (some d) v
@[simp] theorem Ev_const (a:Act) (v:Value):Ev a (.const v)=v:=rfl
@[simp] theorem Ev_put (a:Act) (d e:Nat) (v:Value):Ev (Pt a d v) (.tmp e)=if d=e then (if d<a.tmps.size then v else undef) else Ev a (.tmp e):=vp a d e v
@[simp] theorem Sz_put (a:Act) (d:Nat) (v:Value):(Pt a d v).tmps.size=a.tmps.size:=zp a d v
structure Ag (l:List Nat)(a a':Act):Prop where
  sz:a'.tmps.size=a.tmps.size
  df:a'.defers=a.defers
  ev:∀ t ∈ l,Ev a' (.tmp t)=Ev a (.tmp t)
section
variable {l:List Nat}{a a' a'':Act}{d:Nat}{v:Value}
theorem Ag.rf:Ag l a a:=⟨rfl,rfl,fun _ _=>rfl⟩
theorem Ag.put (h:Ag l a a')(hd:l.contains d=false):Ag l a (Pt a' d v) :=
  ⟨by rw [Sz_put];exact h.sz,h.df,fun t ht=>by
    rw [Ev_put,if_neg (fun e=>by subst e;simp [ht] at hd)]
    exact h.ev t ht⟩
theorem Ag.get (h:Ag l a a')(t:Nat)(e:Ev a (.tmp t)=v)(ht:l.contains t=true:=by rfl):Ev a' (.tmp t)=v:=by
  rw [h.ev t (by simpa using ht)]
  exact e
theorem Ag.trans (h:Ag l a a')(h':Ag l a' a''):Ag l a a'':=⟨h'.sz.trans h.sz,h'.df.trans h.df,fun t ht=>(h'.ev t ht).trans (h.ev t ht)⟩
theorem Ag.mono {l l':List Nat}{a a':Act}(h:Ag l a a')(hl:l'.all l.contains=true):Ag l' a a':=⟨h.sz,h.df,fun t ht=>h.ev t (by simpa using List.all_eq_true.1 hl t ht)⟩
end
section
variable {ops:Array Oper}{Q:Exit→Act→World→Prop}{a:Act}{w w1:World}{rest:List Oper}{o:Oper}{d:Nat}{v:Value}
theorem l_v (hg:o.guard=none)(hd:o.dst=some d)(hrun:(execOp (Ev a) o).run Tryz.prog w=.ok (.value v) w1)(h:WL ops Q rest (Pt a d v) w1):WL ops Q (o :: rest) a w:=l_value d v hg hd hrun h
theorem l_s (hg:o.guard=none)(hd:o.dst=none)(hrun:(execOp (Ev a) o).run Tryz.prog w=.ok .skip w1)(h:WL ops Q rest a w1):WL ops Q (o :: rest) a w:=l_skip hg hd hrun h
theorem l_a {s x:Operand}{t e:TypeId}{z:Value}{size bytes:Nat}(hg:o.guard=none)(hd:o.dst=some d)(ho:o.op=.call { callee:=.builtin .append,args:=#[s,x],argTypes:=#[t,t] })(ht:Tryz.prog.underlying t=some (.slice e))(hI:(Tryz.prog.info? e).map (fun i=>(i.zero,i.size,i.bytes))=some (some z,size,bytes))(hzs:z.cells.size=size)(hsz:0<size)
    {base n:Nat}{v:Value}{xs:List Value} (hown:w.ownsRow base e size v n xs) {S:Nat→Prop}{A:Option Addr}{m c:Nat}{news:List Value} (hsl:Sl w S size A m news) (hs:Ev a s=v) (hx:Ev a x=.slice A m c) (h1:∀ u ∈ news,u.oneCell'=true) (h63:n+m≤1000000000000) (hbytes:(n+m)*bytes≤140737488355328) (hbase:base≤w.heap.size)
    (h:∀ v' w',w'.ownsRow base e size v' (n+m) (xs ++ news)→Fr (fun k=>some k=v.ownBlock) w w'→(v'.ownBlock=v.ownBlock∨v'.ownBlock=some w.heap.size)→WL ops Q rest (Pt a d v') w'):WL ops Q (o :: rest) a w:=by
  obtain ⟨i0,hi,hz0,hz1,hz2⟩:=info_parts hI
  exact l_append s x t d hg hd ho base e i0 z size bytes ht hi hz0 hz1 hz2 hzs hsz v n xs hs hown S A m c news hx hsl h1 h63 hbytes hbase h
theorem l_c {f:FuncId}{xs:Array Operand}{ats:Array TypeId}{fn:Func}{vs:Array Value}{R:Ending→World→Prop}(hg:o.guard=none)(hd:o.dst=some d)(hop:o.op=Op.call { callee:=Callee.value (Operand.func f),args:=xs,argTypes:=ats })(hf:Tryz.prog.funcs[f]?=some fn)(hn:(fn.name == "runtime.NumGoroutine")=false) (hb:fn.body.isNone=false)
    (hc:Calls Tryz.prog f vs w R)(hv:xs.map (Ev a)=vs)(h:∀ e w',R e w'→∃ v,e=.returned v∧WL ops Q rest (Pt a d v) w'):WL ops Q (o :: rest) a w :=
  l_call d hg hd f xs ats hop fn hf hn hb vs hv (hc.mono h)
end
section
variable {ops:Array Oper}{K:Act→World→Prop}{S:World→Prop}{bf:Nat→Bool}{n:Nat}{is:List Nat}{a:Act}{w w1:World}{o:Oper}{d gd:Nat}{v:Value}{j:Nat}{want b:Bool}
def WTd (ops:Array Oper)(S:World→Prop)(K':Act→Prop):List Nat→Act→Prop
  | [],a=>K' a
  | i :: J,a=>∃ o d v,ops[i]?=some o∧o.dst=some d∧YieldsIf Tryz.prog ops S o v a∧WTd ops S K' J (a.put (some d) v)
structure WT (ops:Array Oper)(S:World→Prop)(K':Act→Prop)(J:List Nat)(a:Act):Prop where
  out:WTd ops S K' J a
def tkAll (ops:Array Oper)(bf:Nat→Bool):List Nat→List Nat→Bool
  | _,[]=>true
  | is,i :: J=>tkB ops bf is i && tkAll ops bf (i :: is) J
def revOn:List Nat→List Nat→List Nat
  | is,[]=>is
  | is,i :: J=>revOn (i :: is) J
theorem d_tt {n:Nat}{K':Act→Prop}(hS:S w):∀ (J is:List Nat)(a:Act),tkAll ops bf is J=true→WTd ops S K' J a→(∀ a',K' a'→WD ops K S bf n (revOn is J) a' w)→WD ops K S bf (n+J.length) is a w
  | [],is,a,_,h,hK=>hK a h
  | i :: J,is,a,ht,h,hK=>by
    obtain ⟨o,d,v,hi,hd,hy,h'⟩:=h
    simp only [tkAll,Bool.and_eq_true] at ht
    have h2:=d_tt (n:=n) hS J (i :: is) (a.put (some d) v) ht.2 h' hK
    exact d_yields i d v hi hd ht.1 hy hS h2
theorem d_t {N:Nat}(n:Nat)(J:List Nat)(hN:N=n+J.length)(ht:tkAll ops bf is J=true)(hS:S w)(h:WT ops S (fun a'=>WD ops K S bf n (revOn is J) a' w) J a):WD ops K S bf N is a w:=by
  subst hN
  exact d_tt hS J is a ht h.out (fun _ h=>h)
section
variable {K':Act→Prop}{J:List Nat}{i:Nat}
theorem t_e (h:K' a):WT ops S K' [] a:=⟨h⟩
theorem t_v (hi:ops[i]?=some o)(hg:o.guard=none)(hd:o.dst=some d)(hy:∀ w,S w→(execOp (Ev a) o).run Tryz.prog w=.ok (.value v) w)(h:WT ops S K' J (Pt a d v)):WT ops S K' (i :: J) a :=
  ⟨⟨o,d,v,hi,hd,.inl ⟨by simp [Region.wanted,hg],hy⟩,h.out⟩⟩
end
theorem d_1 (i:Nat)(hr:Region.ready .any ops (mkL ops.size is)=[i])(hi:ops[i]?=some o)(hg:o.guard=none)(hd:o.dst=some d)
    (hrun:(execOp (Ev a) o).run Tryz.prog w=.ok (.value v) w1)(hS:bf i=true→S w1)(h:WD ops K S bf n (i :: is) (Pt a d v) w1):WD ops K S bf (n+1) is a w:=by
  refine d_one i hr hi (fun K' hK=>?_)
  have hw:Region.wanted o (yielded ops a.tmps)=true:=by simp [Region.wanted,hg]
  rw [if_pos hw]
  unfold Oper.wp
  rw [show (execOp a.eval o).run Tryz.prog w=.ok (.value v) w1 from hrun]
  show K' (a.put o.dst v) w1
  rw [hd]
  exact hK _ _ hS h
theorem d_s (i:Nat)(hr:Region.ready .any ops (mkL ops.size is)=[i])(hi:ops[i]?=some o)(hg:o.guard=none)(hd:o.dst=none)
    (hrun:(execOp (Ev a) o).run Tryz.prog w=.ok .skip w1)(hS:bf i=true→S w1)(h:WD ops K S bf n (i :: is) a w1):WD ops K S bf (n+1) is a w:=d_skip i hr hi hg hd hrun hS h
end
def Iv (b:Bool)(v:Value):Value:=cond b v undef
@[simp] theorem Iv_t (v:Value):Iv true v=v:=rfl
@[simp] theorem Ev_func (a:Act) (f:FuncId):Ev a (.func f)=.func (.func f) #[] #[]:=rfl
theorem exec_fv {a:Act}{dst:Option Tmp}{y:Operand}{xs:Array Operand}{ats:Array TypeId}{ty:TypeId}{pos:String}{after:Array Edge}{guard:Option (Nat × Bool)}{f:FuncId}(hy:a.eval y=.func (.func f) #[] #[]) :
    execOp a.eval { dst,op:=.call { callee:=.value y,args:=xs,argTypes:=ats },type:=ty,pos,after,guard }=callFunc f (#[] ++ xs.map a.eval ++ #[]):=by
  rw [show execOp a.eval { dst,op:=.call { callee:=.value y,args:=xs,argTypes:=ats },type:=ty,pos,after,guard }=(do let d ← Deferred.ofValue (a.eval y) (xs.map a.eval);invoke d.target d.args) from rfl,hy]
  rfl
section
variable {ops:Array Oper}{C:World→Prop}{a:Act}{rest:List Oper}{o:Oper}{d gd j:Nat}{v:Value}{b:Bool}{w:World}{y:Operand}{f:FuncId}{xs:Array Operand}{ats:Array TypeId}{fn:Func}{vs:Array Value}
theorem quiet_fv (hop:o.op=Op.call { callee:=Callee.value y,args:=xs,argTypes:=ats })(hy:Ev a y=.func (.func f) #[] #[])(hf:Tryz.prog.funcs[f]?=some fn)(hn:(fn.name == "runtime.NumGoroutine")=false) (hb:fn.body.isNone=false) (hv:xs.map (Ev a)=vs)
    (h:Calls Tryz.prog f vs w fun e w'=>e=.returned v∧C w'):o.quietAt Tryz.prog a C w v:=by
  unfold Oper.quietAt
  obtain ⟨dst,op,ty,pos,after,guard⟩:=o
  simp only at hop
  subst hop
  subst hv
  rw [exec_fv hy]
  have hp:Sem.run Tryz.prog program w=.ok Tryz.prog w:=rfl
  simp only [callFunc,Array.append_empty,Array.empty_append,Sem.run_bind,hp,Result.andThen_ok,hf,hn,hb,Bool.false_eq_true,if_false,Sem.run_pure,Oper.quietUpon]
  exact ⟨trivial,h⟩
theorem q_f {K:Act→Prop}(hg:o.guard=none)(hd:o.dst=some d)(hop:o.op=Op.call { callee:=Callee.value y,args:=xs,argTypes:=ats })(hy:Ev a y=.func (.func f) #[] #[])(hf:Tryz.prog.funcs[f]?=some fn)(hn:(fn.name == "runtime.NumGoroutine")=false) (hb:fn.body.isNone=false)
    (hc:∀ w,C w→Calls Tryz.prog f vs w fun e w'=>e=.returned v∧C w')(hv:xs.map (Ev a)=vs)(h:WQ ops C K rest (Pt a d v)):WQ ops C K (o :: rest) a :=
  q_at d v (by simp [Region.wanted,hg]) hd (fun w hw=>quiet_fv hop hy hf hn hb hv (hc w hw)) h
theorem wp_fv {K:Act→World→Prop}{Q:Exit→Act→World→Prop}(hop:o.op=Op.call { callee:=Callee.value y,args:=xs,argTypes:=ats })(hy:Ev a y=.func (.func f) #[] #[])(hf:Tryz.prog.funcs[f]?=some fn)(hn:(fn.name == "runtime.NumGoroutine")=false) (hb:fn.body.isNone=false) (hv:xs.map (Ev a)=vs)
    (h:Calls Tryz.prog f vs w fun e w'=>∃ v,e=.returned v∧K (a.put o.dst v) w'):Oper.wp Tryz.prog o a w K Q:=by
  unfold Oper.wp
  obtain ⟨dst,op,ty,pos,after,guard⟩:=o
  simp only at hop
  subst hop
  subst hv
  rw [exec_fv hy]
  have hp:Sem.run Tryz.prog program w=.ok Tryz.prog w:=rfl
  simp only [callFunc,Array.append_empty,Array.empty_append,Sem.run_bind,hp,Result.andThen_ok,hf,hn,hb,Bool.false_eq_true,if_false,Sem.run_pure,Oper.upon]
  refine h.mono ?_
  rintro e w' ⟨v,rfl,hk⟩
  exact hk
structure WX (ops:Array Oper)(w:World)(Q:Exit→Act→World→Prop)(l:List Oper)(a:Act):Prop where
  out:∀ w',Ext w w'→WL ops Q l a w'
variable {Q:Exit→Act→World→Prop}
theorem wp_region_X {id:Nat}{l:List Oper}(h:WX l.toArray w Q l a):(Code.region id l.toArray false).wp Tryz.prog Q a w:=wp_region_W (h.out w (Ext.refl w))
theorem rX {id:Nat}{l:List Oper}{c:Code}(h:WX l.toArray w Q l a)(hc:c=.region id l.toArray false:=by exact rfl):Code.wp Tryz.prog c Q a w:=by
  subst hc
  exact wp_region_X h
theorem x_nil (h:∀ w',Ext w w'→Q .normal a w'):WX ops w Q [] a:=⟨fun w' hw=>l_nil (h w' hw)⟩
theorem x_v (hg:o.guard=none)(hd:o.dst=some d)(hrun:∀ w',Ext w w'→(execOp (Ev a) o).run Tryz.prog w'=.ok (.value v) w')(h:WX ops w Q rest (Pt a d v)):WX ops w Q (o :: rest) a:=⟨fun w' hw=>l_v hg hd (hrun w' hw) (h.out w' hw)⟩
theorem x_on (hg:o.guard=some (j,true))(hj:(ops[j]?).bind (fun x=>x.dst)=some gd)(hd:o.dst=some d)(hs:gd<a.tmps.size)(he:Ev a (.tmp gd)=.bool b)(hrun:b=true→∀ w',Ext w w'→(execOp (Ev a) o).run Tryz.prog w'=.ok (.value v) w')(h:WX ops w Q rest (Pt a d (Iv b v))):WX ops w Q (o :: rest) a:=by
  refine ⟨fun w' hw=>?_⟩
  cases b
  · exact ⟨wpList_skip (by rw [wanted_of hg hj hs he];rfl) (by rw [hd];exact (h.out w' hw).out)⟩
  · exact ⟨(l_onG d v gd hg hj hs he rfl hd (hrun rfl w' hw) (h.out w' hw)).out⟩
theorem x_p {x z:Operand}{c:Bool}(hg:o.guard=none)(hd:o.dst=some d)(hop:o.op=.pick x z (.const (.bool false)))(hx:Ev a x=.bool b)(hz:Ev a z=Iv b (.bool c))(h:WX ops w Q rest (Pt a d (.bool (b && c)))):WX ops w Q (o :: rest) a :=
  x_v hg hd (fun w' _=>by cases b <;> simp [execOp,hop,hx,hz,go_sem,Iv]) h
theorem x_c (hg:o.guard=none)(hd:o.dst=some d)(hop:o.op=Op.call { callee:=Callee.value y,args:=xs,argTypes:=ats })(hy:Ev a y=.func (.func f) #[] #[])(hf:Tryz.prog.funcs[f]?=some fn)(hn:(fn.name == "runtime.NumGoroutine")=false) (hb:fn.body.isNone=false)
    (hc:∀ w',Ext w w'→Calls Tryz.prog f vs w' fun e w2=>e=.returned v∧Ext w w2)(hv:xs.map (Ev a)=vs)(h:WX ops w Q rest (Pt a d v)):WX ops w Q (o :: rest) a:=by
  refine ⟨fun w' hw=>⟨wpList_plain hg (fun K hK=>wp_fv hop hy hf hn hb hv ((hc w' hw).mono ?_))⟩⟩
  rintro e w2 ⟨rfl,h2⟩
  refine ⟨v,rfl,?_⟩
  rw [hd]
  exact hK _ _ (h.out w2 h2).out
theorem x_cn (hg:o.guard=some (j,true))(hj:(ops[j]?).bind (fun x=>x.dst)=some gd)(hd:o.dst=some d)(hs:gd<a.tmps.size)(he:Ev a (.tmp gd)=.bool b)(hop:o.op=Op.call { callee:=Callee.value y,args:=xs,argTypes:=ats })(hf:Tryz.prog.funcs[f]?=some fn)(hn:(fn.name == "runtime.NumGoroutine")=false) (hb:fn.body.isNone=false)
    (hc:∀ w',Ext w w'→Calls Tryz.prog f vs w' fun e w2=>e=.returned v∧Ext w w2)(hy:b=true→Ev a y=.func (.func f) #[] #[])(hv:b=true→xs.map (Ev a)=vs)(h:WX ops w Q rest (Pt a d (Iv b v))):WX ops w Q (o :: rest) a:=by
  refine ⟨fun w' hw=>?_⟩
  cases b
  · exact ⟨wpList_skip (by rw [wanted_of hg hj hs he];rfl) (by rw [hd];exact (h.out w' hw).out)⟩
  · have hw1:Region.wanted o (yielded ops a.tmps)=true:=by rw [wanted_of hg hj hs he];rfl
    refine ⟨wpList_step (fun K hK=>?_)⟩
    rw [if_pos hw1]
    refine wp_fv hop (hy rfl) hf hn hb (hv rfl) ((hc w' hw).mono ?_)
    rintro e w2 ⟨rfl,h2⟩
    refine ⟨v,rfl,?_⟩
    rw [hd]
    exact hK _ _ (h.out w2 h2).out
end
end Go.Proofs.YtfcplpeimcjhaaaGreatDoor
namespace Go.Proofs.YtfcplpeimcjhaaaGreatDoor
open Go.RowKit
theorem own_none (w:World)(base:Nat)(e:TypeId)(size:Nat):w.ownsRow base e size (.slice none 0 0) 0 []:=⟨by simp,.inl ⟨rfl,rfl⟩⟩
theorem Sl.take {w:World}{P:Nat→Prop}{size:Nat}{A:Option Addr}{n:Nat}{cs:List Value}(h:Sl w P size A n cs){k:Nat}(hk:k≤n):Sl w P size A k (cs.take (k*size)):=by
  refine ⟨by rw [List.length_take,h.1];exact Nat.min_eq_left (Nat.mul_le_mul_right _ hk),fun hk0=>?_⟩
  obtain ⟨b,off,e,hb,hc⟩:=h.2 (by omega)
  refine ⟨b,off,e,hb,fun j u hu=>hc j u ?_⟩
  rw [List.getElem?_take] at hu
  split at hu
  · exact hu
  · cases hu
theorem Sl.ext {w w':World}{P:Nat→Prop}{size:Nat}{A:Option Addr}{n:Nat}{cs:List Value}(h:Sl w P size A n cs)(hx:Ext w w'):Sl w' P size A n cs:=h.keep (Keeps.of_ext hx) (fun _ h=>h)
theorem Sl.drop {w:World}{P:Nat→Prop}{size:Nat}{b off:Nat}{n:Nat}{cs:List Value}(h:Sl w P size (some ⟨b,off,none⟩) n cs){k:Nat}(hk:k≤n) :
    Sl w P size (some ⟨b,off+k*size,none⟩) (n - k) (cs.drop (k*size)):=by
  refine ⟨by rw [List.length_drop,h.1,Nat.sub_mul],fun hk0=>?_⟩
  obtain ⟨b',off',e,hb,hc⟩:=h.2 (by omega)
  injection e with e
  injection e with e1 e2
  subst e1 e2
  refine ⟨b,off+k*size,rfl,hb,fun j u hu=>?_⟩
  rw [Nat.add_assoc]
  exact hc _ u (by rw [List.getElem?_drop] at hu;exact hu)
end Go.Proofs.YtfcplpeimcjhaaaGreatDoor
namespace Go.Proofs.YtfcplpeimcjhaaaGreatDoor
open Go.RowKit
def zeroGV:GV:=.mk 0 0 ByteArray.empty []
end Go.Proofs.YtfcplpeimcjhaaaGreatDoor
namespace Go.Proofs.YtfcplpeimcjhaaaGreatDoor
open Go.RowKit
section
variable {w w':World}{P Q:Nat→Prop}
theorem Sl.carry {size:Nat}{A:Option Addr}{n:Nat}{cs:List Value}(h:Sl w P size A n cs)(hs:0<size)(hk:Keeps P w w')(hPQ:∀ b,b<w.heap.size→P b→Q b):Sl w' Q size A n cs :=
  ⟨h.1,fun hn=>by
    obtain ⟨b,off,e,hb,hc⟩:=h.2 hn
    have hl:0<cs.length:=by rw [h.1];exact Nat.mul_pos hn hs
    have hlt:b<w.heap.size:=lt_of_cell (hc 0 cs[0] (by simp [hl]))
    exact ⟨b,off,e,hPQ b hlt hb,fun j u hu=>(World.cell?_of_block (w:=w) (w':=w') (hk b hlt hb)).trans (hc j u hu)⟩⟩
mutual
theorem RV.carry (hk:Keeps P w w')(hPQ:∀ b,b<w.heap.size→P b→Q b):∀ {x:GV}{cs:List Value},RV w P x cs→RV w' Q x cs
  | .mk k n s kids,cs,h=>by
    simp only [RV] at h ⊢
    obtain ⟨h1,h2,h3,A,c,css,h4,h5,h6,h7,h8⟩:=h
    exact ⟨h1,h2,h3,A,c,css,h4,h5,h6,h7.carry (by omega) hk hPQ,RVs.carry hk hPQ h8⟩
theorem RVs.carry (hk:Keeps P w w')(hPQ:∀ b,b<w.heap.size→P b→Q b):∀ {l:List GV}{cs:List Value},RVs w P l cs→RVs w' Q l cs
  | [],cs,h=>by simp only [RVs] at h ⊢;exact h
  | x :: xs,cs,h=>by
    simp only [RVs] at h ⊢
    obtain ⟨c1,c2,h1,h2,h3⟩:=h
    exact ⟨c1,c2,h1,RV.carry hk hPQ h2,RVs.carry hk hPQ h3⟩
end
theorem Vals.carry {v:Value}{l:List GV}(h:Vals w P v l)(hk:Keeps P w w')(hPQ:∀ b,b<w.heap.size→P b→Q b):Vals w' Q v l:=by
  obtain ⟨A,c,css,h1,h2,h3,h4,h5⟩:=h
  exact ⟨A,c,css,h1,h2,h3,h4.carry (by omega) hk hPQ,RVs.carry hk hPQ h5⟩
theorem VAt.carry {x:GV}{A:Option Addr}{c:Nat}(h:VAt w P x A c)(hk:Keeps P w w')(hPQ:∀ b,b<w.heap.size→P b→Q b):VAt w' Q x A c :=
  ⟨h.kind,h.n,h.s,h.len,h.cap,h.kids.carry hk hPQ⟩
theorem Ints.carry {v:Value}{l:List Int}(h:Ints w P v l)(hk:Keeps P w w')(hPQ:∀ b,b<w.heap.size→P b→Q b):Ints w' Q v l:=by
  obtain ⟨A,c,hv,h1,h2,h3,h4⟩:=h
  exact ⟨A,c,hv,h1,h2,h3,h4.carry (by omega) hk hPQ⟩
theorem Lst.carry {α:Type}{size:Nat}{R R':α→List Value→Prop}{v:Value}{l:List α}(h:Lst w P size R v l)(hs:0<size)(hk:Keeps P w w')(hPQ:∀ b,b<w.heap.size→P b→Q b)(hR:∀ x ∈ l,∀ cs,R x cs→R' x cs):Lst w' Q size R' v l:=by
  obtain ⟨A,c,css,h1,h2,h3,h4,h5⟩:=h
  exact ⟨A,c,css,h1,h2,h3,h4.carry hs hk hPQ,h5.mono hR⟩
end
section
variable {w w':World}{P Q:Nat→Prop}
theorem Lst.of_own {α:Type}{size base:Nat}{e:TypeId}{R:α→List Value→Prop}{v:Value}{l:List α}{xs:List Value}(ho:w.ownsRow base e size v l.length xs)(hR:RL R l xs)(hl:l.length≤17592186044416)
    (hQ:∀ b,v.ownBlock=some b→Q b):Lst w Q size R v l:=by
  obtain ⟨A,c,e,h1,h2,h3⟩:=Sl.of_own ho
  unfold maxLen at h2
  exact ⟨A,c,xs,e,h1,⟨hl,h2⟩,h3 Q hQ,hR⟩
theorem Vals.of_own {base:Nat}{e:TypeId}{v:Value}{l:List GV}{xs:List Value}(ho:w.ownsRow base e 4 v l.length xs)(hR:RVs w Q l xs)(hl:l.length≤17592186044416)
    (hQ:∀ b,v.ownBlock=some b→Q b):Vals w Q v l:=Vals_Lst.2 (Lst.of_own ho (RVs_RL.1 hR) hl hQ)
theorem _root_.Go.World.ownsRow.block_lt {base:Nat}{e:TypeId}{size:Nat}{v:Value}{n:Nat}{xs:List Value}(h:w.ownsRow base e size v n xs){b:Nat}(hb:v.ownBlock=some b):b<w.heap.size:=by
  rcases h.2 with ⟨rfl,_⟩ | ⟨g,cap,cur,rfl,h1,h2,_⟩
  · simp [Value.ownBlock] at hb
  · simp [Value.ownBlock] at hb;subst hb;exact Blk.lt (t:=e) h2
end
end Go.Proofs.YtfcplpeimcjhaaaGreatDoor
namespace Go.Proofs.YtfcplpeimcjhaaaGreatDoor
open Go.RowKit
theorem Keeps.set {w w':World}{Q:Nat→Prop}(h:Keeps Q w w'){p:Addr}(u:Value)(hp:¬ Q p.block):Keeps Q w (w'.setCell p u) :=
  fun b hb hq=>(Below.heap_setCell _ _ _ _ (fun e=>hp (e ▸ hq))).trans (h b hb hq)
theorem Vals.set {w:World}{Q:Nat→Prop}{v:Value}{l:List GV}(h:Vals w Q v l){p:Addr}(u:Value)(hp:¬ Q p.block):Vals (w.setCell p u) Q v l :=
  h.carry (fun _ _ hq=>Below.heap_setCell _ _ _ _ (fun e=>hp (e ▸ hq))) (fun _ _ h=>h)
end Go.Proofs.YtfcplpeimcjhaaaGreatDoor
namespace Go.Proofs.YtfcplpeimcjhaaaGreatDoor
open Go.RowKit
section
variable {a b:Int}
theorem wrI (h:-9223372036854775808≤a)(h':a≤9223372036854775807):IntKind.i64.wrap a=a:=IntWalk.i64_in _ ⟨h,h'⟩
theorem tqI (h0:0≤a)(h1:a≤9223372036854775807)(h2:0<b):IntKind.i64.wrap (a.tdiv b)=a / b:=by
  rw [Int.tdiv_eq_ediv_of_nonneg h0]
  have h3:=Int.ediv_nonneg h0 (Int.le_of_lt h2)
  have h4:=Int.ediv_le_self b h0
  exact wrI (by omega) (by omega)
theorem tmI (h0:0≤a):a.tmod b=a % b:=Int.tmod_eq_emod_of_nonneg h0
end
section
variable {ops:Array Oper}{Q:Exit→Act→World→Prop}{K:Act→World→Prop}{a:Act}{w w1:World}{rest l:List Oper}{o:Oper}{d id n i:Nat}{v:Value}{c:Code}{S:World→Prop}{bf:Nat→Bool}{is:List Nat}{R:World→Prop}
theorem rD {ops:Array Oper}{c:Code}(S:World→Prop)(bf:Nat→Bool)(n:Nat)(h:WD ops (fun a w=>Q .normal a w) S bf n [] a w.drew)(hc:c=.region id ops true:=by exact rfl)(hm:Tryz.prog.follows .mixedOrders=true:=by kernel_rfl)(hn:ops.size=n:=by kernel_rfl):Code.wp Tryz.prog c Q a w:=by
  subst hc
  exact wp_region_WD S bf n hm hn h
theorem lv (h:WL ops Q rest (Pt a d v) w1)(hg:o.guard=none:=by exact rfl)(hd:o.dst=some d:=by exact rfl)(hrun:(execOp (Ev a) o).run Tryz.prog w=.ok (.value v) w1:=by (simp [execOp,go_sem, *];try simp (disch:=omega) only [tqI,tmI,wrI]);first | exact ⟨rfl,rfl⟩ | rfl):WL ops Q (o :: rest) a w:=l_v hg hd hrun h
theorem ls (h:WL ops Q rest a w1)(hg:o.guard=none:=by exact rfl)(hd:o.dst=none:=by exact rfl)(hrun:(execOp (Ev a) o).run Tryz.prog w=.ok .skip w1:=by simp [execOp,go_sem, *];rfl):WL ops Q (o :: rest) a w:=l_s hg hd hrun h
theorem ly {gd j:Nat}{want b:Bool}(h:WL ops Q rest (Pt a d v) w1)(hg:o.guard=some (j,want):=by exact rfl)(hj:(ops[j]?).bind (fun x=>x.dst)=some gd:=by exact rfl)(hd:o.dst=some d:=by exact rfl)(hs:gd<a.tmps.size:=by simp [*])(he:Ev a (.tmp gd)=.bool b:=by simp [*];rfl)(hb:(b == want)=true:=by exact rfl)(hrun:(execOp (Ev a) o).run Tryz.prog w=.ok (.value v) w1:=by (simp [execOp,go_sem, *];try simp (disch:=omega) only [tqI,tmI,wrI]);first | exact ⟨rfl,rfl⟩ | rfl):WL ops Q (o :: rest) a w:=l_onG d v gd hg hj hs he hb hd hrun h
theorem ln {gd j:Nat}{want b:Bool}(h:WL ops Q rest (Pt a d undef) w)(hg:o.guard=some (j,want):=by exact rfl)(hj:(ops[j]?).bind (fun x=>x.dst)=some gd:=by exact rfl)(hd:o.dst=some d:=by exact rfl)(hs:gd<a.tmps.size:=by simp [*])(he:Ev a (.tmp gd)=.bool b:=by simp [*];rfl)(hb:(b == want)=false:=by exact rfl):WL ops Q (o :: rest) a w:=l_off d gd hg hj hs he hb hd h
theorem lE (a0:Act)(L:List Nat)(d:Nat)(h:∀ a',Ag L a0 a'→Ev a' (.tmp d)=v→Q .normal a' w)(hA:Ag L a0 a:=by (repeat refine .put ?_ rfl);exact .rf)(he:Ev a (.tmp d)=v:=by simp [*];rfl):WL ops Q [] a w:=l_nil (h a hA he)
theorem lE2 {v':Value}(a0:Act)(L:List Nat)(d d':Nat)(h:∀ a',Ag L a0 a'→Ev a' (.tmp d)=v→Ev a' (.tmp d')=v'→Q .normal a' w)(hA:Ag L a0 a:=by (repeat refine .put ?_ rfl);exact .rf)(he:Ev a (.tmp d)=v:=by simp [*];rfl)(he':Ev a (.tmp d')=v':=by simp [*];rfl):WL ops Q [] a w:=l_nil (h a hA he he')
theorem lN (a0:Act)(L:List Nat)(h:∀ a',Ag L a0 a'→Q .normal a' w)(hA:Ag L a0 a:=by (repeat refine .put ?_ rfl);exact .rf):WL ops Q [] a w:=l_nil (h a hA)
theorem lc {f:FuncId}{xs:Array Operand}{ats:Array TypeId}{fn:Func}{vs:Array Value}{R:Ending→World→Prop}(hf:Tryz.prog.funcs[f]?=some fn)(hc:Calls Tryz.prog f vs w R)(h:∀ e w',R e w'→∃ v,e=.returned v∧WL ops Q rest (Pt a d v) w')
    (hg:o.guard=none:=by exact rfl)(hd:o.dst=some d:=by exact rfl)(hop:o.op=Op.call { callee:=Callee.value (Operand.func f),args:=xs,argTypes:=ats }:=by exact rfl)(hn:(fn.name == "runtime.NumGoroutine")=false:=by rfl) (hb:fn.body.isNone=false:=by rfl) (hv:xs.map (Ev a)=vs:=by simp [*]):WL ops Q (o :: rest) a w:=l_c hg hd hop hf hn hb hc hv h
theorem lcg {gd j:Nat}{want b:Bool}{f:FuncId}{xs:Array Operand}{ats:Array TypeId}{fn:Func}{vs:Array Value}{R:Ending→World→Prop}(hf:Tryz.prog.funcs[f]?=some fn)(hc:Calls Tryz.prog f vs w R)(h:∀ e w',R e w'→∃ v,e=.returned v∧WL ops Q rest (Pt a d v) w')(hg:o.guard=some (j,want):=by exact rfl)(hj:(ops[j]?).bind (fun x=>x.dst)=some gd:=by exact rfl)(hd:o.dst=some d:=by exact rfl)(hs:gd<a.tmps.size:=by simp [*])(he:Ev a (.tmp gd)=.bool b:=by simp [*];rfl)(hb:(b == want)=true:=by exact rfl)
    (hop:o.op=Op.call { callee:=Callee.value (Operand.func f),args:=xs,argTypes:=ats }:=by exact rfl)(hn:(fn.name == "runtime.NumGoroutine")=false:=by rfl) (hbn:fn.body.isNone=false:=by rfl) (hv:xs.map (Ev a)=vs:=by simp [*]):WL ops Q (o :: rest) a w :=
  l_callG d gd hg hj hs he hb hd f xs ats hop fn hf hn hbn vs hv (hc.mono h)
theorem d_E (a0:Act)(L:List Nat)(h:∀ a',Ag L a0 a'→K a' w)(hr:Region.ready .any ops (mkL ops.size is)=[]:=by kernel_rfl)(hA:Ag L a0 a:=by (repeat refine .put ?_ rfl);exact .rf):WD ops K S bf n is a w:=d_nil hr (h a hA)
theorem dv (i:Nat)(h:WD ops K S bf n (i :: is) (Pt a d v) w1)(hS:bf i=true→S w1:=by exact fun _=>hS)(hr:Region.ready .any ops (mkL ops.size is)=[i]:=by kernel_rfl)(hi:ops[i]?=some o:=by exact rfl)(hg:o.guard=none:=by exact rfl)(hd:o.dst=some d:=by exact rfl)(hrun:(execOp (Ev a) o).run Tryz.prog w=.ok (.value v) w1:=by (simp [execOp,go_sem, *];try simp (disch:=omega) only [tqI,tmI,wrI]);first | exact ⟨rfl,rfl⟩ | rfl):WD ops K S bf (n+1) is a w:=d_1 i hr hi hg hd hrun hS h
theorem dq (i:Nat)(h:WD ops K S bf n (i :: is) a w1)(hS:bf i=true→S w1:=by exact fun h=>absurd h (by decide))(hr:Region.ready .any ops (mkL ops.size is)=[i]:=by kernel_rfl)(hi:ops[i]?=some o:=by exact rfl)(hg:o.guard=none:=by exact rfl)(hd:o.dst=none:=by exact rfl)(hrun:(execOp (Ev a) o).run Tryz.prog w=.ok .skip w1:=by simp [execOp,go_sem, *];rfl):WD ops K S bf (n+1) is a w:=d_s i hr hi hg hd hrun hS h
theorem dt {N:Nat}(n:Nat)(J:List Nat)(h:WT ops S (fun a'=>WD ops K S bf n (revOn is J) a' w) J a)(hS:S w:=by exact hS)(hN:N=n+J.length:=by exact rfl)(ht:tkAll ops bf is J=true:=by kernel_rfl):WD ops K S bf N is a w:=d_t n J hN ht hS h
theorem tv {K':Act→Prop}{J:List Nat}{i:Nat}(h:WT ops S K' J (Pt a d v))(hi:ops[i]?=some o:=by exact rfl)(hg:o.guard=none:=by exact rfl)(hd:o.dst=some d:=by exact rfl)(hy:∀ w,S w→(execOp (Ev a) o).run Tryz.prog w=.ok (.value v) w:=by (intro w hw;simp [execOp,go_sem, *];try simp (disch:=omega) only [tqI,tmI,wrI]);rfl):WT ops S K' (i :: J) a:=t_v hi hg hd hy h
theorem dc {f:FuncId}{xs:Array Operand}{ats:Array TypeId}{fn:Func}{vs:Array Value}{R:Ending→World→Prop}(i:Nat)(hf:Tryz.prog.funcs[f]?=some fn)(hc:Calls Tryz.prog f vs w R)(h:∀ e w',R e w'→∃ v,e=.returned v∧(bf i=true→S w')∧WD ops K S bf n (i :: is) (Pt a d v) w')
    (hr:Region.ready .any ops (mkL ops.size is)=[i]:=by kernel_rfl)(hi:ops[i]?=some o:=by exact rfl)(hg:o.guard=none:=by exact rfl)(hd:o.dst=some d:=by exact rfl)(hop:o.op=Op.call { callee:=Callee.value (Operand.func f),args:=xs,argTypes:=ats }:=by exact rfl)(hn:(fn.name == "runtime.NumGoroutine")=false:=by rfl) (hb:fn.body.isNone=false:=by rfl) (hv:xs.map (Ev a)=vs:=by simp [*]):WD ops K S bf (n+1) is a w:=d_call i d hr hi hg hd f xs ats hop fn hf hn hb vs hv (hc.mono h)
theorem da {s x:Operand}{t e:TypeId}{z:Value}{size bytes:Nat}(i:Nat)(ht:Tryz.prog.underlying t=some (.slice e))(hI:(Tryz.prog.info? e).map (fun i=>(i.zero,i.size,i.bytes))=some (some z,size,bytes))
    {base k:Nat}{v:Value}{xs:List Value} (hown:w.ownsRow base e size v k xs) {T:Nat→Prop}{A:Option Addr}{m c:Nat}{news:List Value} (hsl:Sl w T size A m news) (h63:k+m≤1000000000000) (hbytes:(k+m)*bytes≤140737488355328) (hbase:base≤w.heap.size) (h1:∀ u ∈ news,u.oneCell'=true)
    (h:∀ v' w',w'.ownsRow base e size v' (k+m) (xs ++ news)→Fr (fun k=>some k=v.ownBlock) w w'→(v'.ownBlock=v.ownBlock∨v'.ownBlock=some w.heap.size)→(bf i=true→S w')∧WD ops K S bf n (i :: is) (Pt a d v') w')
    (hr:Region.ready .any ops (mkL ops.size is)=[i]:=by kernel_rfl)(hi:ops[i]?=some o:=by exact rfl)(hg:o.guard=none:=by exact rfl)(hd:o.dst=some d:=by exact rfl)(ho:o.op=.call { callee:=.builtin .append,args:=#[s,x],argTypes:=#[t,t] }:=by exact rfl)(hzs:z.cells.size=size:=by exact rfl)(hsz:0<size:=by omega)(hs:Ev a s=v:=by simp [*])(hx:Ev a x=.slice A m c:=by (simp [*];try rfl)):WD ops K S bf (n+1) is a w:=by
  obtain ⟨i0,hi0,hz0,hz1,hz2⟩:=info_parts hI
  refine d_one i hr hi (fun K' hK=>?_)
  refine step_append_sl w hg s x t ho base e i0 z size bytes ht hi0 hz0 hz1 hz2 hzs hsz v k xs hs hown T A m c news hx hsl h1 h63 hbytes hbase ?_
  intro v' w' q1 q2 q3
  rw [hd]
  exact hK _ _ (h v' w' q1 q2 q3).1 (h v' w' q1 q2 q3).2
theorem la {s x:Operand}{t e:TypeId}{z:Value}{size bytes:Nat}(ht:Tryz.prog.underlying t=some (.slice e))(hI:(Tryz.prog.info? e).map (fun i=>(i.zero,i.size,i.bytes))=some (some z,size,bytes))
    {base k:Nat}{v:Value}{xs:List Value} (hown:w.ownsRow base e size v k xs) {T:Nat→Prop}{A:Option Addr}{m c:Nat}{news:List Value} (hsl:Sl w T size A m news) (h63:k+m≤1000000000000) (hbytes:(k+m)*bytes≤140737488355328) (hbase:base≤w.heap.size) (h1:∀ u ∈ news,u.oneCell'=true)
    (h:∀ v' w',w'.ownsRow base e size v' (k+m) (xs ++ news)→Fr (fun k=>some k=v.ownBlock) w w'→(v'.ownBlock=v.ownBlock∨v'.ownBlock=some w.heap.size)→WL ops Q rest (Pt a d v') w')
    (hg:o.guard=none:=by exact rfl)(hd:o.dst=some d:=by exact rfl)(ho:o.op=.call { callee:=.builtin .append,args:=#[s,x],argTypes:=#[t,t] }:=by exact rfl)(hzs:z.cells.size=size:=by exact rfl)(hsz:0<size:=by omega)(hs:Ev a s=v:=by simp [*])(hx:Ev a x=.slice A m c:=by (simp [*];try rfl)):WL ops Q (o :: rest) a w :=
  l_a hg hd ho ht hI hzs hsz hown hsl hs hx h1 h63 hbytes hbase h
end
theorem callsV {f n:Nat}{fn:Func}{c:Code}{args:Array Value}{w:World}{R:Ending→World→Prop}(hf:Tryz.prog.funcs[f]?=some fn)(hb:fn.body=some c)(hn:fn.ntmps=n)(hs:args.size≤n)
    (h:∀ (a:Act)(Q:Exit→Act→World→Prop),a.tmps.size=n→a.defers=[]→(∀ i v,args[i]?=some v→Ev a (.tmp i)=v)→(∀ (a':Act)(w':World)(v:Value),a'.defers=[]→(results fn a'.tmps).run Tryz.prog w'=.ok v w'→R (.returned v) w'→Q .ret a' w')→Code.wp Tryz.prog c Q a w):Calls Tryz.prog f args w R:=by
  refine calls_of_wp hf hb (h _ _ ?_ rfl ?_ (fun a' w' v hd hr hR=>bodyPost_ret hr hd hR))
  · simp [hn];omega
  · intro i v hv
    obtain ⟨hi,rfl⟩:=Array.getElem?_eq_some_iff.1 hv
    simp [Ev,Act.eval,Array.getElem?_append,hi]
theorem evT {a:Act}{d:Nat}{v:Value}(h:Ev a (.tmp d)=v):a.tmps[d]?.getD undef=v:=by rw [← h];simp [Ev,Act.eval]
theorem lE3 {ops:Array Oper}{Q:Exit→Act→World→Prop}{a:Act}{w:World}{v v' v2:Value}(a0:Act)(L:List Nat)(d d' d2:Nat)(h:∀ a',Ag L a0 a'→Ev a' (.tmp d)=v→Ev a' (.tmp d')=v'→Ev a' (.tmp d2)=v2→Q .normal a' w)(hA:Ag L a0 a:=by (repeat refine .put ?_ rfl);exact .rf)(he:Ev a (.tmp d)=v:=by simp [*];rfl)(he':Ev a (.tmp d')=v':=by simp [*];rfl)(he2:Ev a (.tmp d2)=v2:=by simp [*];rfl):WL ops Q [] a w:=l_nil (h a hA he he' he2)
end Go.Proofs.YtfcplpeimcjhaaaGreatDoor
namespace Go.Proofs.YtfcplpeimcjhaaaGreatDoor
open Go.RowKit
theorem own_fr {w w':World}{M:Nat→Prop}{base:Nat}{e:TypeId}{size:Nat}{v:Value}{n:Nat}{xs:List Value}(h:w.ownsRow base e size v n xs)(hf:Fr M w w')(hm:∀ b,v.ownBlock=some b→¬ M b):w'.ownsRow base e size v n xs:=by
  refine ⟨h.1,?_⟩
  rcases h.2 with h | ⟨g,cap,cur,rfl,h2,h3,h4⟩
  · exact .inl h
  · exact .inr ⟨g,cap,cur,rfl,h2,Blk.fr (t:=e) h3 hf (hm g rfl),h4⟩
end Go.Proofs.YtfcplpeimcjhaaaGreatDoor
namespace Go.Proofs.YtfcplpeimcjhaaaGreatDoor
open Go.RowKit
theorem setCells_blk {g:Nat}{t:TypeId}:∀ (us:List Value){w:World}{cs:List Value}(o:Nat),Blk w g t cs.toArray→o+us.length≤cs.length→Blk (w.setCells g o us) g t (cs.take o ++ us ++ cs.drop (o+us.length)).toArray
  | [],w,cs,o,h,_=>by simp only [World.setCells,List.append_nil,List.length_nil,Nat.add_zero,List.take_append_drop];exact h
  | u :: us,w,cs,o,h,ho=>by
    simp only [List.length_cons] at ho
    have h1:=h.set_ o u
    simp only [List.setIfInBounds_toArray] at h1
    have h2:=setCells_blk us (o+1) h1 (by simp;omega)
    have e:(cs.set o u).take (o+1) ++ us ++ (cs.set o u).drop (o+1+us.length)=cs.take o ++ u :: us ++ cs.drop (o+(us.length+1)):=by
      rw [List.drop_set_of_lt (by omega),List.take_succ_eq_append_getElem (by simp;omega)]
      simp only [List.getElem_set_self,List.append_assoc,List.cons_append,List.nil_append]
      rw [List.take_set_of_le (by omega)]
      simp [Nat.add_comm,Nat.add_left_comm]
    rw [e] at h2
    exact h2
theorem Keeps.setCells {Q:Nat→Prop}{g:Nat}(hg:¬ Q g):∀ (us:List Value){w w':World}(o:Nat),Keeps Q w w'→Keeps Q w (w'.setCells g o us)
  | [],_,_,_,h=>h
  | u :: us,w,_,o,h=>Keeps.setCells hg us (o+1) (h.set (p:=⟨g,o,none⟩) u hg)
theorem Fr.setCells {M:Nat→Prop}{g:Nat}:∀ (us:List Value){w w':World}(o:Nat),Fr M w w'→(M g∨w.heap.size≤g)→Fr M w (w'.setCells g o us)
  | [],_,_,_,h,_=>h
  | u :: us,w,_,o,h,hg=>Fr.setCells us (o+1) (h.setCell (p:=⟨g,o,none⟩) hg u) hg
theorem VAt_int {n:Int}(h:I64 n)(w:World)(P:Nat→Prop):VAt w P (.mk 0 n ByteArray.empty []) none 0 :=
  ⟨by simp [I64,GV.kind],h,by simp [GV.s],Nat.le_refl _,⟨by simp [GV.kids],by omega⟩,⟨none,0,[],rfl,Nat.le_refl _,⟨by simp [GV.kids],by omega⟩,⟨rfl,fun h=>absurd h (by simp [GV.kids])⟩,rfl⟩⟩
theorem VAt.zero (w:World)(P:Nat→Prop):VAt w P zeroGV none 0:=VAt_int (by simp [I64]) w P
end Go.Proofs.YtfcplpeimcjhaaaGreatDoor
namespace Go.Proofs.YtfcplpeimcjhaaaGreatDoor
open Go.RowKit
theorem Ints.of_own {w:World}{base:Nat}{v:Value}{l:List Int}{Q:Nat→Prop}(ho:w.ownsRow base 3 1 v l.length (l.map (Value.int .i64)))(h64:∀ x ∈ l,I64 x)(hl:l.length≤17592186044416)(hQ:∀ b,v.ownBlock=some b→Q b):Ints w Q v l:=by
  obtain ⟨A,c,e,h1,h2,h3⟩:=Sl.of_own ho
  unfold maxLen at h2
  exact ⟨A,c,e,h1,⟨hl,h2⟩,h64,h3 Q hQ⟩
end Go.Proofs.YtfcplpeimcjhaaaGreatDoor
namespace Go.Proofs.YtfcplpeimcjhaaaGreatDoor
open Go.RowKit
theorem Vals.tail {w:World}{P:Nat→Prop}{b off c:Nat}{x:GV}{l:List GV}(h:Vals w P (.slice (some ⟨b,off,none⟩) (l.length+1) c) (x :: l)):Vals w P (.slice (some ⟨b,off+4,none⟩) l.length (c - 1)) l:=by
  obtain ⟨A,c',css,e,h1,h2,h3,h4⟩:=h
  injection e with e1 e2 e3
  subst e1 e3
  have h5:=h3.drop (k:=1) (by simp)
  have h6:=h4.drop 1
  simp only [List.drop_succ_cons,List.drop_zero,Nat.one_mul,List.length_cons,Nat.add_sub_cancel] at h5 h6
  simp only [List.length_cons] at h1 h2
  exact ⟨_,c - 1,_,rfl,by omega,by omega,h5,h6⟩
end Go.Proofs.YtfcplpeimcjhaaaGreatDoor
namespace Go.Proofs.YtfcplpeimcjhaaaGreatDoor
open Go.RowKit
variable {Q:Exit→Act→World→Prop}{a:Act}{w:World}{n m c d k:Nat}{A B:Option Addr}{F:Value}{b:Bool}
variable {Q:Exit→Act→World→Prop}{a:Act}{w:World}{g f:Nat}{b1 b2 b3 b4 b5:Bool}{k5:Int}
end Go.Proofs.YtfcplpeimcjhaaaGreatDoor
namespace Go.Proofs.YtfcplpeimcjhaaaGreatDoor
open Go.RowKit
theorem Ints.tail {w:World}{P:Nat→Prop}{b off c:Nat}{z:Int}{l:List Int}(h:Ints w P (.slice (some ⟨b,off,none⟩) (l.length+1) c) (z :: l)):Ints w P (.slice (some ⟨b,off+1,none⟩) l.length (c - 1)) l:=by
  obtain ⟨A,c',e,h1,h2,h3,h4⟩:=h
  injection e with e1 e2 e3
  subst e1 e3
  have h5:=h4.drop (k:=1) (by simp)
  simp only [List.length_cons,Nat.add_sub_cancel,List.map_cons,List.drop_succ_cons,List.drop_zero,Nat.one_mul] at h5
  simp only [List.length_cons] at h1 h2
  exact ⟨_,c - 1,rfl,by omega,by omega,fun y hy=>h3 y (by simp [hy]),h5⟩
end Go.Proofs.YtfcplpeimcjhaaaGreatDoor
namespace Go.Proofs.YtfcplpeimcjhaaaGreatDoor
open Go.RowKit
theorem RVs.set {w:World}{P:Nat→Prop}{l:List GV}{cs us:List Value}(h:RVs w P l cs){k:Nat}(hk:k<l.length){v:GV}(hv:RV w P v us):RVs w P (l.set k v) (cs.take (k*4) ++ us ++ cs.drop (k*4+us.length)):=by
  have hl:=hv.len
  rw [hl,show k*4+4=(k+1)*4 by omega,List.set_eq_take_append_cons_drop,if_pos hk,List.append_assoc]
  refine RVs.append (h.take k) ?_
  show RVs w P ([v] ++ l.drop (k+1)) _
  exact RVs.append (RVs.one hv) (h.drop (k+1))
end Go.Proofs.YtfcplpeimcjhaaaGreatDoor
namespace Go.Proofs.YtfcplpeimcjhaaaGreatDoor
open Go.RowKit
section
variable {α:Type}{R:α→List Value→Prop}
theorem RL.set (hR:∀ x cs,R x cs→cs.length=6){l:List α}{xs us:List Value}(h:RL R l xs){y:α}(hy:R y us){i:Nat}(hi:i<l.length):RL R (l.set i y) (xs.take (i*6) ++ us ++ xs.drop ((i+1)*6)):=by
  rw [List.set_eq_take_append_cons_drop,if_pos hi,List.append_assoc]
  refine (h.take hR i).append ?_
  exact ⟨us,_,rfl,hy,h.drop hR (i+1)⟩
end
end Go.Proofs.YtfcplpeimcjhaaaGreatDoor
namespace Go.Proofs.YtfcplpeimcjhaaaGreatDoor
open Go.RowKit
section
variable {a:Act}{w:World}{l:List Int}{Ql:Nat→Prop}{vl:Value}{g2 g3 n i gx:Nat}{k:Int}{w0:World}{name:ByteArray}{Pn:Nat→Prop}
@[simp] def k8 (kk:Int):Array Value:=#[.int .i64 kk,.string ⟨#[]⟩,.int .i64 0,.int .i64 0,.slice none 0 0,.slice none 0 0,.slice none 0 0,.slice none 0 0,.int .i64 0,.int .i64 0,.string ⟨#[]⟩,.slice none 0 0]
end
end Go.Proofs.YtfcplpeimcjhaaaGreatDoor
namespace Go.Proofs.YtfcplpeimcjhaaaGreatDoor
open Go.RowKit
variable {Q:Exit→Act→World→Prop}{a:Act}{w:World}
section
variable {ops:Array Oper}{Q:Exit→Act→World→Prop}{a:Act}{w w1:World}{rest:List Oper}{o:Oper}{d gd j:Nat}{v:Value}{want b:Bool}
theorem l_u (hg:o.guard=some (j,want))(hj:(ops[j]?).bind (fun x=>x.dst)=some gd)(hd:o.dst=some d)(hs:gd<a.tmps.size)(he:Ev a (.tmp gd)=undef)(h:WL ops Q rest (Pt a d undef) w):WL ops Q (o :: rest) a w:=by
  have h1:a.tmps[gd]?=some undef:=by
    have h2:a.tmps.getD gd undef=undef:=he
    simp only [Array.getD,hs,dite_true] at h2
    rw [Array.getElem?_eq_getElem hs]
    exact congrArg some h2
  have h3:yielded ops a.tmps j=none:=by
    unfold yielded
    rw [show ((ops[j]?).bind (fun x=>x.dst)).bind (fun x=>a.tmps[x]?)=some undef by rw [hj];exact h1]
    rfl
  refine ⟨wpList_skip (by simp [Region.wanted,hg,h3]) ?_⟩
  rw [hd]
  exact h.out
end
end Go.Proofs.YtfcplpeimcjhaaaGreatDoor
