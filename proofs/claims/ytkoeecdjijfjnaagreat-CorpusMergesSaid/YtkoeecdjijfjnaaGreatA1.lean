/- Contracts of functions, plain laws. Conditions: none. -/
import Derived.WalkKit
import Derived.WalkSpells
import Derived.WalkLawsBesides
import Derived.Lib.Hide
import Derived.Deep.Draws
import Derived.Deep.QuietTactic
import Derived.BigQuiet
import Derived.StillTailTactics
import Derived.Laws.OwnMore
import Derived.Laws.Rows
import Derived.Test.YtkoeecdjijfjnaaGreatProg
import Derived.Test.YtkoeecdjijfjnaaGreatZ0
set_option maxRecDepth 100000
set_option maxHeartbeats 8000000
namespace Go.Proofs.YtkoeecdjijfjnaaGreat
open Go.RowKit
def I64 (n:Int):Prop:=-9223372036854775808<=n∧n<=9223372036854775807
abbrev Ext (w w':World):Prop:=Below w.heap.size w w'
theorem Ext.trans' {a b c:World}(h:Ext a b)(k:Ext b c):Ext a c:=Below.trans h (Below.mono k h.size)
theorem Ext.drewN (w:World)(n:Nat):Ext w (w.drewN n):=⟨rfl,rfl,rfl,Nat.le_refl _,fun _ _=>rfl⟩
theorem iU (w:World)(cs:Array Value)(t:TypeId)(fr:Nat × Nat)(i:Nat):(w.alloc (.cells cs t fr)).cell? ⟨w.heap.size,i,none⟩=cs[i]?:=by
 have:(w.alloc (.cells cs t fr)).heap[w.heap.size]?=some (.cells cs t fr):=heap_alloc_new w _;simp only [World.cell?,this];simp
theorem Ext.refl (w:World):Ext w w:=Below.refl _ _
theorem Ext.alloc' {w w1:World}(h:Ext w w1)(o:Obj):Ext w (w1.alloc o):=Below.alloc h h.size o
theorem Ext.drewN' {w w1:World}(h:Ext w w1)(n:Nat):Ext w (w1.drewN n):=⟨h.os,h.tape,h.output,h.size,h.block⟩
theorem Ext.drew' {w w1:World}(h:Ext w w1):Ext w w1.drew:=⟨h.os,h.tape,h.output,h.size,h.block⟩
theorem Ext.setCell' {w w1:World}(h:Ext w w1){p:Addr}(hp:w.heap.size<=p.block)(u:Value):Ext w (w1.setCell p u):=Below.setCell h hp u
def Sl (w:World)(P:Nat->Prop)(size:Nat)(A:Option Addr)(n:Nat)(cs:List Value):Prop :=
 cs.length=n*size∧(0<n->∃ b off,A=some ⟨b,off,none⟩∧P b∧∀ j u,cs[j]?=some u->w.cell? ⟨b,off+j,none⟩=some u)
theorem aN {w:World}{b off:Nat}{u:Value}(h:w.cell? ⟨b,off,none⟩=some u):b<w.heap.size:=by
 rcases Nat.lt_or_ge b w.heap.size with h1 | h1
 ·exact h1
 ·have:w.heap[b]?=none:=Array.getElem?_eq_none h1
  simp [World.cell?,this] at h
def aB (P:Nat->Prop)(w w':World):Prop:=∀ b,b<w.heap.size->P b->w'.heap[b]?=w.heap[b]?
theorem aB.of_ext {P:Nat->Prop}{w w':World}(h:Ext w w'):aB P w w':=fun b hb _=>h.block b hb
theorem Sl.keep {w w':World}{P Q:Nat->Prop}{size:Nat}{A:Option Addr}{n:Nat}{cs:List Value}(h:Sl w P size A n cs)
  (hk:aB P w w')(hPQ:∀ b,P b->Q b):Sl w' Q size A n cs :=
 ⟨h.1,fun hn=>by
  obtain ⟨b,off,e,hb,hc⟩:=h.2 hn;exact ⟨b,off,e,hPQ b hb,fun j u hu=>(World.cell?_of_block (w:=w) (w':=w') (hk b (aN (hc j u hu)) hb)).trans (hc j u hu)⟩⟩
def bM (w:World)(P:Nat->Prop)(v:Value)(l:List Int):Prop :=
 ∃ A c,v=.slice A l.length c∧l.length<=c∧(l.length<=17592186044416∧c<=9223372036854775807)∧(∀ x ∈ l,I64 x)∧Sl w P 1 A l.length (l.map (Value.int .i64))
theorem bM.keep {w w':World}{P Q:Nat->Prop}{v:Value}{l:List Int}(h:bM w P v l)
  (hk:aB P w w')(hPQ:∀ b,P b->Q b):bM w' Q v l:=by
 obtain ⟨A,c,hv,h1,h2,h3,h4⟩:=h;exact ⟨A,c,hv,h1,h2,h3,h4.keep hk hPQ⟩
theorem bM.ext {w w':World}{P:Nat->Prop}{v:Value}{l:List Int}(h:bM w P v l)(hx:Ext w w'):bM w' P v l:=h.keep (aB.of_ext hx) (fun _ h=>h)
theorem pV (w:World)(cs:Array Value)(t:TypeId)(fr:Nat × Nat)(i b:Nat)(hb:b=w.heap.size){u:Option Value}(hu:cs[i]?=u):(w.alloc (.cells cs t fr)).cell? ⟨b,i,none⟩=u:=by
 subst hb;rw [iU];exact hu
theorem aA {w w':World}(hx:Ext w w'){b off:Nat}{u:Value}(h:w.cell? ⟨b,off,none⟩=some u):w'.cell? ⟨b,off,none⟩=some u:=by
 rw [<- h];exact hx.cell (p:=⟨b,off,none⟩) (aN h)
theorem iT {w:World}{b off:Nat}{u:Option Value}(h:w.cell? ⟨b,off,none⟩=u)(o:Obj):b<w.heap.size->(w.alloc o).cell? ⟨b,off,none⟩=u:=fun hb=>by
 rw [<- h];exact World.cell?_alloc_lt w o _ hb
structure Fr (M:Nat->Prop)(w w':World):Prop where
 os:w'.os=w.os
 tape:w'.tape=w.tape
 output:w'.output=w.output
 size:w.heap.size<=w'.heap.size
 block:∀ k,k<w.heap.size->¬ M k->w'.heap[k]?=w.heap[k]?
theorem Fr.refl (M:Nat->Prop)(w:World):Fr M w w:=⟨rfl,rfl,rfl,Nat.le_refl _,fun _ _ _=>rfl⟩
theorem Fr.of_ext {M:Nat->Prop}{w w':World}(h:Ext w w'):Fr M w w':=⟨h.os,h.tape,h.output,h.size,fun k hk _=>h.block k hk⟩
theorem Fr.ext {w w':World}(h:Fr (fun _=>False) w w'):Ext w w':=⟨h.os,h.tape,h.output,h.size,fun k hk=>h.block k hk (fun h=>h)⟩
theorem Fr.trans {M:Nat->Prop}{a b c:World}(h:Fr M a b)(k:Fr M b c):Fr M a c :=
 ⟨k.os.trans h.os,k.tape.trans h.tape,k.output.trans h.output,Nat.le_trans h.size k.size,fun i hi hm=>(k.block i (Nat.lt_of_lt_of_le hi h.size) hm).trans (h.block i hi hm)⟩
theorem Fr.trans_new {M:Nat->Prop}{a b c:World}(h:Fr M a b)(k:Fr (fun i=>M i∨a.heap.size<=i) b c):Fr M a c :=
 ⟨k.os.trans h.os,k.tape.trans h.tape,k.output.trans h.output,Nat.le_trans h.size k.size,fun i hi hm=>(k.block i (Nat.lt_of_lt_of_le hi h.size) (fun h=>h.elim hm (fun h=>by omega))).trans (h.block i hi hm)⟩
theorem Fr.mono {M N:Nat->Prop}{w w':World}(h:Fr M w w')(hMN:∀ b,M b->N b):Fr N w w':=⟨h.os,h.tape,h.output,h.size,fun k hk hn=>h.block k hk (fun hm=>hn (hMN k hm))⟩
theorem Fr.alloc {M:Nat->Prop}{w w1:World}(h:Fr M w w1)(o:Obj):Fr M w (w1.alloc o):=h.trans (Fr.of_ext ((Ext.refl _).alloc' o))
theorem Fr.drewN {M:Nat->Prop}{w w1:World}(h:Fr M w w1)(n:Nat):Fr M w (w1.drewN n):=h.trans (Fr.of_ext ((Ext.refl _).drewN' n))
theorem Fr.drew {M:Nat->Prop}{w w1:World}(h:Fr M w w1):Fr M w w1.drew:=h.trans (Fr.of_ext (Ext.refl _).drew')
theorem Fr.setCell {M:Nat->Prop}{w w1:World}(h:Fr M w w1){p:Addr}(hp:M p.block∨w.heap.size<=p.block)(u:Value):Fr M w (w1.setCell p u) :=
 h.trans_new ⟨rfl,rfl,rfl,fj,fun k _ hk=>Below.heap_setCell _ _ _ _ (fun e=>hk (e ▸ hp))⟩
theorem Fr.new_ext {M:Nat->Prop}{w w':World}(h:Fr M w w')(hM:∀ b,M b->w.heap.size<=b):Ext w w':=⟨h.os,h.tape,h.output,h.size,fun k hk=>h.block k hk (fun hm=>by have:=hM k hm;omega)⟩
theorem aB.of_fr {P M:Nat->Prop}{w w':World}(h:Fr M w w')(hPM:∀ b,P b->¬ M b):aB P w w':=fun b hb hp=>h.block b hb (hPM b hp)
def Blk (w:World)(g:Nat)(t:TypeId)(cs:Array Value):Prop:=w.heap[g]?=some (.cells cs t (0,0))
section
variable {w w':World}{g:Nat}{t:TypeId}{cs:Array Value}
theorem Blk.lt (h:Blk w g t cs):g<w.heap.size:=by
 rcases Nat.lt_or_ge g w.heap.size with hlt | hge
 ·exact hlt
 ·unfold Blk at h;rw [Array.getElem?_eq_none hge] at h;cases h
theorem Blk.cell (h:Blk w g t cs)(i:Nat):w.cell? ⟨g,i,none⟩=cs[i]?:=cell_of_row w g i cs t (0,0) h
theorem Blk.cell' (h:Blk w g t cs)(i:Nat){u:Value}(hu:cs[i]?=some u):w.cell? ⟨g,i,none⟩=some u:=(h.cell i).trans hu
theorem Blk.frozen (h:Blk w g t cs)(i:Nat):w.frozen? ⟨g,i,none⟩=false:=by
 unfold Blk at h;simp [World.frozen?,h]
theorem Blk.new (w:World)(t:TypeId)(cs:Array Value):Blk (w.alloc (.cells cs t)) w.heap.size t cs:=heap_alloc_new w _
theorem Blk.new' (w:World)(t:TypeId)(cs:Array Value){g:Nat}(hg:g=w.heap.size):Blk (w.alloc (.cells cs t)) g t cs:=by subst hg;exact heap_alloc_new w _
theorem Blk.drew (h:Blk w g t cs):Blk w.drew g t cs:=h
theorem Blk.drewN (h:Blk w g t cs)(n:Nat):Blk (w.drewN n) g t cs:=h
theorem Blk.alloc (h:Blk w g t cs)(o:Obj):Blk (w.alloc o) g t cs:=(Below.heap_alloc w o g h.lt).trans h
theorem Blk.set_ (h:Blk w g t cs)(i:Nat)(u:Value):Blk (w.setCell ⟨g,i,none⟩ u) g t (cs.setIfInBounds i u):=by
 unfold Blk at h ⊢;simp [World.setCell,Array.getElem?_modify,h]
theorem Blk.far (h:Blk w g t cs){p:Addr}(hp:g ≠ p.block)(u:Value):Blk (w.setCell p u) g t cs:=(Below.heap_setCell w p u g hp).trans h
theorem Blk.fr {M:Nat->Prop}(h:Blk w g t cs)(hb:Fr M w w')(hg:¬ M g):Blk w' g t cs:=(hb.block g h.lt hg).trans h
theorem Blk.ext (h:Blk w g t cs)(hb:Ext w w'):Blk w' g t cs:=(hb.block g h.lt).trans h
end
end Go.Proofs.YtkoeecdjijfjnaaGreat
namespace Go.Proofs.YtkoeecdjijfjnaaGreat
def fD (n m:Int):Int:=if n<0 then (-(n+1)) % m else n % m
theorem fK {n m:Int}(hm:1<=m):0<=fD n m∧fD n m<m:=by
 unfold fD
 split
 ·exact ⟨Int.emod_nonneg _ D,Int.emod_lt_of_pos _ D⟩
 ·exact ⟨Int.emod_nonneg _ D,Int.emod_lt_of_pos _ D⟩
def iN (a b:Int):Int:=if a<b then -1 else if b<a then 1 else 0
def iZ:List Int->List Int->Int
 | [],[]=>0
 | [],_ :: _=>-1
 | _ :: _,[]=>1
 | a :: l,b :: m=>if iN a b=0 then iZ l m else iN a b
def gP (a b:List Int):Int:=if iN a.length b.length=0 then iZ a b else iN a.length b.length
theorem aF {α:Type}{l:List α}{k:Nat}(d:α)(h:k<l.length):l.drop k=l.getD k d :: l.drop (k+1):=by
 rw [List.drop_eq_getElem_cons h];simp [h]
theorem drop_nil {α:Type}{l:List α}{k:Nat}(h:l.length<=k):l.drop k=[]:=List.drop_eq_nil_of_le h
theorem aV {α:Type}{l:List α}{k:Nat}(d:α)(h:k<l.length):l.take (k+1)=l.take k ++ [l.getD k d]:=by
 rw [List.take_succ_eq_append_getElem h];simp [h]
theorem aPd {x y:Int}(h:x<y):iN x y=-1:=by unfold iN;rw [if_pos h]
theorem aPe {x y:Int}(h:y<x):iN x y=1:=by unfold iN;rw [if_neg D,if_pos h]
theorem aFg {x y:Int}(h:¬ x<y)(h':¬ y<x):iN x y=0:=by unfold iN;rw [if_neg h,if_neg h']
theorem aPa {x y:Int}(h:x<y)(xs ys:List Int):iZ (x :: xs) (y :: ys)=-1:=by simp [iZ,aPd h]
theorem aPb {x y:Int}(h:y<x)(xs ys:List Int):iZ (x :: xs) (y :: ys)=1:=by simp [iZ,aPe h]
theorem aPc {x y:Int}(h:¬ x<y)(h':¬ y<x)(xs ys:List Int):iZ (x :: xs) (y :: ys)=iZ xs ys:=by simp [iZ,aFg h h']
end Go.Proofs.YtkoeecdjijfjnaaGreat
namespace Go.Proofs.YtkoeecdjijfjnaaGreat
open Go.RowKit
theorem aZ {w:World}{b off:Nat}{l:List Int}{k:Nat}(hk:k<l.length)
   (hc:∀ j u,(l.map (Value.int .i64))[j]?=some u->w.cell? ⟨b,off+j,none⟩=some u):w.cell? ⟨b,off+k,none⟩=some (.int .i64 (l.getD k 0)):=by
 apply hc;simp [hk]
theorem aL {k:IntKind}{a b:Int}(h:a=b):Ending.returned (.int k a)=.returned (.int k b):=by rw [h]
theorem aC {a b:Bool}(h:a=b):Ending.returned (.bool a)=.returned (.bool b):=by rw [h]
def aLj (v:Value)(w:World)(e:Ending)(w':World):Prop:=e=.returned v∧∃ n,w'=w.drewN n
theorem eN (n m:Int)(w:World)(hn:I64 n)(hm:1<=m)(hm2:m<=9223372036854775807) :
  Calls Tryz.prog 9 #[↑n,↑m] w fun e w'=>e=.returned (.int .i64 (fD n m))∧w=w':=by
 obtain ⟨hn1,hn2⟩:=hn
 by_cases h0:n<0
 ·go_enter Tryz.func9,Tryz.ntmps9
  go_wp2;go_ret;refine ⟨aL ?_,rfl⟩;unfold fD;rw [if_pos h0,<- Int.neg_tmod,Int.tmod_eq_emod_of_nonneg D]
 ·go_enter Tryz.func9,Tryz.ntmps9
  go_wp2;go_ret;refine ⟨aL ?_,rfl⟩;unfold fD;rw [if_neg D]
theorem aEr (n:Int)(w:World) :
  Calls Tryz.prog 113 #[↑n] w fun e w'=>e=.returned (.bool false)∧w=w':=by
 go_enter Tryz.func113,Tryz.ntmps113;go_wp2;go_ret;exact ⟨rfl,rfl⟩
theorem kG (a b:Int)(w:World) :
  Calls Tryz.prog 62 #[↑a,↑b] w fun e w'=>e=.returned (.int .i64 (iN a b))∧w=w':=by
 go_enter Tryz.func62,Tryz.ntmps62;go_wp2_with (go_at_call 113;refine (aEr _ _).mono ?_;rintro e w' ⟨rfl,rfl⟩)
 all_goals
  go_ret;refine ⟨aL ?_,rfl⟩;unfold iN
 ·rw [if_pos aw]
 ·rw [if_neg D,if_pos aw]
 ·rw [if_neg D,if_neg D]
def aPr (a b:List Int)(w:World)(i:Value)(wr:World):Prop:=∃ k n:Nat,k<=a.length∧i=↑k∧wr=w.drewN n∧a.take k=b.take k
theorem fQ (a b:List Int)(P Q:Nat->Prop)(va vb:Value)(w:World)(ha:bM w P va a)(hb:bM w Q vb b) :
  Calls Tryz.prog 24 #[va,vb] w (aLj (.bool (decide (a=b))) w):=by
 obtain ⟨A,c,rfl,h1,h2,h3,h4⟩:=ha;obtain ⟨A',c',rfl,h1',h2',h3',h4'⟩:=hb;clear h3 h3';have H4:=aZv h4;have H4':=aZv h4';clear h4 h4';generalize hna:a.length=na at *;generalize hnb:b.length=nb at *;have HA:=aZv hna;have HB:=aZv hnb;clear hna hnb
 by_cases hl:na=nb
 ·subst hl
  go_enter Tryz.func24,Tryz.ntmps24;go_wp2;go_loopw [5] (fun i wr=>aPr a b w i wr) (fun i _=>na - (intOf i).toNat)
  case atStart=>exact ⟨0,0,Nat.zero_le _,rfl,rfl,rfl⟩
  case round =>
   obtain ⟨k,n,hk,rfl,rfl,ht⟩:=hrel;rw [HA.out] at hk;have HT:=aZv ht;clear ht
   by_cases hlt:k<na
   ·obtain ⟨b1,o1,rfl,-,hc1⟩:=H4.out.2 D
    obtain ⟨b2,o2,rfl,-,hc2⟩:=H4'.out.2 D;have g1:=aZ (k:=k) ig hc1;have g2:=aZ (k:=k) (by rw [HB.out];omega) hc2;clear hc1 hc2;generalize hx:a.getD k 0=x at *;generalize hy:b.getD k 0=y at *;have HX:=aZv hx;have HY:=aZv hy;clear hx hy
    by_cases hxy:x=y
    ·subst hxy
     go_wp2;go_quiet (fail);go_wp2;go_roundw
     case rel =>
      refine ⟨k+1,_,ig,by go_num,rfl,?_⟩;rw [aV 0 ig,aV 0 (by rw [HB.out];omega),HT.out,HX.out,HY.out]
     case measure=>simp [intOf];omega
    ·have hxy':(x != y)=true:=by simp [hxy]
     have HN:=aZv hxy;clear hxy;go_wp2;go_quiet (fail);go_wp2;go_ret;refine ⟨aC ?_,_,World.drewN_drewN _ _ _⟩
     symm
     rw [decide_eq_false_iff_not];rintro rfl;exact HN.out (HX.out.symm.trans HY.out)
   ·go_wp2
    go_ret;refine ⟨aC ?_,_,rfl⟩;have:=HT.out;rw [List.take_of_length_le ig,List.take_of_length_le (by rw [HB.out];omega)] at this;simp [this]
 ·have hl':((na:Int) != (nb:Int))=true:=by simp;omega
  go_enter Tryz.func24,Tryz.ntmps24;go_wp2;go_ret;refine ⟨aC ?_,0,rfl⟩
  symm
  rw [decide_eq_false_iff_not];rintro rfl;exact hl (HA.out.symm.trans HB.out)
def pick (l:List Int)(i m:Int):Int:=if i<0∨(l.length:Int)<=i then 0 else fD (l.getD i.toNat 0) m
theorem jV {l:List Int}{i m:Int}(hm:1<=m):0<=pick l i m∧pick l i m<m:=by
 unfold pick
 split
 ·omega
 ·exact fK hm
theorem aA1 {l:List Int}(h:∀ x ∈ l,I64 x)(k:Nat):I64 (l.getD k 0):=by
 by_cases hk:k<l.length
 ·have:l.getD k 0=l[k]:=by simp [hk]
  rw [this];exact h _ (List.getElem_mem hk)
 ·have:l.getD k 0=0:=by simp [hk]
  rw [this];unfold I64;omega
theorem jW (l:List Int)(i m:Int)(P:Nat->Prop)(v:Value)(w:World)(hv:bM w P v l)(hi:I64 i)(hm:1<=m)(hm2:m<=9223372036854775807) :
  Calls Tryz.prog 38 #[v,↑i,↑m] w fun e w'=>e=.returned (.int .i64 (pick l i m))∧w=w':=by
 obtain ⟨A,c,rfl,h1,h2,h3,h4⟩:=hv;obtain ⟨hi1,hi2⟩:=hi
 by_cases h0:i<0
 ·go_enter Tryz.func38,Tryz.ntmps38
  go_wp2;go_ret;exact ⟨aL (by unfold pick;rw [if_pos D]),rfl⟩
 ·by_cases h5:(l.length:Int)<=i
  ·have h0':decide (i<0)=false:=by simpa using h0
   go_enter Tryz.func38,Tryz.ntmps38;go_wp2;go_ret;exact ⟨aL (by unfold pick;rw [if_pos D]),rfl⟩
  ·obtain ⟨k,rfl⟩:=Int.eq_ofNat_of_zero_le (show 0<=i by omega)
   have hk:k<l.length:=D
   obtain ⟨b1,o1,rfl,-,hc1⟩:=h4.2 D;have g1:=aZ hk hc1;have hx:=aA1 h3 k
   have hr:pick l k m=fD (l.getD k 0) m:=by
    unfold pick;rw [if_neg D]
    rfl
   rw [hr];clear hr h3 hc1;generalize l.getD k 0=x at *;go_enter Tryz.func38,Tryz.ntmps38;go_wp2_with (go_at_call 9;refine (eN _ _ _ hx hm hm2).mono ?_;rintro e w' ⟨rfl,rfl⟩);go_ret;exact ⟨rfl,rfl⟩
def aLt (a b:List Int)(w:World)(i:Value)(wr:World):Prop:=∃ k n:Nat,k<=a.length∧k<=b.length∧i=↑k∧wr=w.drewN n∧iZ a b=iZ (a.drop k) (b.drop k)
theorem mE (a b:List Int)(P Q:Nat->Prop)(va vb:Value)(w:World)(ha:bM w P va a)(hb:bM w Q vb b) :
  Calls Tryz.prog 63 #[va,vb] w (aLj (.int .i64 (iZ a b)) w):=by
 obtain ⟨A,c,rfl,h1,h2,h3,h4⟩:=ha;obtain ⟨A',c',rfl,h1',h2',h3',h4'⟩:=hb;clear h3 h3';have H4:=aZv h4;have H4':=aZv h4';clear h4 h4';go_enter Tryz.func63,Tryz.ntmps63;go_wp2;go_loopw [11] (fun i wr=>aLt a b w i wr) (fun i _=>a.length - (intOf i).toNat)
 case atStart=>exact ⟨0,0,Nat.zero_le _,Nat.zero_le _,rfl,rfl,rfl⟩
 case round =>
  obtain ⟨k,n,hk,hk',rfl,rfl,ht⟩:=hrel;have HT:=aZv ht;clear ht
  by_cases hlt:k<a.length
  ·obtain ⟨b1,o1,rfl,-,hc1⟩:=H4.out.2 D
   have g1:=aZ hlt hc1
   by_cases hlt':k<b.length
   ·obtain ⟨b2,o2,rfl,-,hc2⟩:=H4'.out.2 D
    have g2:=aZ hlt' hc2;clear hc1 hc2
    have HD:=aZv (show iZ a b=iZ (a.getD k 0 :: a.drop (k+1)) (b.getD k 0 :: b.drop (k+1)) by
     rw [HT.out,<- aF 0 hlt,<- aF 0 hlt'])
    generalize a.getD k 0=x at *;generalize b.getD k 0=y at *;go_wp2_with (go_at_call 62;refine (kG _ _ _).mono ?_;rintro e w' ⟨rfl,rfl⟩)
    ·rename_i hz
     go_ret;refine ⟨aL ?_,_,rfl⟩;rw [HD.out];simp only [iZ];rw [if_neg bh]
    ·rename_i hz
     go_roundw
     case rel =>
      refine ⟨k+1,n,D,D,by go_num,rfl,?_⟩;rw [HD.out];simp only [iZ];rw [if_pos bh]
     case measure=>simp [intOf];omega
   ·clear hc1
    go_wp2;go_ret;refine ⟨aL ?_,_,rfl⟩;rw [HT.out,drop_nil (l:=b) D,aF 0 hlt]
    rfl
  ·by_cases hlt':k<b.length
   ·go_wp2
    go_ret;refine ⟨aL ?_,_,rfl⟩;rw [HT.out,drop_nil (l:=a) D,aF 0 hlt']
    rfl
   ·go_wp2
    go_ret;refine ⟨aL ?_,_,rfl⟩;rw [HT.out,drop_nil (l:=a) D,drop_nil (l:=b) D]
    rfl
theorem qL (a b:List Int)(P Q:Nat->Prop)(va vb:Value)(w:World)(ha:bM w P va a)(hb:bM w Q vb b) :
  Calls Tryz.prog 105 #[va,vb] w (aLj (.int .i64 (gP a b)) w):=by
 obtain ⟨A,c,rfl,h1,h2,h3,h4⟩:=ha;obtain ⟨A',c',rfl,h1',h2',h3',h4'⟩:=hb;clear h3 h3';have H4:=aZv h4;have H4':=aZv h4';clear h4 h4'
 by_cases hl1:a.length<b.length
 ·go_enter Tryz.func105,Tryz.ntmps105
  go_wp2;go_ret;refine ⟨aL ?_,0,rfl⟩;simp [gP,iN,hl1]
 by_cases hl2:b.length<a.length
 ·go_enter Tryz.func105,Tryz.ntmps105
  go_wp2;go_ret;refine ⟨aL ?_,0,rfl⟩;simp [gP,iN,hl1,hl2]
 have HP:=aZv (show gP a b=iZ a b by unfold gP;rw [if_pos (by unfold iN;rw [if_neg D,if_neg D])]);go_enter Tryz.func105,Tryz.ntmps105;go_wp2;go_loopw [5] (fun i wr=>aLt a b w i wr) (fun i _=>a.length - (intOf i).toNat)
 case atStart=>exact ⟨0,0,Nat.zero_le _,Nat.zero_le _,rfl,rfl,rfl⟩
 case round =>
  obtain ⟨k,n,hk,hk',rfl,rfl,ht⟩:=hrel;have HT:=aZv ht;clear ht
  by_cases hlt:k<a.length
  ·have hlt':k<b.length:=by omega
   obtain ⟨b1,o1,rfl,-,hc1⟩:=H4.out.2 D;have g1:=aZ hlt hc1;obtain ⟨b2,o2,rfl,-,hc2⟩:=H4'.out.2 D;have g2:=aZ hlt' hc2;clear hc1 hc2
   have HD:=aZv (show iZ a b=iZ (a.getD k 0 :: a.drop (k+1)) (b.getD k 0 :: b.drop (k+1)) by
    rw [HT.out,<- aF 0 hlt,<- aF 0 hlt'])
   generalize a.getD k 0=x at *;generalize b.getD k 0=y at *
   by_cases hxy:x<y
   ·go_wp2
    go_quiet (fail);go_wp2;go_ret;refine ⟨aL ?_,_,World.drewN_drewN _ _ _⟩;rw [HP.out,HD.out,aPa D]
   by_cases hyx:y<x
   ·go_wp2
    go_quiet (fail);go_wp2;go_quiet (fail);go_wp2;go_ret;refine ⟨aL ?_,_,(congrArg (World.drewN · _) (World.drewN_drewN _ _ _)).trans (World.drewN_drewN _ _ _)⟩;rw [HP.out,HD.out,aPb D]
   go_wp2;go_quiet (fail);go_wp2;go_quiet (fail);go_wp2;go_roundw
   case rel =>
    refine ⟨k+1,_,D,D,by go_num,rfl,?_⟩;rw [HD.out,aPc D D]
   case measure=>simp [intOf];omega
  ·go_wp2
   go_ret;refine ⟨aL ?_,_,rfl⟩;rw [HP.out,HT.out,drop_nil (l:=a) D,drop_nil (l:=b) D]
   rfl
def orI (x y:Int):Int:=if x=0 then y else x
theorem aS0 (x y:Int)(b:Nat)(w:World)(hc0:w.cell? ⟨b,0,none⟩=some (↑x))(hc1:w.cell? ⟨b,1,none⟩=some (↑y)) :
  Calls Tryz.prog 61 #[.slice (some ⟨b,0,none⟩) 2 2] w fun e w'=>e=.returned (.int .i64 (orI x y))∧w=w':=by
 go_enter Tryz.func61,Tryz.ntmps61;go_wp2;refine wp_loop_rounds 3 ?_;rw [rounds_succ]
 by_cases hx:x=0
 ·subst hx
  go_wp2;rw [rounds_succ]
  by_cases hy:y=0
  ·subst hy
   go_wp2;rw [rounds_succ];go_wp2;go_ret;exact ⟨rfl,rfl⟩
  ·have hy':(y != 0)=true:=by simp [hy]
   go_wp2;go_ret;exact ⟨rfl,rfl⟩
 ·have hx':(x != 0)=true:=by simp [hx]
  go_wp2;go_ret;exact ⟨aL (by unfold orI;rw [if_neg hx]),rfl⟩
def cT (v:Value)(w:World)(e:Ending)(w':World):Prop:=e=.returned v∧Ext w w'
theorem nE (a b:List Int)(P Q:Nat->Prop)(va vb:Value)(w:World)(ha:bM w P va a)(hb:bM w Q vb b) :
  Calls Tryz.prog 25 #[va,vb] w (cT (.int .i64 (gP a b)) w):=by
 have hC:=mE a b P Q va vb w ha hb;have HC:=aZv hC;clear hC;obtain ⟨A,c,rfl,h1,h2,h3,h4⟩:=ha;obtain ⟨A',c',rfl,h1',h2',h3',h4'⟩:=hb;clear h3 h3' h4 h4';go_enter Tryz.func25,Tryz.ntmps25;go_wp2_with fail;refine (kG _ _ _).mono ?_;rintro e w' ⟨rfl,rfl⟩;go_wp2_with fail;refine HC.out.mono ?_;rintro e w' ⟨rfl,n,rfl⟩;go_wp2_with fail;refine (aS0 (iN a.length b.length) (iZ a b) _ _ ?_ ?_).mono ?_
 ·exact iU (w.drewN n) _ _ _ 0
 ·exact iU (w.drewN n) _ _ _ 1
 rintro e w' ⟨rfl,rfl⟩;go_wp2_with fail;go_ret;refine ⟨aL ?_,?_⟩
 ·unfold orI gP;rfl
 exact (Ext.drewN w n).alloc U _
end Go.Proofs.YtkoeecdjijfjnaaGreat
