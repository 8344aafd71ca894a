/- Contracts of functions. Conditions: none. -/
import Derived.WalkKit
import Derived.WalkSpells
import Derived.WalkLawsBesides
import Derived.Lib.Hide
import Derived.Deep.Draws
import Derived.Deep.QuietTactic
import Derived.BigQuiet
import Derived.StillTailTactics
import Derived.Laws.OwnMore
import Derived.Laws.Rows
import Derived.Test.YtkoeecdjijfjnaaGreatProg
import Derived.Test.YtkoeecdjijfjnaaGreatZ0
set_option maxRecDepth 100000
set_option maxHeartbeats 8000000
namespace Go.Proofs.YtkoeecdjijfjnaaGreat
open Go.RowKit
def I64 (n:Int):Prop:=-9223372036854775808<=n∧n<=9223372036854775807
abbrev Ext (w w':World):Prop:=Below w.heap.size w w'
theorem Ext.trans' {a b c:World}(h:Ext a b)(k:Ext b c):Ext a c:=Below.trans h (Below.mono k h.size)
theorem Ext.drewN (w:World)(n:Nat):Ext w (w.drewN n):=⟨rfl,rfl,rfl,Nat.le_refl _,fun _ _=>rfl⟩
theorem fV (w:World)(cs:Array Value)(t:TypeId)(fr:Nat × Nat)(i:Nat):(w.alloc (.cells cs t fr)).cell? ⟨w.heap.size,i,none⟩=cs[i]?:=by
 have:(w.alloc (.cells cs t fr)).heap[w.heap.size]?=some (.cells cs t fr):=heap_alloc_new w _;simp only [World.cell?,this];simp
theorem Ext.refl (w:World):Ext w w:=Below.refl _ _
theorem Ext.alloc' {w w1:World}(h:Ext w w1)(o:Obj):Ext w (w1.alloc o):=Below.alloc h h.size o
theorem Ext.drewN' {w w1:World}(h:Ext w w1)(n:Nat):Ext w (w1.drewN n):=⟨h.os,h.tape,h.output,h.size,h.block⟩
theorem Ext.drew' {w w1:World}(h:Ext w w1):Ext w w1.drew:=⟨h.os,h.tape,h.output,h.size,h.block⟩
theorem Ext.setCell' {w w1:World}(h:Ext w w1){p:Addr}(hp:w.heap.size<=p.block)(u:Value):Ext w (w1.setCell p u):=Below.setCell h hp u
def Sl (w:World)(P:Nat->Prop)(size:Nat)(A:Option Addr)(n:Nat)(cs:List Value):Prop :=
 cs.length=n*size∧(0<n->∃ b off,A=some ⟨b,off,none⟩∧P b∧∀ j u,cs[j]?=some u->w.cell? ⟨b,off+j,none⟩=some u)
theorem aQ {w:World}{b off:Nat}{u:Value}(h:w.cell? ⟨b,off,none⟩=some u):b<w.heap.size:=by
 rcases Nat.lt_or_ge b w.heap.size with h1 | h1
 ·exact h1
 ·have:w.heap[b]?=none:=Array.getElem?_eq_none h1
  simp [World.cell?,this] at h
def aB (P:Nat->Prop)(w w':World):Prop:=∀ b,b<w.heap.size->P b->w'.heap[b]?=w.heap[b]?
theorem aB.of_ext {P:Nat->Prop}{w w':World}(h:Ext w w'):aB P w w':=fun b hb _=>h.block b hb
theorem Sl.keep {w w':World}{P Q:Nat->Prop}{size:Nat}{A:Option Addr}{n:Nat}{cs:List Value}(h:Sl w P size A n cs)
  (hk:aB P w w')(hPQ:∀ b,P b->Q b):Sl w' Q size A n cs :=
 ⟨h.1,fun hn=>by
  obtain ⟨b,off,e,hb,hc⟩:=h.2 hn;exact ⟨b,off,e,hPQ b hb,fun j u hu=>(World.cell?_of_block (w:=w) (w':=w') (hk b (aQ (hc j u hu)) hb)).trans (hc j u hu)⟩⟩
def aU (w:World)(P:Nat->Prop)(v:Value)(l:List Int):Prop :=
 ∃ A c,v=.slice A l.length c∧l.length<=c∧(l.length<=17592186044416∧c<=9223372036854775807)∧(∀ x ∈ l,I64 x)∧Sl w P 1 A l.length (l.map (Value.int .i64))
theorem aU.keep {w w':World}{P Q:Nat->Prop}{v:Value}{l:List Int}(h:aU w P v l)
  (hk:aB P w w')(hPQ:∀ b,P b->Q b):aU w' Q v l:=by
 obtain ⟨A,c,hv,h1,h2,h3,h4⟩:=h;exact ⟨A,c,hv,h1,h2,h3,h4.keep hk hPQ⟩
theorem aU.ext {w w':World}{P:Nat->Prop}{v:Value}{l:List Int}(h:aU w P v l)(hx:Ext w w'):aU w' P v l:=h.keep (aB.of_ext hx) (fun _ h=>h)
theorem mG (w:World)(cs:Array Value)(t:TypeId)(fr:Nat × Nat)(i b:Nat)(hb:b=w.heap.size){u:Option Value}(hu:cs[i]?=u):(w.alloc (.cells cs t fr)).cell? ⟨b,i,none⟩=u:=by
 subst hb;rw [fV];exact hu
theorem aA {w w':World}(hx:Ext w w'){b off:Nat}{u:Value}(h:w.cell? ⟨b,off,none⟩=some u):w'.cell? ⟨b,off,none⟩=some u:=by
 rw [<- h];exact hx.cell (p:=⟨b,off,none⟩) (aQ h)
theorem iV {w:World}{b off:Nat}{u:Option Value}(h:w.cell? ⟨b,off,none⟩=u)(o:Obj):b<w.heap.size->(w.alloc o).cell? ⟨b,off,none⟩=u:=fun hb=>by
 rw [<- h];exact World.cell?_alloc_lt w o _ hb
structure Fr (M:Nat->Prop)(w w':World):Prop where
 os:w'.os=w.os
 tape:w'.tape=w.tape
 output:w'.output=w.output
 size:w.heap.size<=w'.heap.size
 block:∀ k,k<w.heap.size->¬ M k->w'.heap[k]?=w.heap[k]?
theorem Fr.refl (M:Nat->Prop)(w:World):Fr M w w:=⟨rfl,rfl,rfl,Nat.le_refl _,fun _ _ _=>rfl⟩
theorem Fr.of_ext {M:Nat->Prop}{w w':World}(h:Ext w w'):Fr M w w':=⟨h.os,h.tape,h.output,h.size,fun k hk _=>h.block k hk⟩
theorem Fr.ext {w w':World}(h:Fr (fun _=>False) w w'):Ext w w':=⟨h.os,h.tape,h.output,h.size,fun k hk=>h.block k hk (fun h=>h)⟩
theorem Fr.trans {M:Nat->Prop}{a b c:World}(h:Fr M a b)(k:Fr M b c):Fr M a c :=
 ⟨k.os.trans h.os,k.tape.trans h.tape,k.output.trans h.output,Nat.le_trans h.size k.size,fun i hi hm=>(k.block i (Nat.lt_of_lt_of_le hi h.size) hm).trans (h.block i hi hm)⟩
theorem Fr.trans_new {M:Nat->Prop}{a b c:World}(h:Fr M a b)(k:Fr (fun i=>M i∨a.heap.size<=i) b c):Fr M a c :=
 ⟨k.os.trans h.os,k.tape.trans h.tape,k.output.trans h.output,Nat.le_trans h.size k.size,fun i hi hm=>(k.block i (Nat.lt_of_lt_of_le hi h.size) (fun h=>h.elim hm (fun h=>by omega))).trans (h.block i hi hm)⟩
theorem Fr.mono {M N:Nat->Prop}{w w':World}(h:Fr M w w')(hMN:∀ b,M b->N b):Fr N w w':=⟨h.os,h.tape,h.output,h.size,fun k hk hn=>h.block k hk (fun hm=>hn (hMN k hm))⟩
theorem Fr.alloc {M:Nat->Prop}{w w1:World}(h:Fr M w w1)(o:Obj):Fr M w (w1.alloc o):=h.trans (Fr.of_ext ((Ext.refl _).alloc' o))
theorem Fr.drewN {M:Nat->Prop}{w w1:World}(h:Fr M w w1)(n:Nat):Fr M w (w1.drewN n):=h.trans (Fr.of_ext ((Ext.refl _).drewN' n))
theorem Fr.drew {M:Nat->Prop}{w w1:World}(h:Fr M w w1):Fr M w w1.drew:=h.trans (Fr.of_ext (Ext.refl _).drew')
theorem Fr.setCell {M:Nat->Prop}{w w1:World}(h:Fr M w w1){p:Addr}(hp:M p.block∨w.heap.size<=p.block)(u:Value):Fr M w (w1.setCell p u) :=
 h.trans_new ⟨rfl,rfl,rfl,eh,fun k _ hk=>Below.heap_setCell _ _ _ _ (fun e=>hk (e ▸ hp))⟩
theorem Fr.new_ext {M:Nat->Prop}{w w':World}(h:Fr M w w')(hM:∀ b,M b->w.heap.size<=b):Ext w w':=⟨h.os,h.tape,h.output,h.size,fun k hk=>h.block k hk (fun hm=>by have:=hM k hm;omega)⟩
theorem aB.of_fr {P M:Nat->Prop}{w w':World}(h:Fr M w w')(hPM:∀ b,P b->¬ M b):aB P w w':=fun b hb hp=>h.block b hb (hPM b hp)
def Blk (w:World)(g:Nat)(t:TypeId)(cs:Array Value):Prop:=w.heap[g]?=some (.cells cs t (0,0))
section
variable {w w':World}{g:Nat}{t:TypeId}{cs:Array Value}
theorem Blk.lt (h:Blk w g t cs):g<w.heap.size:=by
 rcases Nat.lt_or_ge g w.heap.size with hlt | hge
 ·exact hlt
 ·unfold Blk at h;rw [Array.getElem?_eq_none hge] at h;cases h
theorem Blk.cell (h:Blk w g t cs)(i:Nat):w.cell? ⟨g,i,none⟩=cs[i]?:=cell_of_row w g i cs t (0,0) h
theorem Blk.cell' (h:Blk w g t cs)(i:Nat){u:Value}(hu:cs[i]?=some u):w.cell? ⟨g,i,none⟩=some u:=(h.cell i).trans hu
theorem Blk.frozen (h:Blk w g t cs)(i:Nat):w.frozen? ⟨g,i,none⟩=false:=by
 unfold Blk at h;simp [World.frozen?,h]
theorem Blk.new (w:World)(t:TypeId)(cs:Array Value):Blk (w.alloc (.cells cs t)) w.heap.size t cs:=heap_alloc_new w _
theorem Blk.new' (w:World)(t:TypeId)(cs:Array Value){g:Nat}(hg:g=w.heap.size):Blk (w.alloc (.cells cs t)) g t cs:=by subst hg;exact heap_alloc_new w _
theorem Blk.drew (h:Blk w g t cs):Blk w.drew g t cs:=h
theorem Blk.drewN (h:Blk w g t cs)(n:Nat):Blk (w.drewN n) g t cs:=h
theorem Blk.alloc (h:Blk w g t cs)(o:Obj):Blk (w.alloc o) g t cs:=(Below.heap_alloc w o g h.lt).trans h
theorem Blk.set_ (h:Blk w g t cs)(i:Nat)(u:Value):Blk (w.setCell ⟨g,i,none⟩ u) g t (cs.setIfInBounds i u):=by
 unfold Blk at h ⊢;simp [World.setCell,Array.getElem?_modify,h]
theorem Blk.far (h:Blk w g t cs){p:Addr}(hp:g ≠ p.block)(u:Value):Blk (w.setCell p u) g t cs:=(Below.heap_setCell w p u g hp).trans h
theorem Blk.fr {M:Nat->Prop}(h:Blk w g t cs)(hb:Fr M w w')(hg:¬ M g):Blk w' g t cs:=(hb.block g h.lt hg).trans h
theorem Blk.ext (h:Blk w g t cs)(hb:Ext w w'):Blk w' g t cs:=(hb.block g h.lt).trans h
end
end Go.Proofs.YtkoeecdjijfjnaaGreat
namespace Go.Proofs.YtkoeecdjijfjnaaGreat
def jE (n m:Int):Int:=if n<0 then (-(n+1)) % m else n % m
theorem nD {n m:Int}(hm:1<=m):0<=jE n m∧jE n m<m:=by
 unfold jE
 split
 ·exact ⟨Int.emod_nonneg _ U,Int.emod_lt_of_pos _ U⟩
 ·exact ⟨Int.emod_nonneg _ U,Int.emod_lt_of_pos _ U⟩
def iN (a b:Int):Int:=if a<b then -1 else if b<a then 1 else 0
def jD:List Int->List Int->Int
 | [],[]=>0
 | [],_ :: _=>-1
 | _ :: _,[]=>1
 | a :: l,b :: m=>if iN a b=0 then jD l m else iN a b
def gN (a b:List Int):Int:=if iN a.length b.length=0 then jD a b else iN a.length b.length
theorem aG {α:Type}{l:List α}{k:Nat}(d:α)(h:k<l.length):l.drop k=l.getD k d :: l.drop (k+1):=by
 rw [List.drop_eq_getElem_cons h];simp [h]
theorem drop_nil {α:Type}{l:List α}{k:Nat}(h:l.length<=k):l.drop k=[]:=List.drop_eq_nil_of_le h
theorem aX {α:Type}{l:List α}{k:Nat}(d:α)(h:k<l.length):l.take (k+1)=l.take k ++ [l.getD k d]:=by
 rw [List.take_succ_eq_append_getElem h];simp [h]
theorem aLu {x y:Int}(h:x<y):iN x y=-1:=by unfold iN;rw [if_pos h]
theorem aLv {x y:Int}(h:y<x):iN x y=1:=by unfold iN;rw [if_neg U,if_pos h]
theorem aE4 {x y:Int}(h:¬ x<y)(h':¬ y<x):iN x y=0:=by unfold iN;rw [if_neg h,if_neg h']
theorem aLr {x y:Int}(h:x<y)(xs ys:List Int):jD (x :: xs) (y :: ys)=-1:=by simp [jD,aLu h]
theorem aLs {x y:Int}(h:y<x)(xs ys:List Int):jD (x :: xs) (y :: ys)=1:=by simp [jD,aLv h]
theorem aLt {x y:Int}(h:¬ x<y)(h':¬ y<x)(xs ys:List Int):jD (x :: xs) (y :: ys)=jD xs ys:=by simp [jD,aE4 h h']
end Go.Proofs.YtkoeecdjijfjnaaGreat
namespace Go.Proofs.YtkoeecdjijfjnaaGreat
open Go.RowKit
theorem cT {w:World}{b off:Nat}{l:List Int}{k:Nat}(hk:k<l.length)
   (hc:∀ j u,(l.map (Value.int .i64))[j]?=some u->w.cell? ⟨b,off+j,none⟩=some u):w.cell? ⟨b,off+k,none⟩=some (.int .i64 (l.getD k 0)):=by
 apply hc;simp [hk]
theorem aH {k:IntKind}{a b:Int}(h:a=b):Ending.returned (.int k a)=.returned (.int k b):=by rw [h]
theorem aC {a b:Bool}(h:a=b):Ending.returned (.bool a)=.returned (.bool b):=by rw [h]
def aRd (v:Value)(w:World)(e:Ending)(w':World):Prop:=e=.returned v∧∃ n,w'=w.drewN n
theorem nE (n m:Int)(w:World)(hn:I64 n)(hm:1<=m)(hm2:m<=9223372036854775807) :
  Calls Tryz.prog 9 #[↑n,↑m] w fun e w'=>e=.returned (.int .i64 (jE n m))∧w=w':=by
 obtain ⟨hn1,hn2⟩:=hn
 by_cases h0:n<0
 ·go_enter Tryz.func9,Tryz.ntmps9
  go_wp2;go_ret;refine ⟨aH ?_,rfl⟩;unfold jE;rw [if_pos h0,<- Int.neg_tmod,Int.tmod_eq_emod_of_nonneg U]
 ·go_enter Tryz.func9,Tryz.ntmps9
  go_wp2;go_ret;refine ⟨aH ?_,rfl⟩;unfold jE;rw [if_neg U]
theorem aEe (n:Int)(w:World) :
  Calls Tryz.prog 113 #[↑n] w fun e w'=>e=.returned (.bool false)∧w=w':=by
 go_enter Tryz.func113,Tryz.ntmps113;go_wp2;go_ret;exact ⟨rfl,rfl⟩
theorem kK (a b:Int)(w:World) :
  Calls Tryz.prog 62 #[↑a,↑b] w fun e w'=>e=.returned (.int .i64 (iN a b))∧w=w':=by
 go_enter Tryz.func62,Tryz.ntmps62;go_wp2_with (go_at_call 113;refine (aEe _ _).mono ?_;rintro e w' ⟨rfl,rfl⟩)
 all_goals
  go_ret;refine ⟨aH ?_,rfl⟩;unfold iN
 ·rw [if_pos ba]
 ·rw [if_neg U,if_pos ba]
 ·rw [if_neg U,if_neg U]
def aL4 (a b:List Int)(w:World)(i:Value)(wr:World):Prop:=∃ k n:Nat,k<=a.length∧i=↑k∧wr=w.drewN n∧a.take k=b.take k
theorem jQ (a b:List Int)(P Q:Nat->Prop)(va vb:Value)(w:World)(ha:aU w P va a)(hb:aU w Q vb b) :
  Calls Tryz.prog 24 #[va,vb] w (aRd (.bool (decide (a=b))) w):=by
 obtain ⟨A,c,rfl,h1,h2,h3,h4⟩:=ha;obtain ⟨A',c',rfl,h1',h2',h3',h4'⟩:=hb;clear h3 h3';have H4:=aYl h4;have H4':=aYl h4';clear h4 h4';generalize hna:a.length=na at *;generalize hnb:b.length=nb at *;have HA:=aYl hna;have HB:=aYl hnb;clear hna hnb
 by_cases hl:na=nb
 ·subst hl
  go_enter Tryz.func24,Tryz.ntmps24;go_wp2;go_loopw [5] (fun i wr=>aL4 a b w i wr) (fun i _=>na - (intOf i).toNat)
  case atStart=>exact ⟨0,0,Nat.zero_le _,rfl,rfl,rfl⟩
  case round =>
   obtain ⟨k,n,hk,rfl,rfl,ht⟩:=hrel;rw [HA.out] at hk;have HT:=aYl ht;clear ht
   by_cases hlt:k<na
   ·obtain ⟨b1,o1,rfl,-,hc1⟩:=H4.out.2 U
    obtain ⟨b2,o2,rfl,-,hc2⟩:=H4'.out.2 U;have g1:=cT (k:=k) gq hc1;have g2:=cT (k:=k) (by rw [HB.out];omega) hc2;clear hc1 hc2;generalize hx:a.getD k 0=x at *;generalize hy:b.getD k 0=y at *;have HX:=aYl hx;have HY:=aYl hy;clear hx hy
    by_cases hxy:x=y
    ·subst hxy
     go_wp2;go_quiet (fail);go_wp2;go_roundw
     case rel =>
      refine ⟨k+1,_,gq,by go_num,rfl,?_⟩;rw [aX 0 gq,aX 0 (by rw [HB.out];omega),HT.out,HX.out,HY.out]
     case measure=>simp [intOf];omega
    ·have hxy':(x != y)=true:=by simp [hxy]
     have HN:=aYl hxy;clear hxy;go_wp2;go_quiet (fail);go_wp2;go_ret;refine ⟨aC ?_,_,World.drewN_drewN _ _ _⟩
     symm
     rw [decide_eq_false_iff_not];rintro rfl;exact HN.out (HX.out.symm.trans HY.out)
   ·go_wp2
    go_ret;refine ⟨aC ?_,_,rfl⟩;have:=HT.out;rw [List.take_of_length_le gq,List.take_of_length_le (by rw [HB.out];omega)] at this;simp [this]
 ·have hl':((na:Int) != (nb:Int))=true:=by simp;omega
  go_enter Tryz.func24,Tryz.ntmps24;go_wp2;go_ret;refine ⟨aC ?_,0,rfl⟩
  symm
  rw [decide_eq_false_iff_not];rintro rfl;exact hl (HA.out.symm.trans HB.out)
def tP (l:List Int)(i m:Int):Int:=if i<0∨(l.length:Int)<=i then 0 else jE (l.getD i.toNat 0) m
theorem kB {l:List Int}{i m:Int}(hm:1<=m):0<=tP l i m∧tP l i m<m:=by
 unfold tP
 split
 ·omega
 ·exact nD hm
theorem aBm {l:List Int}(h:∀ x ∈ l,I64 x)(k:Nat):I64 (l.getD k 0):=by
 by_cases hk:k<l.length
 ·have:l.getD k 0=l[k]:=by simp [hk]
  rw [this];exact h _ (List.getElem_mem hk)
 ·have:l.getD k 0=0:=by simp [hk]
  rw [this];unfold I64;omega
theorem kC (l:List Int)(i m:Int)(P:Nat->Prop)(v:Value)(w:World)(hv:aU w P v l)(hi:I64 i)(hm:1<=m)(hm2:m<=9223372036854775807) :
  Calls Tryz.prog 38 #[v,↑i,↑m] w fun e w'=>e=.returned (.int .i64 (tP l i m))∧w=w':=by
 obtain ⟨A,c,rfl,h1,h2,h3,h4⟩:=hv;obtain ⟨hi1,hi2⟩:=hi
 by_cases h0:i<0
 ·go_enter Tryz.func38,Tryz.ntmps38
  go_wp2;go_ret;exact ⟨aH (by unfold tP;rw [if_pos U]),rfl⟩
 ·by_cases h5:(l.length:Int)<=i
  ·have h0':decide (i<0)=false:=by simpa using h0
   go_enter Tryz.func38,Tryz.ntmps38;go_wp2;go_ret;exact ⟨aH (by unfold tP;rw [if_pos U]),rfl⟩
  ·obtain ⟨k,rfl⟩:=Int.eq_ofNat_of_zero_le (show 0<=i by omega)
   have hk:k<l.length:=U
   obtain ⟨b1,o1,rfl,-,hc1⟩:=h4.2 U;have g1:=cT hk hc1;have hx:=aBm h3 k
   have hr:tP l k m=jE (l.getD k 0) m:=by
    unfold tP;rw [if_neg U]
    rfl
   rw [hr];clear hr h3 hc1;generalize l.getD k 0=x at *;go_enter Tryz.func38,Tryz.ntmps38;go_wp2_with (go_at_call 9;refine (nE _ _ _ hx hm hm2).mono ?_;rintro e w' ⟨rfl,rfl⟩);go_ret;exact ⟨rfl,rfl⟩
def aJk (a b:List Int)(w:World)(i:Value)(wr:World):Prop:=∃ k n:Nat,k<=a.length∧k<=b.length∧i=↑k∧wr=w.drewN n∧jD a b=jD (a.drop k) (b.drop k)
theorem mT (a b:List Int)(P Q:Nat->Prop)(va vb:Value)(w:World)(ha:aU w P va a)(hb:aU w Q vb b) :
  Calls Tryz.prog 63 #[va,vb] w (aRd (.int .i64 (jD a b)) w):=by
 obtain ⟨A,c,rfl,h1,h2,h3,h4⟩:=ha;obtain ⟨A',c',rfl,h1',h2',h3',h4'⟩:=hb;clear h3 h3';have H4:=aYl h4;have H4':=aYl h4';clear h4 h4';go_enter Tryz.func63,Tryz.ntmps63;go_wp2;go_loopw [11] (fun i wr=>aJk a b w i wr) (fun i _=>a.length - (intOf i).toNat)
 case atStart=>exact ⟨0,0,Nat.zero_le _,Nat.zero_le _,rfl,rfl,rfl⟩
 case round =>
  obtain ⟨k,n,hk,hk',rfl,rfl,ht⟩:=hrel;have HT:=aYl ht;clear ht
  by_cases hlt:k<a.length
  ·obtain ⟨b1,o1,rfl,-,hc1⟩:=H4.out.2 U
   have g1:=cT hlt hc1
   by_cases hlt':k<b.length
   ·obtain ⟨b2,o2,rfl,-,hc2⟩:=H4'.out.2 U
    have g2:=cT hlt' hc2;clear hc1 hc2
    have HD:=aYl (show jD a b=jD (a.getD k 0 :: a.drop (k+1)) (b.getD k 0 :: b.drop (k+1)) by
     rw [HT.out,<- aG 0 hlt,<- aG 0 hlt'])
    generalize a.getD k 0=x at *;generalize b.getD k 0=y at *;go_wp2_with (go_at_call 62;refine (kK _ _ _).mono ?_;rintro e w' ⟨rfl,rfl⟩)
    ·rename_i hz
     go_ret;refine ⟨aH ?_,_,rfl⟩;rw [HD.out];simp only [jD];rw [if_neg bj]
    ·rename_i hz
     go_roundw
     case rel =>
      refine ⟨k+1,n,U,U,by go_num,rfl,?_⟩;rw [HD.out];simp only [jD];rw [if_pos bj]
     case measure=>simp [intOf];omega
   ·clear hc1
    go_wp2;go_ret;refine ⟨aH ?_,_,rfl⟩;rw [HT.out,drop_nil (l:=b) U,aG 0 hlt]
    rfl
  ·by_cases hlt':k<b.length
   ·go_wp2
    go_ret;refine ⟨aH ?_,_,rfl⟩;rw [HT.out,drop_nil (l:=a) U,aG 0 hlt']
    rfl
   ·go_wp2
    go_ret;refine ⟨aH ?_,_,rfl⟩;rw [HT.out,drop_nil (l:=a) U,drop_nil (l:=b) U]
    rfl
theorem qX (a b:List Int)(P Q:Nat->Prop)(va vb:Value)(w:World)(ha:aU w P va a)(hb:aU w Q vb b) :
  Calls Tryz.prog 105 #[va,vb] w (aRd (.int .i64 (gN a b)) w):=by
 obtain ⟨A,c,rfl,h1,h2,h3,h4⟩:=ha;obtain ⟨A',c',rfl,h1',h2',h3',h4'⟩:=hb;clear h3 h3';have H4:=aYl h4;have H4':=aYl h4';clear h4 h4'
 by_cases hl1:a.length<b.length
 ·go_enter Tryz.func105,Tryz.ntmps105
  go_wp2;go_ret;refine ⟨aH ?_,0,rfl⟩;simp [gN,iN,hl1]
 by_cases hl2:b.length<a.length
 ·go_enter Tryz.func105,Tryz.ntmps105
  go_wp2;go_ret;refine ⟨aH ?_,0,rfl⟩;simp [gN,iN,hl1,hl2]
 have HP:=aYl (show gN a b=jD a b by unfold gN;rw [if_pos (by unfold iN;rw [if_neg U,if_neg U])]);go_enter Tryz.func105,Tryz.ntmps105;go_wp2;go_loopw [5] (fun i wr=>aJk a b w i wr) (fun i _=>a.length - (intOf i).toNat)
 case atStart=>exact ⟨0,0,Nat.zero_le _,Nat.zero_le _,rfl,rfl,rfl⟩
 case round =>
  obtain ⟨k,n,hk,hk',rfl,rfl,ht⟩:=hrel;have HT:=aYl ht;clear ht
  by_cases hlt:k<a.length
  ·have hlt':k<b.length:=by omega
   obtain ⟨b1,o1,rfl,-,hc1⟩:=H4.out.2 U;have g1:=cT hlt hc1;obtain ⟨b2,o2,rfl,-,hc2⟩:=H4'.out.2 U;have g2:=cT hlt' hc2;clear hc1 hc2
   have HD:=aYl (show jD a b=jD (a.getD k 0 :: a.drop (k+1)) (b.getD k 0 :: b.drop (k+1)) by
    rw [HT.out,<- aG 0 hlt,<- aG 0 hlt'])
   generalize a.getD k 0=x at *;generalize b.getD k 0=y at *
   by_cases hxy:x<y
   ·go_wp2
    go_quiet (fail);go_wp2;go_ret;refine ⟨aH ?_,_,World.drewN_drewN _ _ _⟩;rw [HP.out,HD.out,aLr U]
   by_cases hyx:y<x
   ·go_wp2
    go_quiet (fail);go_wp2;go_quiet (fail);go_wp2;go_ret;refine ⟨aH ?_,_,(congrArg (World.drewN · _) (World.drewN_drewN _ _ _)).trans (World.drewN_drewN _ _ _)⟩;rw [HP.out,HD.out,aLs U]
   go_wp2;go_quiet (fail);go_wp2;go_quiet (fail);go_wp2;go_roundw
   case rel =>
    refine ⟨k+1,_,U,U,by go_num,rfl,?_⟩;rw [HD.out,aLt U U]
   case measure=>simp [intOf];omega
  ·go_wp2
   go_ret;refine ⟨aH ?_,_,rfl⟩;rw [HP.out,HT.out,drop_nil (l:=a) U,drop_nil (l:=b) U]
   rfl
def orI (x y:Int):Int:=if x=0 then y else x
theorem aPg (x y:Int)(b:Nat)(w:World)(hc0:w.cell? ⟨b,0,none⟩=some (↑x))(hc1:w.cell? ⟨b,1,none⟩=some (↑y)) :
  Calls Tryz.prog 61 #[.slice (some ⟨b,0,none⟩) 2 2] w fun e w'=>e=.returned (.int .i64 (orI x y))∧w=w':=by
 go_enter Tryz.func61,Tryz.ntmps61;go_wp2;refine wp_loop_rounds 3 ?_;rw [rounds_succ]
 by_cases hx:x=0
 ·subst hx
  go_wp2;rw [rounds_succ]
  by_cases hy:y=0
  ·subst hy
   go_wp2;rw [rounds_succ];go_wp2;go_ret;exact ⟨rfl,rfl⟩
  ·have hy':(y != 0)=true:=by simp [hy]
   go_wp2;go_ret;exact ⟨rfl,rfl⟩
 ·have hx':(x != 0)=true:=by simp [hx]
  go_wp2;go_ret;exact ⟨aH (by unfold orI;rw [if_neg hx]),rfl⟩
def dV (v:Value)(w:World)(e:Ending)(w':World):Prop:=e=.returned v∧Ext w w'
theorem nS (a b:List Int)(P Q:Nat->Prop)(va vb:Value)(w:World)(ha:aU w P va a)(hb:aU w Q vb b) :
  Calls Tryz.prog 25 #[va,vb] w (dV (.int .i64 (gN a b)) w):=by
 have hC:=mT a b P Q va vb w ha hb;have HC:=aYl hC;clear hC;obtain ⟨A,c,rfl,h1,h2,h3,h4⟩:=ha;obtain ⟨A',c',rfl,h1',h2',h3',h4'⟩:=hb;clear h3 h3' h4 h4';go_enter Tryz.func25,Tryz.ntmps25;go_wp2_with fail;refine (kK _ _ _).mono ?_;rintro e w' ⟨rfl,rfl⟩;go_wp2_with fail;refine HC.out.mono ?_;rintro e w' ⟨rfl,n,rfl⟩;go_wp2_with fail;refine (aPg (iN a.length b.length) (jD a b) _ _ ?_ ?_).mono ?_
 ·exact fV (w.drewN n) _ _ _ 0
 ·exact fV (w.drewN n) _ _ _ 1
 rintro e w' ⟨rfl,rfl⟩;go_wp2_with fail;go_ret;refine ⟨aH ?_,?_⟩
 ·unfold orI gN;rfl
 exact (Ext.drewN w n).alloc Y _
end Go.Proofs.YtkoeecdjijfjnaaGreat
namespace Go.Proofs.YtkoeecdjijfjnaaGreat
open Go.RowKit
inductive GV:Type where
 | mk (kind n:Int) (s:ByteArray) (kids:List GV)
def GV.kind:GV->Int | .mk k _ _ _=>k
def GV.n:GV->Int | .mk _ n _ _=>n
def GV.s:GV->ByteArray | .mk _ _ s _=>s
def GV.kids:GV->List GV | .mk _ _ _ l=>l
instance:Inhabited GV:=⟨.mk 0 0 ByteArray.empty []⟩
def CAP:Nat:=17592186044416
mutual
def RV (w:World)(P:Nat->Prop):GV->List Value->Prop
 | .mk k n s kids,cs=>I64 k∧I64 n∧s.size<=17592186044416∧∃ A c css,cs=[.int .i64 k,.int .i64 n,.string s,.slice A kids.length c]∧kids.length<=c∧(kids.length<=17592186044416∧c<=9223372036854775807) ∧
   Sl w P 4 A kids.length css∧RVs w P kids css
def RVs (w:World)(P:Nat->Prop):List GV->List Value->Prop
 | [],cs=>cs=[]
 | x :: xs,cs=>∃ c1 c2,cs=c1 ++ c2∧RV w P x c1∧RVs w P xs c2
end
def bV (w:World)(P:Nat->Prop)(v:Value)(l:List GV):Prop :=
 ∃ A c css,v=.slice A l.length c∧l.length<=c∧(l.length<=17592186044416∧c<=9223372036854775807)∧Sl w P 4 A l.length css∧RVs w P l css
theorem RV.mk_iff {w:World}{P:Nat->Prop}{k n:Int}{s:ByteArray}{kids:List GV}{cs:List Value} :
  RV w P (.mk k n s kids) cs ↔ I64 k∧I64 n∧s.size<=17592186044416∧∃ v,cs=[.int .i64 k,.int .i64 n,.string s,v]∧bV w P v kids:=by
 unfold RV bV
 constructor
 ·rintro ⟨h1,h2,h3,A,c,css,rfl,h4⟩
  exact ⟨h1,h2,h3,_,rfl,A,c,css,rfl,h4⟩
 ·rintro ⟨h1,h2,h3,v,rfl,A,c,css,rfl,h4⟩
  exact ⟨h1,h2,h3,A,c,css,rfl,h4⟩
theorem RV.open_ {w:World}{P:Nat->Prop}{x:GV}{cs:List Value}(h:RV w P x cs) :
  I64 x.kind∧I64 x.n∧x.s.size<=17592186044416∧∃ v,cs=[.int .i64 x.kind,.int .i64 x.n,.string x.s,v]∧bV w P v x.kids:=by
 obtain ⟨k,n,s,kids⟩:=x;exact RV.mk_iff.1 h
theorem RV.len {w:World}{P:Nat->Prop}{x:GV}{cs:List Value}(h:RV w P x cs):cs.length=4:=by
 obtain ⟨k,n,s,kids⟩:=x;obtain ⟨_,_,_,v,rfl,_⟩:=RV.mk_iff.1 h
 rfl
theorem RVs.len {w:World}{P:Nat->Prop}{l:List GV}{cs:List Value}(h:RVs w P l cs):cs.length=l.length*4:=by
 induction l generalizing cs with
 | nil=>simp only [RVs] at h;subst h;rfl
 | cons x xs ih =>
  simp only [RVs] at h;obtain ⟨c1,c2,rfl,h1,h2⟩:=h;have:=ih h2;have:=h1.len;simp only [List.length_append,List.length_cons];omega
mutual
theorem RV.keep {w w':World}{P Q:Nat->Prop}(hk:aB P w w')(hPQ:∀ b,P b->Q b):∀ {x:GV}{cs:List Value},RV w P x cs->RV w' Q x cs
 | .mk k n s kids,cs,h=>by
  simp only [RV] at h ⊢;obtain ⟨h1,h2,h3,A,c,css,h4,h5,h6,h7,h8⟩:=h;exact ⟨h1,h2,h3,A,c,css,h4,h5,h6,h7.keep hk hPQ,RVs.keep hk hPQ h8⟩
theorem RVs.keep {w w':World}{P Q:Nat->Prop}(hk:aB P w w')(hPQ:∀ b,P b->Q b):∀ {l:List GV}{cs:List Value},RVs w P l cs->RVs w' Q l cs
 | [],cs,h=>by simp only [RVs] at h ⊢;exact h
 | x :: xs,cs,h=>by
  simp only [RVs] at h ⊢;obtain ⟨c1,c2,h1,h2,h3⟩:=h;exact ⟨c1,c2,h1,RV.keep hk hPQ h2,RVs.keep hk hPQ h3⟩
end
theorem bV.keep {w w':World}{P Q:Nat->Prop}{v:Value}{l:List GV}(h:bV w P v l)(hk:aB P w w')(hPQ:∀ b,P b->Q b):bV w' Q v l:=by
 obtain ⟨A,c,css,h1,h2,h3,h4,h5⟩:=h;exact ⟨A,c,css,h1,h2,h3,h4.keep hk hPQ,RVs.keep hk hPQ h5⟩
theorem bV.ext {w w':World}{P:Nat->Prop}{v:Value}{l:List GV}(h:bV w P v l)(hx:Ext w w'):bV w' P v l:=h.keep (aB.of_ext hx) (fun _ h=>h)
theorem RVs.append {w:World}{P:Nat->Prop}{a b:List GV}{ca cb:List Value}(ha:RVs w P a ca)(hb:RVs w P b cb):RVs w P (a ++ b) (ca ++ cb):=by
 induction a generalizing ca with
 | nil=>simp only [RVs] at ha;subst ha;exact hb
 | cons x xs ih =>
  simp only [RVs] at ha;obtain ⟨c1,c2,rfl,h1,h2⟩:=ha;simp only [List.cons_append,RVs];exact ⟨c1,c2 ++ cb,Y,h1,ih h2⟩
theorem RVs.one {w:World}{P:Nat->Prop}{x:GV}{c:List Value}(h:RV w P x c):RVs w P [x] c:=by
 simp only [RVs];exact ⟨c,[],Y,h,rfl⟩
theorem RVs.drop {w:World}{P:Nat->Prop}{l:List GV}{cs:List Value}(h:RVs w P l cs)(k:Nat):RVs w P (l.drop k) (cs.drop (k*4)):=by
 induction k generalizing l cs with
 | zero=>simpa using h
 | succ k ih =>
  cases l with
  | nil=>simp only [RVs] at h;subst h;simp [RVs]
  | cons x xs =>
   simp only [RVs] at h;obtain ⟨c1,c2,rfl,h1,h2⟩:=h;have e:(k+1)*4=c1.length+k*4:=by rw [h1.len];omega
   rw [e,List.drop_length_add_append];exact ih h2
theorem RVs.take {w:World}{P:Nat->Prop}{l:List GV}{cs:List Value}(h:RVs w P l cs)(k:Nat):RVs w P (l.take k) (cs.take (k*4)):=by
 induction k generalizing l cs with
 | zero=>simp [RVs]
 | succ k ih =>
  cases l with
  | nil=>simp only [RVs] at h;subst h;simp [RVs]
  | cons x xs =>
   simp only [RVs] at h;obtain ⟨c1,c2,rfl,h1,h2⟩:=h;have e:(k+1)*4=c1.length+k*4:=by rw [h1.len];omega
   rw [e,List.take_length_add_append];simp only [List.take_succ_cons,RVs];exact ⟨c1,_,rfl,h1,ih h2⟩
theorem RVs.get {w:World}{P:Nat->Prop}{l:List GV}{cs:List Value}(h:RVs w P l cs){i:Nat}(hi:i<l.length) :
  RV w P (l.getD i default) ((cs.drop (i*4)).take 4):=by
 have h1:=h.drop i;rw [aG default hi] at h1;simp only [RVs] at h1;obtain ⟨c1,c2,e,h2,_⟩:=h1;rw [e,<- h2.len,List.take_left']
 ·exact h2
 ·rfl
structure VAt (w:World)(P:Nat->Prop)(x:GV)(A:Option Addr)(c:Nat):Prop where
 kind:I64 x.kind
 n:I64 x.n
 s:x.s.size<=17592186044416
 len:x.kids.length<=c
 cap:x.kids.length<=17592186044416∧c<=9223372036854775807
 kids:bV w P (.slice A x.kids.length c) x.kids
abbrev eF (x:GV)(A:Option Addr)(c:Nat):Value:=.agg #[↑x.kind,↑x.n,.string x.s,.slice A x.kids.length c]
def cellsOf (x:GV)(A:Option Addr)(c:Nat):List Value:=[.int .i64 x.kind,.int .i64 x.n,.string x.s,.slice A x.kids.length c]
theorem RV.at_ {w:World}{P:Nat->Prop}{x:GV}{cs:List Value}(h:RV w P x cs):∃ A c,cs=cellsOf x A c∧VAt w P x A c:=by
 obtain ⟨h1,h2,h3,v,rfl,h4⟩:=h.open_;have h5:=h4;obtain ⟨A,c,css,rfl,h6,h7,_⟩:=h4;exact ⟨A,c,rfl,h1,h2,h3,h6,h7,h5⟩
theorem VAt.rv {w:World}{P:Nat->Prop}{x:GV}{A:Option Addr}{c:Nat}(h:VAt w P x A c):RV w P x (cellsOf x A c):=by
 obtain ⟨k,n,s,kids⟩:=x;exact RV.mk_iff.2 ⟨h.kind,h.n,h.s,_,rfl,h.kids⟩
theorem VAt.keep {w w':World}{P Q:Nat->Prop}{x:GV}{A:Option Addr}{c:Nat}(h:VAt w P x A c)(hk:aB P w w')(hPQ:∀ b,P b->Q b):VAt w' Q x A c :=
 ⟨h.kind,h.n,h.s,h.len,h.cap,h.kids.keep hk hPQ⟩
theorem VAt.ext {w w':World}{P:Nat->Prop}{x:GV}{A:Option Addr}{c:Nat}(h:VAt w P x A c)(hx:Ext w w'):VAt w' P x A c:=h.keep (aB.of_ext hx) (fun _ h=>h)
theorem bV.at_ {w:World}{P:Nat->Prop}{v:Value}{l:List GV}(h:bV w P v l){i:Nat}(hi:i<l.length) :
  ∃ b off c A d,v=.slice (some ⟨b,off,none⟩) l.length c∧P b∧l.length<=c∧(l.length<=17592186044416∧c<=9223372036854775807)∧VAt w P (l.getD i default) A d ∧
   w.cell? ⟨b,off+i*4,none⟩=some (.int .i64 (l.getD i default).kind)∧w.cell? ⟨b,off+i*4+1,none⟩=some (.int .i64 (l.getD i default).n) ∧
   w.cell? ⟨b,off+i*4+2,none⟩=some (.string (l.getD i default).s)∧w.cell? ⟨b,off+i*4+3,none⟩=some (.slice A (l.getD i default).kids.length d):=by
 obtain ⟨A,c,css,rfl,h2,h3,h4,h5⟩:=h;obtain ⟨b,off,rfl,hb,hc⟩:=h4.2 U;obtain ⟨A',d,e,hu⟩:=(h5.get hi).at_
 have hx:∀ j,j<4->css[i*4+j]?=((css.drop (i*4)).take 4)[j]?:=by
  intro j hj;rw [List.getElem?_take,if_pos hj,List.getElem?_drop]
 unfold cellsOf at e;refine ⟨b,off,c,A',d,rfl,hb,h2,h3,hu,?_,?_,?_,?_⟩
 ·apply hc;have:=hx 0 U;rw [e] at this;simpa using this
 ·rw [Nat.add_assoc];apply hc;have:=hx 1 U;rw [e] at this;simpa using this
 ·rw [Nat.add_assoc];apply hc;have:=hx 2 U;rw [e] at this;simpa using this
 ·rw [Nat.add_assoc];apply hc;have:=hx 3 U;rw [e] at this;simpa using this
mutual
def gsz:GV->Nat
 | .mk _ _ _ l=>1+kH l
def kH:List GV->Nat
 | []=>0
 | x :: xs=>gsz x+kH xs
end
theorem tX {x:GV}{l:List GV}(h:x ∈ l):gsz x<=kH l:=by
 induction l with
 | nil=>cases h
 | cons y ys ih =>
  simp only [kH];rcases List.mem_cons.1 h with rfl | h
  ·omega
  ·have:=ih h;omega
theorem gX {x y:GV}(h:y ∈ x.kids):gsz y<gsz x:=by
 obtain ⟨k,n,s,l⟩:=x;have:=tX (l:=l) h;simp only [gsz];omega
theorem aF {α:Type}{l:List α}{i:Nat}{d:α}(h:i<l.length):l.getD i d ∈ l:=by
 have:l.getD i d=l[i]:=by simp [h]
 rw [this];exact List.getElem_mem h
def nV (a b:ByteArray):Int:=if Op.bytesLess a.toList b.toList then -1 else if a.toList=b.toList then 0 else 1
mutual
def cH:GV->GV->Int
 | .mk k n s l,.mk k' n' s' l'=>if iN k k'=0 then (if iN n n'=0 then (if nV s s'=0 then cU l l' else nV s s') else iN n n') else iN k k'
def cU:List GV->List GV->Int
 | [],[]=>0
 | [],_ :: _=>-1
 | _ :: _,[]=>1
 | x :: xs,y :: ys=>if cH x y=0 then cU xs ys else cH x y
end
theorem aE1 (x y:GV):cH x y=if iN x.kind y.kind=0 then (if iN x.n y.n=0 then (if nV x.s y.s=0 then cU x.kids y.kids else nV x.s y.s) else iN x.n y.n) else iN x.kind y.kind:=by
 obtain ⟨k,n,s,l⟩:=x;obtain ⟨k',n',s',l'⟩:=y;simp only [cH,GV.kind,GV.n,GV.s,GV.kids]
 rfl
theorem kJ (x y:GV)(xs ys:List GV):cU (x :: xs) (y :: ys)=if cH x y=0 then cU xs ys else cH x y:=by simp only [cU]
end Go.Proofs.YtkoeecdjijfjnaaGreat
namespace Go.Proofs.YtkoeecdjijfjnaaGreat
open Go.RowKit
theorem aCa (s:ByteArray)(w:World) :
  Calls Tryz.prog 199 #[.string s] w fun e w'=>e=.returned (.bool false)∧w=w':=by
 go_enter Tryz.func199,Tryz.ntmps199;go_wp2;go_ret;exact ⟨rfl,rfl⟩
theorem aCo (a b:ByteArray)(w:World) :
  Calls Tryz.prog 174 #[.string a,.string b] w fun e w'=>e=.returned (.int .i64 (nV a b))∧w=w':=by
 go_enter Tryz.func174,Tryz.ntmps174;go_wp2_with (go_at_call 199;refine (aCa _ _).mono ?_;rintro e w' ⟨rfl,rfl⟩)
 ·rename_i h1
  go_ret;exact ⟨aH (by unfold nV;rw [if_pos h1]),rfl⟩
 ·rename_i h2
  have h1:Op.bytesLess a.toList b.toList=false:=ba
  go_ret;exact ⟨aH (by unfold nV;rw [if_neg il,if_neg fz]),rfl⟩
 ·rename_i h2
  have h1:Op.bytesLess a.toList b.toList=false:=ba
  go_ret;exact ⟨aH (by unfold nV;rw [if_neg il,if_pos fz]),rfl⟩
def eM (f:Nat)(N:Nat):Prop:=∀ (x y:GV)(A B:Option Addr)(c d:Nat)(P Q:Nat->Prop)(w:World),gsz x<N->VAt w P x A c->VAt w Q y B d ->
  Calls Tryz.prog f #[eF x A c,eF y B d] w (dV (.int .i64 (cH x y)) w)
def aF0 (a b:List GV)(w:World)(i:Value)(wr:World):Prop:=∃ k:Nat,k<=a.length∧k<=b.length∧i=↑k∧Ext w wr∧cU a b=cU (a.drop k) (b.drop k)
theorem pW (N:Nat)(hS:eM 134 N)(a b:List GV)(P Q:Nat->Prop)(va vb:Value)(w:World)(ha:bV w P va a)(hb:bV w Q vb b)(hN:∀ x ∈ a,gsz x<N) :
  Calls Tryz.prog 175 #[va,vb,.func (.func 134) #[] #[]] w (dV (.int .i64 (cU a b)) w):=by
 have HA:=aYl ha;have HB:=aYl hb;obtain ⟨A,c,ca,rfl,h2,h3,h4,h5⟩:=ha;obtain ⟨A',c',cb,rfl,h2',h3',h4',h5'⟩:=hb;clear h4 h5 h4' h5';have HN:=aYl hN;clear hN;go_enter Tryz.func175,Tryz.ntmps175;go_wp2_with fail;go_loopw [13] (fun i wr=>aF0 a b w i wr) (fun i _=>a.length - (intOf i).toNat)
 case atStart=>exact ⟨0,Nat.zero_le _,Nat.zero_le _,rfl,Below.refl _ _,rfl⟩
 case round =>
  obtain ⟨k,hk,hk',rfl,hx,ht⟩:=hrel;have HT:=aYl ht;have HX:=aYl hx;clear ht hx
  by_cases hlt:k<a.length
  ·by_cases hlt':k<b.length
   ·have HD:=aYl (show cU a b=cU (a.getD k default :: a.drop (k+1)) (b.getD k default :: b.drop (k+1)) by
     rw [HT.out,<- aG default hlt,<- aG default hlt'])
    obtain ⟨b1,o1,c1,A1,d1,e1,-,-,-,hv1,g10,g11,g12,g13⟩:=(HA.out.ext HX.out).at_ hlt;obtain ⟨b2,o2,c2,A2,d2,e2,-,-,-,hv2,g20,g21,g22,g23⟩:=(HB.out.ext HX.out).at_ hlt'
    cases e1
    cases e2
    have HM:=aYl (HN.out _ (aF (d:=default) hlt));have HV1:=aYl hv1;have HV2:=aYl hv2;clear hv1 hv2;generalize a.getD k default=x at *;generalize b.getD k default=y at *;have lb2:=aQ g20;go_wp2_with fail;refine (hS x y A1 A2 d1 d2 P Q _ HM.out (HV1.out.ext (((Ext.refl _).alloc' _).alloc' _)) (HV2.out.ext (((Ext.refl _).alloc' _).alloc' _))).mono ?_;rintro e w1 ⟨rfl,hx1⟩;have HX1:=aYl hx1;clear hx1;go_wp2_with fail
    ·rename_i hz
     go_ret;refine ⟨aH ?_,((HX.out.alloc' _).alloc' _).trans' HX1.out⟩;rw [HD.out,kJ,if_neg bj]
    ·rename_i hz
     go_roundw
     case rel =>
      refine ⟨k+1,U,U,by go_num,((HX.out.alloc' _).alloc' _).trans' HX1.out,?_⟩;rw [HD.out,kJ,if_pos bj]
     case measure=>simp [intOf];omega
   ·obtain ⟨b1,o1,c1,A1,d1,e1,-,-,-,hv1,g10,g11,g12,g13⟩:=(HA.out.ext HX.out).at_ hlt
    cases e1
    clear hv1
    have HE:=aYl (show cU a b=1 by
     rw [HT.out,drop_nil (l:=b) U,aG default hlt];simp only [cU])
    generalize a.getD k default=x at *;go_wp2_with fail;go_ret;exact ⟨aH HE.out.symm,HX.out.alloc' _⟩
  ·by_cases hlt':k<b.length
   ·have HE:=aYl (show cU a b=-1 by
     rw [HT.out,drop_nil (l:=a) U,aG default hlt'];simp only [cU])
    go_wp2_with fail;go_ret;exact ⟨aH HE.out.symm,HX.out⟩
   ·have HE:=aYl (show cU a b=0 by
     rw [HT.out,drop_nil (l:=a) U,drop_nil (l:=b) U];simp only [cU])
    go_wp2_with fail;go_ret;exact ⟨aH HE.out.symm,HX.out⟩
theorem lJ (N:Nat)(hS:eM 134 N):eM 134 (N+1):=by
 intro x y A B c d P Q w hN hx hy;have HX:=aYl hx;have HY:=aYl hy;have HN:=aYl (show ∀ z ∈ x.kids,gsz z<N from fun z hz=>by have:=gX hz;omega);have HC:=aYl (aE1 x y);clear hx hy;go_enter Tryz.func134,Tryz.ntmps134;go_wp2_with fail;refine (kK _ _ _).mono ?_;rintro e w' ⟨rfl,rfl⟩;go_wp2_with fail
 ·rename_i hz
  go_ret;refine ⟨aH ?_,((Ext.refl _).alloc' _).alloc' _⟩;rw [HC.out,if_neg bj]
 have hz1:(iN x.kind y.kind != 0)=false:=ba
 have HZ1:=aYl (show iN x.kind y.kind=0 by simpa using hz1);refine (kK _ _ _).mono ?_;rintro e w' ⟨rfl,rfl⟩;go_wp2_with fail
 ·rename_i hz
  go_ret;refine ⟨aH ?_,((Ext.refl _).alloc' _).alloc' _⟩;rw [HC.out,if_pos HZ1.out,if_neg bj]
 have hz2:(iN x.n y.n != 0)=false:=ba
 have HZ2:=aYl (show iN x.n y.n=0 by simpa using hz2);refine (aCo _ _ _).mono ?_;rintro e w' ⟨rfl,rfl⟩;go_wp2_with fail
 ·rename_i hz
  go_ret;refine ⟨aH ?_,((Ext.refl _).alloc' _).alloc' _⟩;rw [HC.out,if_pos HZ1.out,if_pos HZ2.out,if_neg bj]
 have hz3:(nV x.s y.s != 0)=false:=ba
 have HZ3:=aYl (show nV x.s y.s=0 by simpa using hz3);refine (pW N hS x.kids y.kids P Q _ _ _ (HX.out.kids.ext (((Ext.refl _).alloc' _).alloc' _)) (HY.out.kids.ext (((Ext.refl _).alloc' _).alloc' _)) HN.out).mono ?_;rintro e w1 ⟨rfl,hx1⟩;have HX1:=aYl hx1;clear hx1;go_wp2_with fail;go_ret;refine ⟨aH ?_,(((Ext.refl _).alloc' _).alloc' _).trans' HX1.out⟩;rw [HC.out,if_pos HZ1.out,if_pos HZ2.out,if_pos HZ3.out]
theorem mP (N:Nat):eM 134 N:=by
 induction N with
 | zero=>intro x y A B c d P Q w hN;omega
 | succ N ih=>exact lJ N ih
theorem bL (x y:GV)(A B:Option Addr)(c d:Nat)(P Q:Nat->Prop)(w:World)(hx:VAt w P x A c)(hy:VAt w Q y B d) :
  Calls Tryz.prog 134 #[eF x A c,eF y B d] w (dV (.int .i64 (cH x y)) w):=mP (gsz x+1) x y A B c d P Q w U hx hy
end Go.Proofs.YtkoeecdjijfjnaaGreat
namespace Go.Proofs.YtkoeecdjijfjnaaGreat
open Go.RowKit
def sU (b:Bool):Int:=if b then -1 else 1
theorem sS (b:Bool):¬ sU b=0:=by cases b <;> simp [sU]
theorem aE5 {a b:Int}(h:a ≠ b):iN a b=sU (decide (a<b)):=by
 unfold iN sU
 by_cases h1:a<b
 ·simp [h1]
 ·simp [h1];omega
theorem lC {a b:Int}(h:a=b):iN a b=0:=by subst h;unfold iN;simp
theorem aLq {a b:ByteArray}(h:a.toList ≠ b.toList):nV a b=sU (Op.bytesLess a.toList b.toList):=by
 unfold nV sU
 by_cases h1:Op.bytesLess a.toList b.toList
 ·simp [h1]
 ·simp [h1,h]
theorem dI (l:List UInt8):Op.bytesLess l l=false:=by
 induction l with
 | nil=>rfl
 | cons a l ih=>simp [Op.bytesLess,ih]
theorem pZ {a b:ByteArray}(h:a.toList=b.toList):nV a b=0:=by
 unfold nV;rw [h,dI];simp
theorem oC (b:Bool)(w:World) :
  Calls Tryz.prog 160 #[.bool b] w fun e w'=>e=.returned (.int .i64 (sU b))∧w=w':=by
 cases b
 all_goals
  go_enter Tryz.func160,Tryz.ntmps160;go_wp2;go_ret;exact ⟨rfl,rfl⟩
theorem nR (N:Nat)(hS:eM 117 N):eM 117 (N+1):=by
 intro x y A B c d P Q w hN hx hy;have HX:=aYl hx;have HY:=aYl hy;have HN:=aYl (show ∀ z ∈ x.kids,gsz z<N from fun z hz=>by have:=gX hz;omega);have HC:=aYl (aE1 x y);have hx5:=hx.cap;clear hx hy;go_enter Tryz.func117,Tryz.ntmps117;go_wp2_with (go_at_call 160;refine (oC _ _).mono ?_;rintro e w' ⟨rfl,rfl⟩)
 ·have hz:(x.kind != y.kind)=true:=by assumption
  go_ret;refine ⟨aH ?_,((Ext.refl _).alloc' _).alloc' _⟩;rw [HC.out,aE5 bj,if_neg (sS _)]
 ·have hz1:(x.kind != y.kind)=false:=by assumption
  have hz:(x.n != y.n)=true:=ba
  go_ret;refine ⟨aH ?_,((Ext.refl _).alloc' _).alloc' _⟩;rw [HC.out,lC (by simpa using hz1),if_pos rfl,aE5 bj,if_neg (sS _)]
 ·have hz1:(x.kind != y.kind)=false:=by assumption
  have hz2:(x.n != y.n)=false:=ba
  have hz:(!x.s.toList == y.s.toList)=true:=ba
  go_ret;refine ⟨aH ?_,((Ext.refl _).alloc' _).alloc' _⟩;rw [HC.out,lC (by simpa using hz1),if_pos rfl,lC (by simpa using hz2),if_pos rfl,aLq bj,if_neg (sS _)]
 have hz1:(x.kind != y.kind)=false:=ba
 have hz2:(x.n != y.n)=false:=ba
 have hz3:(!x.s.toList == y.s.toList)=false:=ba
 have HE:=aYl (show cH x y=cU x.kids y.kids by
  rw [HC.out,lC (by simpa using hz1),if_pos rfl,lC (by simpa using hz2),if_pos rfl,pZ (by simpa using hz3),if_pos rfl])
 rw [hz1,hz2,hz3];clear hz1 hz2 hz3;have HX0:Hid (Ext w ((w.alloc (.cells #[↑x.kind,↑x.n,.string x.s,.slice A x.kids.length c] 85)).alloc (.cells #[↑y.kind,↑y.n,.string y.s,.slice B y.kids.length d] 85))):=((Ext.refl _).alloc' _).alloc' _;have hb1:=iV (u:=some (.slice A x.kids.length c)) (fV w #[↑x.kind,↑x.n,.string x.s,.slice A x.kids.length c] 85 (0,0) 3) (.cells #[↑y.kind,↑y.n,.string y.s,.slice B y.kids.length d] 85) Y;have hb2:=mG (u:=some (.slice B y.kids.length d)) (w.alloc (.cells #[↑x.kind,↑x.n,.string x.s,.slice A x.kids.length c] 85)) #[↑y.kind,↑y.n,.string y.s,.slice B y.kids.length d] 85 (0,0) 3 (w.heap.size+1) Y rfl;generalize (w.alloc (.cells #[↑x.kind,↑x.n,.string x.s,.slice A x.kids.length c] 85)).alloc (.cells #[↑y.kind,↑y.n,.string y.s,.slice B y.kids.length d] 85)=W at *;go_loopw [5] (fun i wr=>aF0 x.kids y.kids W i wr) (fun i _=>x.kids.length - (intOf i).toNat)
 case atStart=>exact ⟨0,Nat.zero_le _,Nat.zero_le _,rfl,Below.refl _ _,rfl⟩
 case round =>
  obtain ⟨k,hk,hk',rfl,hx,ht⟩:=hrel;have HT:=aYl ht;have hc1:wr.cell? ⟨w.heap.size,3,none⟩=some (.slice A x.kids.length c):=aA hx hb1;have hc2:wr.cell? ⟨w.heap.size+1,3,none⟩=some (.slice B y.kids.length d):=aA hx hb2;have HW:=aYl hx;have hx0:=HX0.out.trans' hx;have HXK:=aYl (HX.out.kids.ext hx0);have HYK:=aYl (HY.out.kids.ext hx0);have HX00:=HX0;clear ht hx hx0 HX0
  by_cases hlt:k<x.kids.length
  ·by_cases hlt':k<y.kids.length
   ·have HD:=aYl (show cU x.kids y.kids=cU (x.kids.getD k default :: x.kids.drop (k+1)) (y.kids.getD k default :: y.kids.drop (k+1)) by
     rw [HT.out,<- aG default hlt,<- aG default hlt'])
    obtain ⟨b1,o1,c1,A1,d1,e1,-,-,-,hv1,g10,g11,g12,g13⟩:=HXK.out.at_ hlt;obtain ⟨b2,o2,c2,A2,d2,e2,-,-,-,hv2,g20,g21,g22,g23⟩:=HYK.out.at_ hlt'
    cases e1
    cases e2
    have HM:=aYl (HN.out _ (aF (d:=default) hlt));have HV1:=aYl hv1;have HV2:=aYl hv2;clear hv1 hv2 HXK HYK HX HY hb1 hb2;generalize x.kids.getD k default=x1 at *;generalize y.kids.getD k default=y1 at *;go_wp2_with fail;go_still_tail 10,aa;go_wp2_with fail;refine (hS x1 y1 A1 A2 d1 d2 P Q _ HM.out (HV1.out.ext (Ext.refl _).drew') (HV2.out.ext (Ext.refl _).drew')).mono ?_;rintro e w1 ⟨rfl,hx1⟩;have HWX:=aYl (HW.out.trans' ((Ext.refl _).drew'.trans' hx1));clear hx1;go_wp2_with fail
    ·have hz:(cH x1 y1 != 0)=true:=by assumption
     go_ret;refine ⟨aH ?_,HX00.out.trans' HWX.out⟩;rw [HE.out,HD.out,kJ,if_neg bj]
    ·have hz:(cH x1 y1 != 0)=false:=by assumption
     go_roundw
     case rel =>
      refine ⟨k+1,U,U,by go_num,HWX.out,?_⟩;rw [HD.out,kJ,if_pos bj]
     case measure=>simp [intOf];omega
   ·have HZ:=aYl (show cH x y=1 by
     rw [HE.out,HT.out,drop_nil (l:=y.kids) U,aG default hlt];simp only [cU])
    clear HXK HYK HX HY hb1 hb2;have hne:((x.kids.length:Int) == y.kids.length)=false:=by simp;omega
    go_wp2_with (go_at_call 160;refine (oC _ _).mono ?_;rintro e w' ⟨rfl,rfl⟩);go_ret;exact ⟨aH (by rw [HZ.out];simp [sU];omega),HX00.out.trans' HW.out⟩
  ·by_cases hlt':k<y.kids.length
   ·have HZ:=aYl (show cH x y=-1 by
     rw [HE.out,HT.out,drop_nil (l:=x.kids) U,aG default hlt'];simp only [cU])
    clear HXK HYK HX HY hb1 hb2;have hne:((x.kids.length:Int) == y.kids.length)=false:=by simp;omega
    go_wp2_with (go_at_call 160;refine (oC _ _).mono ?_;rintro e w' ⟨rfl,rfl⟩);go_ret;exact ⟨aH (by rw [HZ.out];simp [sU];omega),HX00.out.trans' HW.out⟩
   ·have HZ:=aYl (show cH x y=0 by
     rw [HE.out,HT.out,drop_nil (l:=x.kids) U,drop_nil (l:=y.kids) U];simp only [cU])
    clear HXK HYK HX HY hb1 hb2;have hne:((x.kids.length:Int) == y.kids.length)=true:=by simp;omega
    go_wp2_with (go_at_call 160;refine (oC _ _).mono ?_;rintro e w' ⟨rfl,rfl⟩);go_ret;exact ⟨aH HZ.out.symm,HX00.out.trans' HW.out⟩
theorem pB (N:Nat):eM 117 N:=by
 induction N with
 | zero=>intro x y A B c d P Q w hN;omega
 | succ N ih=>exact nR N ih
theorem gF (x y:GV)(A B:Option Addr)(c d:Nat)(P Q:Nat->Prop)(w:World)(hx:VAt w P x A c)(hy:VAt w Q y B d) :
  Calls Tryz.prog 117 #[eF x A c,eF y B d] w (dV (.int .i64 (cH x y)) w):=pB (gsz x+1) x y A B c d P Q w U hx hy
end Go.Proofs.YtkoeecdjijfjnaaGreat
