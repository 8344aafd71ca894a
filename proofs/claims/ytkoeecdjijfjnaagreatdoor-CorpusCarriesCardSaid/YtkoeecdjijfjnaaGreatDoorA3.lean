/- Contracts and laws. Conditions: none. -/
import Derived.WalkKit
import Derived.WalkSpells
import Derived.WalkLawsBesides
import Derived.Deep.Draws
import Derived.Deep.QuietTactic
import Derived.BigQuiet
import Derived.StillTailTactics
import Derived.Laws.OwnMore
import Derived.Laws.Rows
import Derived.Test.YtkoeecdjijfjnaaGreatDoorProg
import Derived.Test.YtkoeecdjijfjnaaGreatDoorZ0
set_option linter.all false
set_option maxRecDepth 100000
set_option maxHeartbeats 8000000
namespace Go.Proofs.YtkoeecdjijfjnaaGreatDoor
open Go.RowKit
def I64 (n:Int):Prop:=-9223372036854775808<=n∧n<=9223372036854775807
abbrev Ext (w w':World):Prop:=Below w w w'
theorem Ext.trans' {a b c:World}(h:Ext a b)(k:Ext b c):Ext a c:=Below.trans h (Below.mono k h.size)
theorem Ext.drewN (w:World)(n:Nat):Ext w (w.drewN n):=⟨rfl,rfl,rfl,ab _,fun _ _=>rfl⟩
theorem jF (w:World)(cs:Array Value)(t:TypeId)(fr:Nat × Nat)(i:Nat):(w.alloc (.cells cs t fr)).cell? (qt w i)=cs[i]?:=by
 have:(w.alloc (.cells cs t fr)).heap[w.heap.size]?=some (.cells cs t fr):=heap_alloc_new w _;simp only [World.cell?,this];simp
theorem Ext.refl (w:World):Ext w w:=Below.refl _ _
theorem aq (w:World):Ext w w:=Ext.refl w
theorem Ext.alloc' {w w1:World}(h:Ext w w1)(o:Obj):Ext w (w1.alloc o):=Below.alloc h h.size o
theorem Ext.drewN' {w w1:World}(h:Ext w w1)(n:Nat):Ext w (w1.drewN n):=⟨h.os,h.tape,h.output,h.size,h.block⟩
theorem Ext.drew' {w w1:World}(h:Ext w w1):Ext w w1.drew:=⟨h.os,h.tape,h.output,h.size,h.block⟩
theorem Ext.setCell' {w w1:World}(h:Ext w w1){p:Addr}(hp:w<=p.block)(u:Value):Ext w (w1.setCell p u):=Below.setCell h hp u
def Sl (w:World)(P:Nat->Prop)(size:Nat)(A:Option Addr)(n:Nat)(cs:List Value):Prop :=
 cs.length=n*size∧(0<n->∃ b off,A=some ↑(qt b off)∧P b∧∀ j u,cs[j]?=some u->qc w b (off+j) u)
theorem bB {w:World}{b off:Nat}{u:Value}(h:qc w b off u):b<w:=by
 rcases Nat.lt_or_ge b w.heap.size with h1 | h1
 ·exact h1
 ·have:w.heap[b]?=none:=Array.getElem?_eq_none h1
  simp [World.cell?,this] at h
def aB (P:Nat->Prop)(w w':World):Prop:=∀ b,b<w.heap.size->P b->w'.heap[b]?=w.heap[b]?
theorem aB.of_ext {P:Nat->Prop}{w w':World}(h:Ext w w'):aB P w w':=fun b hb _=>h.block b hb
theorem Sl.keep {w w':World}{P Q:Nat->Prop}{size:Nat}{A:Option Addr}{n:Nat}{cs:List Value}(h:Sl w P size A n cs)
  (hk:aB P w w')(hPQ:∀ b,P b->Q b):Sl w' Q size A n cs :=
 ⟨h.1,fun hn=>by
  obtain ⟨b,off,e,hb,hc⟩:=h.2 hn;exact ⟨b,off,e,hPQ b hb,fun j u hu=>(World.cell?_of_block (w:=w) (w':=w') (hk b (bB (hc j u hu)) hb)).trans (hc j u hu)⟩⟩
def bL (w:World)(P:Nat->Prop)(v:Value)(l:List Int):Prop :=
 ∃ A c,v=.slice A l c∧l<=c∧(l.length<=17592186044416∧c<=9223372036854775807)∧(∀ x ∈ l,I64 x)∧Sl w P 1 A l (l.map (Value.int .i64))
theorem bL.keep {w w':World}{P Q:Nat->Prop}{v:Value}{l:List Int}(h:bL w P v l)
  (hk:aB P w w')(hPQ:∀ b,P b->Q b):bL w' Q v l:=by
 obtain ⟨A,c,hv,h1,h2,h3,h4⟩:=h;exact ⟨A,c,hv,h1,h2,h3,h4.keep hk hPQ⟩
theorem bL.ext {w w':World}{P:Nat->Prop}{v:Value}{l:List Int}(h:bL w P v l)(hx:Ext w w'):bL w' P v l:=h.keep (aB.of_ext hx) (fun _ h=>h)
theorem rK (w:World)(cs:Array Value)(t:TypeId)(fr:Nat × Nat)(i b:Nat)(hb:b=w){u:Option Value}(hu:cs[i]?=u):(w.alloc (.cells cs t fr)).cell? (qt b i)=u:=by
 subst hb;rw [jF];exact hu
theorem aA {w w':World}(hx:Ext w w'){b off:Nat}{u:Value}(h:qc w b off u):qc w' b off u:=by
 rw [<- h];exact hx.cell (p:=qt b off) (bB h)
theorem kV {w:World}{b off:Nat}{u:Option Value}(h:w.cell? (qt b off)=u)(o:Obj):b<w->(w.alloc o).cell? (qt b off)=u:=fun hb=>by
 rw [<- h];exact World.cell?_alloc_lt w o _ hb
structure Fr (M:Nat->Prop)(w w':World):Prop where
 os:w'.os=w.os
 tape:w'.tape=w.tape
 output:w'.output=w.output
 size:w.heap.size<=w'
 block:∀ k,k<w.heap.size->¬ M k->w'.heap[k]?=w.heap[k]?
theorem Fr.refl (M:Nat->Prop)(w:World):Fr M w w:=⟨rfl,rfl,rfl,ab _,fun _ _ _=>rfl⟩
theorem au (M:Nat->Prop)(w:World):Fr M w w:=Fr.refl M w
theorem Fr.of_ext {M:Nat->Prop}{w w':World}(h:Ext w w'):Fr M w w':=⟨h.os,h.tape,h.output,h.size,fun k hk _=>h.block k hk⟩
theorem ar {M:Nat->Prop}{w w':World}(h:Ext w w'):Fr M w w':=Fr.of_ext h
theorem Fr.ext {w w':World}(h:Fr (fun _=>False) w w'):Ext w w':=⟨h.os,h.tape,h.output,h.size,fun k hk=>h.block k hk (fun h=>h)⟩
theorem Fr.trans {M:Nat->Prop}{a b c:World}(h:Fr M a b)(k:Fr M b c):Fr M a c :=
 ⟨k.os.trans h.os,k.tape.trans h.tape,k.output.trans h.output,ae h.size k.size,fun i hi hm=>(k.block i (ac hi h.size) hm).trans (h.block i hi hm)⟩
theorem Fr.trans_new {M:Nat->Prop}{a b c:World}(h:Fr M a b)(k:Fr (fun i=>M i∨a<=i) b c):Fr M a c :=
 ⟨k.os.trans h.os,k.tape.trans h.tape,k.output.trans h.output,ae h.size k.size,fun i hi hm=>(k.block i (ac hi h.size) (fun h=>h.elim hm (fun h=>by omega))).trans (h.block i hi hm)⟩
theorem Fr.mono {M N:Nat->Prop}{w w':World}(h:Fr M w w')(hMN:∀ b,M b->N b):Fr N w w':=⟨h.os,h.tape,h.output,h.size,fun k hk hn=>h.block k hk (fun hm=>hn (hMN k hm))⟩
theorem Fr.alloc {M:Nat->Prop}{w w1:World}(h:Fr M w w1)(o:Obj):Fr M w (w1.alloc o):=h.trans (ar ((aq _).alloc' o))
theorem Fr.drewN {M:Nat->Prop}{w w1:World}(h:Fr M w w1)(n:Nat):Fr M w (w1.drewN n):=h.trans (ar ((aq _).drewN' n))
theorem Fr.drew {M:Nat->Prop}{w w1:World}(h:Fr M w w1):Fr M w w1.drew:=h.trans (ar (aq _).drew')
theorem Fr.setCell {M:Nat->Prop}{w w1:World}(h:Fr M w w1){p:Addr}(hp:M p.block∨w<=p.block)(u:Value):Fr M w (w1.setCell p u) :=
 h.trans_new ⟨rfl,rfl,rfl,ic,fun k _ hk=>Below.heap_setCell _ _ _ _ (fun e=>hk (e ▸ hp))⟩
theorem Fr.new_ext {M:Nat->Prop}{w w':World}(h:Fr M w w')(hM:∀ b,M b->w<=b):Ext w w':=⟨h.os,h.tape,h.output,h.size,fun k hk=>h.block k hk (fun hm=>by have:=hM k hm;omega)⟩
theorem aB.of_fr {P M:Nat->Prop}{w w':World}(h:Fr M w w')(hPM:∀ b,P b->¬ M b):aB P w w':=fun b hb hp=>h.block b hb (hPM b hp)
def Blk (w:World)(g:Nat)(t:TypeId)(cs:Array Value):Prop:=w.heap[g]?=some (.cells cs t (0,0))
section
variable {w w':World}{g:Nat}{t:TypeId}{cs:Array Value}
theorem Blk.lt (h:Blk w g t cs):g<w:=by
 rcases Nat.lt_or_ge g w.heap.size with hlt | hge
 ·exact hlt
 ·unfold Blk at h;rw [Array.getElem?_eq_none hge] at h;cases h
theorem Blk.cell (h:Blk w g t cs)(i:Nat):w.cell? (qt g i)=cs[i]?:=cell_of_row w g i cs t (0,0) h
theorem Blk.cell' (h:Blk w g t cs)(i:Nat){u:Value}(hu:cs[i]?=some u):qc w g i u:=(h.cell i).trans hu
theorem Blk.frozen (h:Blk w g t cs)(i:Nat):w.frozen? (qt g i)=false:=by
 unfold Blk at h;simp [World.frozen?,h]
theorem Blk.new (w:World)(t:TypeId)(cs:Array Value):Blk (w.alloc (qk cs t)) w t cs:=heap_alloc_new w _
theorem aw (w:World)(t:TypeId)(cs:Array Value):Blk (w.alloc (qk cs t)) w t cs:=Blk.new w t cs
theorem Blk.new' (w:World)(t:TypeId)(cs:Array Value){g:Nat}(hg:g=w):Blk (w.alloc (qk cs t)) g t cs:=by subst hg;exact heap_alloc_new w _
theorem az (w:World)(t:TypeId)(cs:Array Value){g:Nat}(hg:g=w):Blk (w.alloc (qk cs t)) g t cs:=Blk.new' w t cs hg
theorem Blk.drew (h:Blk w g t cs):Blk w.drew g t cs:=h
theorem Blk.drewN (h:Blk w g t cs)(n:Nat):Blk (w.drewN n) g t cs:=h
theorem Blk.alloc (h:Blk w g t cs)(o:Obj):Blk (w.alloc o) g t cs:=(Below.heap_alloc w o g h.lt).trans h
theorem Blk.set_ (h:Blk w g t cs)(i:Nat)(u:Value):Blk (w.setCell (qt g i) u) g t (cs.setIfInBounds i u):=by
 unfold Blk at h ⊢;simp [World.setCell,Array.getElem?_modify,h]
theorem Blk.far (h:Blk w g t cs){p:Addr}(hp:g ≠ p.block)(u:Value):Blk (w.setCell p u) g t cs:=(Below.heap_setCell w p u g hp).trans h
theorem Blk.fr {M:Nat->Prop}(h:Blk w g t cs)(hb:Fr M w w')(hg:¬ M g):Blk w' g t cs:=(hb.block g h.lt hg).trans h
theorem Blk.ext (h:Blk w g t cs)(hb:Ext w w'):Blk w' g t cs:=(hb.block g h.lt).trans h
end
end Go.Proofs.YtkoeecdjijfjnaaGreatDoor
namespace Go.Proofs.YtkoeecdjijfjnaaGreatDoor
def fH (n m:Int):Int:=if n<0 then (-(n+1)) % m else n % m
theorem gM {n m:Int}(hm:1<=m):0<=fH n m∧fH n m<m:=by
 unfold fH;split
 ·exact ⟨Int.emod_nonneg _ I,Int.emod_lt_of_pos _ I⟩
 ·exact ⟨Int.emod_nonneg _ I,Int.emod_lt_of_pos _ I⟩
def iZ (a b:Int):Int:=if a<b then -1 else if b<a then 1 else 0
def jM:List Int->List Int->Int
 | [],[]=>0
 | [],_ :: _=>-1
 | _ :: _,[]=>1
 | a :: l,b :: m=>if iZ a b=0 then jM l m else iZ a b
def iA (a b:List Int):Int:=if iZ a b.length=0 then jM a b else iZ a b
theorem aJ {α:Type}{l:List α}{k:Nat}(d:α)(h:k<l):l.drop k=l.getD k d :: l.drop (k+1):=by
 rw [List.drop_eq_getElem_cons h];simp [h]
theorem drop_nil {α:Type}{l:List α}{k:Nat}(h:l<=k):l.drop k=[]:=List.drop_eq_nil_of_le h
theorem aW {α:Type}{l:List α}{k:Nat}(d:α)(h:k<l):l.take (k+1)=l.take k ++ [l.getD k d]:=by
 rw [List.take_succ_eq_append_getElem h];simp [h]
theorem Fn {x y:Int}(h:x<y):iZ x y=-1:=by unfold iZ;rw [if_pos h]
theorem De {x y:Int}(h:y<x):iZ x y=1:=by unfold iZ;rw [if_neg I,if_pos h]
theorem FU {x y:Int}(h:¬ x<y)(h':¬ y<x):iZ x y=0:=by unfold iZ;rw [if_neg h,if_neg h']
theorem CU {x y:Int}(h:x<y)(xs ys:List Int):jM (x :: xs) (y :: ys)=-1:=by simp [jM,Fn h]
theorem Du {x y:Int}(h:y<x)(xs ys:List Int):jM (x :: xs) (y :: ys)=1:=by simp [jM,De h]
theorem L9 {x y:Int}(h:¬ x<y)(h':¬ y<x)(xs ys:List Int):jM (x :: xs) (y :: ys)=jM xs ys:=by simp [jM,FU h h']
end Go.Proofs.YtkoeecdjijfjnaaGreatDoor
namespace Go.Proofs.YtkoeecdjijfjnaaGreatDoor
open Go.RowKit
theorem cZ {w:World}{b off:Nat}{l:List Int}{k:Nat}(hk:k<l)
   (hc:∀ j u,(l.map (Value.int .i64))[j]?=some u->qc w b (off+j) u):qc w b (off+k) (.int .i64 (l.getD k 0)):=by
 apply hc;simp [hk]
theorem aK {k:IntKind}{a b:Int}(h:a=b):Ending.returned (.int k a)=.returned (.int k b):=by rw [h]
theorem aD {a b:Bool}(h:a=b):Ending.returned a=.returned b:=by rw [h]
def mr (v:Value)(w:World)(e:Ending)(w':World):Prop:=e=.returned v∧∃ n,w'=w.drewN n
theorem fL (n m:Int)(w:World)(hn:I64 n)(hm:1<=m)(hm2:m<=9223372036854775807) :
  Calls Tryz.prog 5 #[↑n,↑m] w fun e w'=>e=.returned (.int .i64 (fH n m))∧w=w':=by
 obtain ⟨hn1,hn2⟩:=hn;by_cases h0:n<0
 ·go_enter Tryz.func5,Tryz.ntmps5
  go_wp2;go_ret;refine ⟨aK ?_,rfl⟩;unfold fH;rw [if_pos h0,<- Int.neg_tmod,Int.tmod_eq_emod_of_nonneg I]
 ·go_enter Tryz.func5,Tryz.ntmps5
  go_wp2;go_ret;refine ⟨aK ?_,rfl⟩;unfold fH;rw [if_neg I]
theorem Lu (n:Int)(w:World) :
  Calls Tryz.prog 132 #[↑n] w fun e w'=>e=.returned false∧w=w':=by
 go_enter Tryz.func132,Tryz.ntmps132;go_wp2;go_ret;exact ⟨rfl,rfl⟩
theorem kR (a b:Int)(w:World) :
  Calls Tryz.prog 111 #[↑a,↑b] w fun e w'=>e=.returned (.int .i64 (iZ a b))∧w=w':=by
 go_enter Tryz.func111,Tryz.ntmps111;go_wp2_with (go_at_call 132;refine (Lu _ _).mono ?_;rintro e w' ⟨rfl,rfl⟩)
 all_goals
  go_ret;refine ⟨aK ?_,rfl⟩;unfold iZ
 ·rw [if_pos dz]
 ·rw [if_neg I,if_pos dz]
 ·rw [if_neg I,if_neg I]
def Et (a b:List Int)(w:World)(i:Value)(wr:World):Prop:=∃ k n:Nat,k<=a.length∧i=↑k∧wr=w.drewN n∧a.take k=b.take k
theorem jX (a b:List Int)(P Q:Nat->Prop)(va vb:Value)(w:World)(ha:bL w P va a)(hb:bL w Q vb b) :
  qg 40 #[va,vb] w (mr (decide (a=b)) w):=by
 obtain ⟨A,c,rfl,h1,h2,h3,h4⟩:=ha;obtain ⟨A',c',rfl,h1',h2',h3',h4'⟩:=hb;clear h3 h3';have H4:=aYf h4;have H4':=aYf h4';clear h4 h4';generalize hna:a.length=na at *;generalize hnb:b.length=nb at *;have HA:=aYf hna;have HB:=aYf hnb;clear hna hnb;by_cases hl:na=nb
 ·subst hl
  go_enter Tryz.func40,Tryz.ntmps40;go_wp2;go_loopw [5] (fun i wr=>Et a b w i wr) (fun i _=>na - (intOf i).toNat)
  case atStart=>exact ⟨0,0,af _,rfl,rfl,rfl⟩
  case round =>
   obtain ⟨k,n,hk,rfl,rfl,ht⟩:=hrel;rw [HA.out] at hk;have HT:=aYf ht;clear ht;by_cases hlt:k<na
   ·obtain ⟨b1,o1,rfl,-,hc1⟩:=H4.out.2 I
    obtain ⟨b2,o2,rfl,-,hc2⟩:=H4'.out.2 I;have g1:=cZ (k:=k) jp hc1;have g2:=cZ (k:=k) (by rw [HB.out];omega) hc2;clear hc1 hc2;generalize hx:a.getD k 0=x at *;generalize hy:b.getD k 0=y at *;have HX:=aYf hx;have HY:=aYf hy;clear hx hy;by_cases hxy:x=y
    ·subst hxy
     go_wp2;go_quiet (fail);go_wp2;go_roundw
     case rel =>
      refine ⟨k+1,_,jp,by go_num,rfl,?_⟩;rw [aW 0 jp,aW 0 (by rw [HB.out];omega),HT.out,HX.out,HY.out]
     case measure=>simp [intOf];omega
    ·have hxy':(x != y)=true:=by simp [hxy]
     have HN:=aYf hxy;clear hxy;go_wp2;go_quiet (fail);go_wp2;go_ret;refine ⟨aD ?_,_,World.drewN_drewN _ _ _⟩;symm;rw [decide_eq_false_iff_not];rintro rfl;exact HN.out (HX.out.symm.trans HY.out)
   ·go_wp2
    go_ret;refine ⟨aD ?_,_,rfl⟩;have:=HT.out;rw [an jp,an (by rw [HB.out];omega)] at this;simp [this]
 ·have hl':((na:Int) != (nb:Int))=true:=by simp;omega
  go_enter Tryz.func40,Tryz.ntmps40;go_wp2;go_ret;refine ⟨aD ?_,0,rfl⟩;symm;rw [decide_eq_false_iff_not];rintro rfl;exact hl (HA.out.symm.trans HB.out)
def vK (l:List Int)(i m:Int):Int:=if i<0∨(l:Int)<=i then 0 else fH (l.getD i.toNat 0) m
theorem kI {l:List Int}{i m:Int}(hm:1<=m):0<=vK l i m∧vK l i m<m:=by
 unfold vK;split
 ·omega
 ·exact gM hm
theorem sn {l:List Int}(h:∀ x ∈ l,I64 x)(k:Nat):I64 (l.getD k 0):=by
 by_cases hk:k<l
 ·have:l.getD k 0=l[k]:=by simp [hk]
  rw [this];exact h _ (List.getElem_mem hk)
 ·have:l.getD k 0=0:=by simp [hk]
  rw [this];unfold I64;omega
theorem kJ (l:List Int)(i m:Int)(P:Nat->Prop)(v:Value)(w:World)(hv:bL w P v l)(hi:I64 i)(hm:1<=m)(hm2:m<=9223372036854775807) :
  Calls Tryz.prog 19 #[v,↑i,↑m] w fun e w'=>e=.returned (.int .i64 (vK l i m))∧w=w':=by
 obtain ⟨A,c,rfl,h1,h2,h3,h4⟩:=hv;obtain ⟨hi1,hi2⟩:=hi;by_cases h0:i<0
 ·go_enter Tryz.func19,Tryz.ntmps19
  go_wp2;go_ret;exact ⟨aK (by unfold vK;rw [if_pos I]),rfl⟩
 ·by_cases h5:(l:Int)<=i
  ·have h0':decide (i<0)=false:=by simpa using h0
   go_enter Tryz.func19,Tryz.ntmps19;go_wp2;go_ret;exact ⟨aK (by unfold vK;rw [if_pos I]),rfl⟩
  ·obtain ⟨k,rfl⟩:=Int.eq_ofNat_of_zero_le (show 0<=i by omega)
   have hk:k<l:=I;obtain ⟨b1,o1,rfl,-,hc1⟩:=h4.2 I;have g1:=cZ hk hc1;have hx:=sn h3 k
   have hr:vK l k m=fH (l.getD k 0) m:=by
    unfold vK;rw [if_neg I];rfl
   rw [hr];clear hr h3 hc1;generalize l.getD k 0=x at *;go_enter Tryz.func19,Tryz.ntmps19;go_wp2_with (go_at_call 5;refine (fL _ _ _ hx hm hm2).mono ?_;rintro e w' ⟨rfl,rfl⟩);go_ret;exact ⟨rfl,rfl⟩
def BF (a b:List Int)(w:World)(i:Value)(wr:World):Prop:=∃ k n:Nat,k<=a.length∧k<=b.length∧i=↑k∧wr=w.drewN n∧jM a b=jM (a.drop k) (b.drop k)
theorem nF (a b:List Int)(P Q:Nat->Prop)(va vb:Value)(w:World)(ha:bL w P va a)(hb:bL w Q vb b) :
  qg 112 #[va,vb] w (mr (.int .i64 (jM a b)) w):=by
 obtain ⟨A,c,rfl,h1,h2,h3,h4⟩:=ha;obtain ⟨A',c',rfl,h1',h2',h3',h4'⟩:=hb;clear h3 h3';have H4:=aYf h4;have H4':=aYf h4';clear h4 h4';go_enter Tryz.func112,Tryz.ntmps112;go_wp2;go_loopw [11] (fun i wr=>BF a b w i wr) (fun i _=>a.length - (intOf i).toNat)
 case atStart=>exact ⟨0,0,af _,af _,rfl,rfl,rfl⟩
 case round =>
  obtain ⟨k,n,hk,hk',rfl,rfl,ht⟩:=hrel;have HT:=aYf ht;clear ht;by_cases hlt:k<a
  ·obtain ⟨b1,o1,rfl,-,hc1⟩:=H4.out.2 I
   have g1:=cZ hlt hc1;by_cases hlt':k<b
   ·obtain ⟨b2,o2,rfl,-,hc2⟩:=H4'.out.2 I
    have g2:=cZ hlt' hc2;clear hc1 hc2
    have HD:=aYf (show jM a b=jM (a.getD k 0 :: a.drop (k+1)) (b.getD k 0 :: b.drop (k+1)) by
     rw [HT.out,<- aJ 0 hlt,<- aJ 0 hlt'])
    generalize a.getD k 0=x at *;generalize b.getD k 0=y at *;go_wp2_with (go_at_call 111;refine (kR _ _ _).mono ?_;rintro e w' ⟨rfl,rfl⟩)
    ·rename_i hz
     go_ret;refine ⟨aK ?_,_,rfl⟩;rw [HD.out];simp only [jM];rw [if_neg d9]
    ·rename_i hz
     go_roundw
     case rel =>
      refine ⟨k+1,n,I,I,by go_num,rfl,?_⟩;rw [HD.out];simp only [jM];rw [if_pos d9]
     case measure=>simp [intOf];omega
   ·clear hc1
    go_wp2;go_ret;refine ⟨aK ?_,_,rfl⟩;rw [HT.out,drop_nil (l:=b) I,aJ 0 hlt];rfl
  ·by_cases hlt':k<b
   ·go_wp2
    go_ret;refine ⟨aK ?_,_,rfl⟩;rw [HT.out,drop_nil (l:=a) I,aJ 0 hlt'];rfl
   ·go_wp2
    go_ret;refine ⟨aK ?_,_,rfl⟩;rw [HT.out,drop_nil (l:=a) I,drop_nil (l:=b) I];rfl
theorem sJ (a b:List Int)(P Q:Nat->Prop)(va vb:Value)(w:World)(ha:bL w P va a)(hb:bL w Q vb b) :
  qg 39 #[va,vb] w (mr (.int .i64 (iA a b)) w):=by
 obtain ⟨A,c,rfl,h1,h2,h3,h4⟩:=ha;obtain ⟨A',c',rfl,h1',h2',h3',h4'⟩:=hb;clear h3 h3';have H4:=aYf h4;have H4':=aYf h4';clear h4 h4';by_cases hl1:a.length<b
 ·go_enter Tryz.func39,Tryz.ntmps39
  go_wp2;go_ret;refine ⟨aK ?_,0,rfl⟩;simp [iA,iZ,hl1]
 by_cases hl2:b.length<a
 ·go_enter Tryz.func39,Tryz.ntmps39
  go_wp2;go_ret;refine ⟨aK ?_,0,rfl⟩;simp [iA,iZ,hl1,hl2]
 have HP:=aYf (show iA a b=jM a b by unfold iA;rw [if_pos (by unfold iZ;rw [if_neg I,if_neg I])]);go_enter Tryz.func39,Tryz.ntmps39;go_wp2;go_loopw [5] (fun i wr=>BF a b w i wr) (fun i _=>a.length - (intOf i).toNat)
 case atStart=>exact ⟨0,0,af _,af _,rfl,rfl,rfl⟩
 case round =>
  obtain ⟨k,n,hk,hk',rfl,rfl,ht⟩:=hrel;have HT:=aYf ht;clear ht;by_cases hlt:k<a
  ·have hlt':k<b:=by omega
   obtain ⟨b1,o1,rfl,-,hc1⟩:=H4.out.2 I;have g1:=cZ hlt hc1;obtain ⟨b2,o2,rfl,-,hc2⟩:=H4'.out.2 I;have g2:=cZ hlt' hc2;clear hc1 hc2
   have HD:=aYf (show jM a b=jM (a.getD k 0 :: a.drop (k+1)) (b.getD k 0 :: b.drop (k+1)) by
    rw [HT.out,<- aJ 0 hlt,<- aJ 0 hlt'])
   generalize a.getD k 0=x at *;generalize b.getD k 0=y at *;by_cases hxy:x<y
   ·go_wp2
    go_quiet (fail);go_wp2;go_ret;refine ⟨aK ?_,_,World.drewN_drewN _ _ _⟩;rw [HP.out,HD.out,CU I]
   by_cases hyx:y<x
   ·go_wp2
    go_quiet (fail);go_wp2;go_quiet (fail);go_wp2;go_ret;refine ⟨aK ?_,_,(congrArg (World.drewN · _) (World.drewN_drewN _ _ _)).trans (World.drewN_drewN _ _ _)⟩;rw [HP.out,HD.out,Du I]
   go_wp2;go_quiet (fail);go_wp2;go_quiet (fail);go_wp2;go_roundw
   case rel =>
    refine ⟨k+1,_,I,I,by go_num,rfl,?_⟩;rw [HD.out,L9 I I]
   case measure=>simp [intOf];omega
  ·go_wp2
   go_ret;refine ⟨aK ?_,_,rfl⟩;rw [HP.out,HT.out,drop_nil (l:=a) I,drop_nil (l:=b) I];rfl
def orI (x y:Int):Int:=if x=0 then y else x
theorem GD (x y:Int)(b:Nat)(w:World)(hc0:qc w b 0 x)(hc1:qc w b 1 y) :
  Calls Tryz.prog 110 #[.slice (qp b) 2 2] w fun e w'=>e=.returned (.int .i64 (orI x y))∧w=w':=by
 go_enter Tryz.func110,Tryz.ntmps110;go_wp2;refine wp_loop_rounds 3 ?_;rw [rounds_succ];by_cases hx:x=0
 ·subst hx
  go_wp2;rw [rounds_succ];by_cases hy:y=0
  ·subst hy
   go_wp2;rw [rounds_succ];go_wp2;go_ret;exact ⟨rfl,rfl⟩
  ·have hy':(y != 0)=true:=by simp [hy]
   go_wp2;go_ret;exact ⟨rfl,rfl⟩
 ·have hx':(x != 0)=true:=by simp [hx]
  go_wp2;go_ret;exact ⟨aK (by unfold orI;rw [if_neg hx]),rfl⟩
def dE (v:Value)(w:World)(e:Ending)(w':World):Prop:=e=.returned v∧Ext w w'
theorem oL (a b:List Int)(P Q:Nat->Prop)(va vb:Value)(w:World)(ha:bL w P va a)(hb:bL w Q vb b) :
  qg 80 #[va,vb] w (dE (.int .i64 (iA a b)) w):=by
 have hC:=nF a b P Q va vb w ha hb;have HC:=aYf hC;clear hC;obtain ⟨A,c,rfl,h1,h2,h3,h4⟩:=ha;obtain ⟨A',c',rfl,h1',h2',h3',h4'⟩:=hb;clear h3 h3' h4 h4';go_enter Tryz.func80,Tryz.ntmps80;go_wp2_with fail;refine (kR _ _ _).mono ?_;rintro e w' ⟨rfl,rfl⟩;go_wp2_with fail;refine HC.out.mono ?_;rintro e w' ⟨rfl,n,rfl⟩;go_wp2_with fail;refine (GD (iZ a b) (jM a b) _ _ ?_ ?_).mono ?_
 ·exact jF (w.drewN n) _ _ _ 0
 ·exact jF (w.drewN n) _ _ _ 1
 rintro e w' ⟨rfl,rfl⟩;go_wp2_with fail;go_ret;refine ⟨aK ?_,?_⟩
 ·unfold orI iA;rfl
 exact (Ext.drewN w n).alloc U _
end Go.Proofs.YtkoeecdjijfjnaaGreatDoor
namespace Go.Proofs.YtkoeecdjijfjnaaGreatDoor
open Go.RowKit
inductive GV:Type where
 | mk (kind n:Int) (s:ByteArray) (kids:List GV)
def GV.kind:GV->Int | .mk k _ _ _=>k
def GV.n:GV->Int | .mk _ n _ _=>n
def GV.s:GV->ByteArray | .mk _ _ s _=>s
def GV.kids:GV->List GV | .mk _ _ _ l=>l
inductive Zq0 (x:GV)(A:Option Addr)(c:Nat)|z
abbrev qh (x:GV)(A:Option Addr)(c:Nat):Zq0 x A c:=.z
instance {x:GV}{A:Option Addr}{c:Nat}:CoeOut (Zq0 x A c) (Array Value):=⟨fun _=>#[↑x.kind,↑x.n,.string x.s,.slice A x.kids.length c]⟩
instance {x:GV}{A:Option Addr}{c:Nat}:CoeOut (Zq0 x A c) (List Value):=⟨fun _=>[.int .i64 x.kind,.int .i64 x.n,.string x.s,.slice A x.kids.length c]⟩
instance:Inhabited GV:=⟨.mk 0 0 ByteArray.empty []⟩
mutual
def RV (w:World)(P:Nat->Prop):GV->List Value->Prop
 | .mk k n s kids,cs=>I64 k∧I64 n∧s.size<=17592186044416∧∃ A c css,cs=[.int .i64 k,.int .i64 n,.string s,.slice A kids c]∧kids<=c∧(kids.length<=17592186044416∧c<=9223372036854775807) ∧
   Sl w P 4 A kids css∧RVs w P kids css
def RVs (w:World)(P:Nat->Prop):List GV->List Value->Prop
 | [],cs=>cs=[]
 | x :: xs,cs=>∃ c1 c2,cs=c1 ++ c2∧RV w P x c1∧RVs w P xs c2
end
def bZ (w:World)(P:Nat->Prop)(v:Value)(l:List GV):Prop :=
 ∃ A c css,v=.slice A l c∧l<=c∧(l.length<=17592186044416∧c<=9223372036854775807)∧Sl w P 4 A l css∧RVs w P l css
theorem RV.mk_iff {w:World}{P:Nat->Prop}{k n:Int}{s:ByteArray}{kids:List GV}{cs:List Value} :
  RV w P (.mk k n s kids) cs ↔ I64 k∧I64 n∧s.size<=17592186044416∧∃ v,cs=[.int .i64 k,.int .i64 n,.string s,v]∧bZ w P v kids:=by
 unfold RV bZ;constructor
 ·rintro ⟨h1,h2,h3,A,c,css,rfl,h4⟩
  exact ⟨h1,h2,h3,_,rfl,A,c,css,rfl,h4⟩
 ·rintro ⟨h1,h2,h3,v,rfl,A,c,css,rfl,h4⟩
  exact ⟨h1,h2,h3,A,c,css,rfl,h4⟩
theorem RV.open_ {w:World}{P:Nat->Prop}{x:GV}{cs:List Value}(h:RV w P x cs) :
  I64 x.kind∧I64 x.n∧x.s.size<=17592186044416∧∃ v,cs=[.int .i64 x.kind,.int .i64 x.n,.string x.s,v]∧bZ w P v x.kids:=by
 obtain ⟨k,n,s,kids⟩:=x;exact RV.mk_iff.1 h
theorem RV.len {w:World}{P:Nat->Prop}{x:GV}{cs:List Value}(h:RV w P x cs):cs.length=4:=by
 obtain ⟨k,n,s,kids⟩:=x;obtain ⟨_,_,_,v,rfl,_⟩:=RV.mk_iff.1 h;rfl
theorem RVs.len {w:World}{P:Nat->Prop}{l:List GV}{cs:List Value}(h:RVs w P l cs):cs.length=l*4:=by
 induction l generalizing cs with
 | nil=>simp only [RVs] at h;subst h;rfl
 | cons x xs ih =>
  simp only [RVs] at h;obtain ⟨c1,c2,rfl,h1,h2⟩:=h;have:=ih h2;have:=h1.len;simp only [aa,ai];omega
mutual
theorem RV.keep {w w':World}{P Q:Nat->Prop}(hk:aB P w w')(hPQ:∀ b,P b->Q b):∀ {x:GV}{cs:List Value},RV w P x cs->RV w' Q x cs
 | .mk k n s kids,cs,h=>by
  simp only [RV] at h ⊢;obtain ⟨h1,h2,h3,A,c,css,h4,h5,h6,h7,h8⟩:=h;exact ⟨h1,h2,h3,A,c,css,h4,h5,h6,h7.keep hk hPQ,RVs.keep hk hPQ h8⟩
theorem RVs.keep {w w':World}{P Q:Nat->Prop}(hk:aB P w w')(hPQ:∀ b,P b->Q b):∀ {l:List GV}{cs:List Value},RVs w P l cs->RVs w' Q l cs
 | [],cs,h=>by simp only [RVs] at h ⊢;exact h
 | x :: xs,cs,h=>by
  simp only [RVs] at h ⊢;obtain ⟨c1,c2,h1,h2,h3⟩:=h;exact ⟨c1,c2,h1,RV.keep hk hPQ h2,RVs.keep hk hPQ h3⟩
end
theorem bZ.keep {w w':World}{P Q:Nat->Prop}{v:Value}{l:List GV}(h:bZ w P v l)(hk:aB P w w')(hPQ:∀ b,P b->Q b):bZ w' Q v l:=by
 obtain ⟨A,c,css,h1,h2,h3,h4,h5⟩:=h;exact ⟨A,c,css,h1,h2,h3,h4.keep hk hPQ,RVs.keep hk hPQ h5⟩
theorem bZ.ext {w w':World}{P:Nat->Prop}{v:Value}{l:List GV}(h:bZ w P v l)(hx:Ext w w'):bZ w' P v l:=h.keep (aB.of_ext hx) (fun _ h=>h)
theorem RVs.append {w:World}{P:Nat->Prop}{a b:List GV}{ca cb:List Value}(ha:RVs w P a ca)(hb:RVs w P b cb):RVs w P (a ++ b) (ca ++ cb):=by
 induction a generalizing ca with
 | nil=>simp only [RVs] at ha;subst ha;exact hb
 | cons x xs ih =>
  simp only [RVs] at ha;obtain ⟨c1,c2,rfl,h1,h2⟩:=ha;simp only [List.cons_append,RVs];exact ⟨c1,c2 ++ cb,U,h1,ih h2⟩
theorem RVs.one {w:World}{P:Nat->Prop}{x:GV}{c:List Value}(h:RV w P x c):RVs w P [x] c:=by
 simp only [RVs];exact ⟨c,[],U,h,rfl⟩
theorem RVs.drop {w:World}{P:Nat->Prop}{l:List GV}{cs:List Value}(h:RVs w P l cs)(k:Nat):RVs w P (l.drop k) (cs.drop (k*4)):=by
 induction k generalizing l cs with
 | zero=>simpa using h
 | succ k ih =>
  cases l with
  | nil=>simp only [RVs] at h;subst h;simp [RVs]
  | cons x xs =>
   simp only [RVs] at h;obtain ⟨c1,c2,rfl,h1,h2⟩:=h;have e:(k+1)*4=c1+k*4:=by rw [h1.len];omega
   rw [e,List.drop_length_add_append];exact ih h2
theorem RVs.take {w:World}{P:Nat->Prop}{l:List GV}{cs:List Value}(h:RVs w P l cs)(k:Nat):RVs w P (l.take k) (cs.take (k*4)):=by
 induction k generalizing l cs with
 | zero=>simp [RVs]
 | succ k ih =>
  cases l with
  | nil=>simp only [RVs] at h;subst h;simp [RVs]
  | cons x xs =>
   simp only [RVs] at h;obtain ⟨c1,c2,rfl,h1,h2⟩:=h;have e:(k+1)*4=c1+k*4:=by rw [h1.len];omega
   rw [e,List.take_length_add_append];simp only [List.take_succ_cons,RVs];exact ⟨c1,_,rfl,h1,ih h2⟩
theorem RVs.get {w:World}{P:Nat->Prop}{l:List GV}{cs:List Value}(h:RVs w P l cs){i:Nat}(hi:i<l) :
  RV w P (l.getD i default) ((cs.drop (i*4)).take 4):=by
 have h1:=h.drop i;rw [aJ default hi] at h1;simp only [RVs] at h1;obtain ⟨c1,c2,e,h2,_⟩:=h1;rw [e,<- h2.len,List.take_left']
 ·exact h2
 ·rfl
structure VAt (w:World)(P:Nat->Prop)(x:GV)(A:Option Addr)(c:Nat):Prop where
 kind:I64 x.kind
 n:I64 x.n
 s:x.s.size<=17592186044416
 len:x.kids<=c
 cap:x.kids.length<=17592186044416∧c<=9223372036854775807
 kids:bZ w P (.slice A x.kids c) x.kids
abbrev cN (x:GV)(A:Option Addr)(c:Nat):Value:=.agg (qh x A c)
def cellsOf (x:GV)(A:Option Addr)(c:Nat):List Value:=qh x A c
theorem RV.at_ {w:World}{P:Nat->Prop}{x:GV}{cs:List Value}(h:RV w P x cs):∃ A c,cs=cellsOf x A c∧VAt w P x A c:=by
 obtain ⟨h1,h2,h3,v,rfl,h4⟩:=h.open_;have h5:=h4;obtain ⟨A,c,css,rfl,h6,h7,_⟩:=h4;exact ⟨A,c,rfl,h1,h2,h3,h6,h7,h5⟩
theorem VAt.rv {w:World}{P:Nat->Prop}{x:GV}{A:Option Addr}{c:Nat}(h:VAt w P x A c):RV w P x (cellsOf x A c):=by
 obtain ⟨k,n,s,kids⟩:=x;exact RV.mk_iff.2 ⟨h.kind,h.n,h.s,_,rfl,h.kids⟩
theorem VAt.keep {w w':World}{P Q:Nat->Prop}{x:GV}{A:Option Addr}{c:Nat}(h:VAt w P x A c)(hk:aB P w w')(hPQ:∀ b,P b->Q b):VAt w' Q x A c :=
 ⟨h.kind,h.n,h.s,h.len,h.cap,h.kids.keep hk hPQ⟩
theorem VAt.ext {w w':World}{P:Nat->Prop}{x:GV}{A:Option Addr}{c:Nat}(h:VAt w P x A c)(hx:Ext w w'):VAt w' P x A c:=h.keep (aB.of_ext hx) (fun _ h=>h)
theorem bZ.at_ {w:World}{P:Nat->Prop}{v:Value}{l:List GV}(h:bZ w P v l){i:Nat}(hi:i<l) :
  ∃ b off c A d,v=.slice (qt b off) l c∧P b∧l<=c∧(l.length<=17592186044416∧c<=9223372036854775807)∧VAt w P (l.getD i default) A d ∧
   qc w b (off+i*4) (.int .i64 (l.getD i default).kind)∧qc w b (off+i*4+1) (.int .i64 (l.getD i default).n) ∧
   qc w b (off+i*4+2) (.string (l.getD i default).s)∧qc w b (off+i*4+3) (.slice A (l.getD i default).kids.length d):=by
 obtain ⟨A,c,css,rfl,h2,h3,h4,h5⟩:=h;obtain ⟨b,off,rfl,hb,hc⟩:=h4.2 I;obtain ⟨A',d,e,hu⟩:=(h5.get hi).at_
 have hx:∀ j,j<4->css[i*4+j]?=((css.drop (i*4)).take 4)[j]?:=by
  intro j hj;rw [List.getElem?_take,if_pos hj,List.getElem?_drop]
 unfold cellsOf at e;refine ⟨b,off,c,A',d,rfl,hb,h2,h3,hu,?_,?_,?_,?_⟩
 ·apply hc;have:=hx 0 I;rw [e] at this;simpa using this
 ·rw [Nat.add_assoc];apply hc;have:=hx 1 I;rw [e] at this;simpa using this
 ·rw [Nat.add_assoc];apply hc;have:=hx 2 I;rw [e] at this;simpa using this
 ·rw [Nat.add_assoc];apply hc;have:=hx 3 I;rw [e] at this;simpa using this
mutual
def gsz:GV->Nat
 | .mk _ _ _ l=>1+jQ l
def jQ:List GV->Nat
 | []=>0
 | x :: xs=>gsz x+jQ xs
end
theorem vS {x:GV}{l:List GV}(h:x ∈ l):gsz x<=jQ l:=by
 induction l with
 | nil=>cases h
 | cons y ys ih =>
  simp only [jQ];rcases ao.1 h with rfl | h
  ·omega
  ·have:=ih h;omega
theorem iL {x y:GV}(h:y ∈ x.kids):gsz y<gsz x:=by
 obtain ⟨k,n,s,l⟩:=x;have:=vS (l:=l) h;simp only [gsz];omega
theorem aC {α:Type}{l:List α}{i:Nat}{d:α}(h:i<l):l.getD i d ∈ l:=by
 have:l.getD i d=l[i]:=by simp [h]
 rw [this];exact List.getElem_mem h
def oO (a b:ByteArray):Int:=if Op.bytesLess a.toList b.toList then -1 else if a.toList=b.toList then 0 else 1
mutual
def cS:GV->GV->Int
 | .mk k n s l,.mk k' n' s' l'=>if iZ k k'=0 then (if iZ n n'=0 then (if oO s s'=0 then dB l l' else oO s s') else iZ n n') else iZ k k'
def dB:List GV->List GV->Int
 | [],[]=>0
 | [],_ :: _=>-1
 | _ :: _,[]=>1
 | x :: xs,y :: ys=>if cS x y=0 then dB xs ys else cS x y
end
theorem uh (x y:GV):cS x y=if iZ x.kind y.kind=0 then (if iZ x.n y.n=0 then (if oO x.s y.s=0 then dB x.kids y.kids else oO x.s y.s) else iZ x.n y.n) else iZ x.kind y.kind:=by
 obtain ⟨k,n,s,l⟩:=x;obtain ⟨k',n',s',l'⟩:=y;simp only [cS,GV.kind,GV.n,GV.s,GV.kids];rfl
theorem kQ (x y:GV)(xs ys:List GV):dB (x :: xs) (y :: ys)=if cS x y=0 then dB xs ys else cS x y:=by simp only [dB]
end Go.Proofs.YtkoeecdjijfjnaaGreatDoor
namespace Go.Proofs.YtkoeecdjijfjnaaGreatDoor
open Go.RowKit
theorem K6 (s:ByteArray)(w:World) :
  Calls Tryz.prog 138 #[s] w fun e w'=>e=.returned false∧w=w':=by
 go_enter Tryz.func138,Tryz.ntmps138;go_wp2;go_ret;exact ⟨rfl,rfl⟩
theorem L0 (a b:ByteArray)(w:World) :
  Calls Tryz.prog 121 #[a,b] w fun e w'=>e=.returned (.int .i64 (oO a b))∧w=w':=by
 go_enter Tryz.func121,Tryz.ntmps121;go_wp2_with (go_at_call 138;refine (K6 _ _).mono ?_;rintro e w' ⟨rfl,rfl⟩)
 ·rename_i h1
  go_ret;exact ⟨aK (by unfold oO;rw [if_pos h1]),rfl⟩
 ·rename_i h2
  have h1:Op.bytesLess a.toList b.toList=false:=dz;go_ret;exact ⟨aK (by unfold oO;rw [if_neg (by simp [h1]),if_neg jh]),rfl⟩
 ·rename_i h2
  have h1:Op.bytesLess a.toList b.toList=false:=dz;go_ret;exact ⟨aK (by unfold oO;rw [if_neg (by simp [h1]),if_pos jh]),rfl⟩
def eP (f:Nat)(N:Nat):Prop:=∀ (x y:GV)(A B:Option Addr)(c d:Nat)(P Q:Nat->Prop)(w:World),gsz x<N->VAt w P x A c->VAt w Q y B d ->
  qg f #[cN x A c,cN y B d] w (dE (.int .i64 (cS x y)) w)
def ub (a b:List GV)(w:World)(i:Value)(wr:World):Prop:=∃ k:Nat,k<=a.length∧k<=b.length∧i=↑k∧Ext w wr∧dB a b=dB (a.drop k) (b.drop k)
theorem rA (N:Nat)(hS:eP 99 N)(a b:List GV)(P Q:Nat->Prop)(va vb:Value)(w:World)(ha:bZ w P va a)(hb:bZ w Q vb b)(hN:∀ x ∈ a,gsz x<N) :
  qg 122 #[va,vb,.func (.func 99) #[] #[]] w (dE (.int .i64 (dB a b)) w):=by
 have HA:=aYf ha;have HB:=aYf hb;obtain ⟨A,c,ca,rfl,h2,h3,h4,h5⟩:=ha;obtain ⟨A',c',cb,rfl,h2',h3',h4',h5'⟩:=hb;clear h4 h5 h4' h5';have HN:=aYf hN;clear hN;go_enter Tryz.func122,Tryz.ntmps122;go_wp2_with fail;go_loopw [13] (fun i wr=>ub a b w i wr) (fun i _=>a.length - (intOf i).toNat)
 case atStart=>exact ⟨0,af _,af _,rfl,Below.refl _ _,rfl⟩
 case round =>
  obtain ⟨k,hk,hk',rfl,hx,ht⟩:=hrel;have HT:=aYf ht;have HX:=aYf hx;clear ht hx;by_cases hlt:k<a
  ·by_cases hlt':k<b
   ·have HD:=aYf (show dB a b=dB (a.getD k default :: a.drop (k+1)) (b.getD k default :: b.drop (k+1)) by
     rw [HT.out,<- aJ default hlt,<- aJ default hlt'])
    obtain ⟨b1,o1,c1,A1,d1,e1,-,-,-,hv1,g10,g11,g12,g13⟩:=(HA.out.ext HX.out).at_ hlt;obtain ⟨b2,o2,c2,A2,d2,e2,-,-,-,hv2,g20,g21,g22,g23⟩:=(HB.out.ext HX.out).at_ hlt';cases e1;cases e2;have HM:=aYf (HN.out _ (aC (d:=default) hlt));have HV1:=aYf hv1;have HV2:=aYf hv2;clear hv1 hv2;generalize a.getD k default=x at *;generalize b.getD k default=y at *;have lb2:=bB g20;go_wp2_with fail;refine (hS x y A1 A2 d1 d2 P Q _ HM.out (HV1.out.ext (((aq _).alloc' _).alloc' _)) (HV2.out.ext (((aq _).alloc' _).alloc' _))).mono ?_;rintro e w1 ⟨rfl,hx1⟩;have HX1:=aYf hx1;clear hx1;go_wp2_with fail
    ·rename_i hz
     go_ret;refine ⟨aK ?_,((HX.out.alloc' _).alloc' _).trans' HX1.out⟩;rw [HD.out,kQ,if_neg d9]
    ·rename_i hz
     go_roundw
     case rel =>
      refine ⟨k+1,I,I,by go_num,((HX.out.alloc' _).alloc' _).trans' HX1.out,?_⟩;rw [HD.out,kQ,if_pos d9]
     case measure=>simp [intOf];omega
   ·obtain ⟨b1,o1,c1,A1,d1,e1,-,-,-,hv1,g10,g11,g12,g13⟩:=(HA.out.ext HX.out).at_ hlt
    cases e1;clear hv1
    have HE:=aYf (show dB a b=1 by
     rw [HT.out,drop_nil (l:=b) I,aJ default hlt];simp only [dB])
    generalize a.getD k default=x at *;go_wp2_with fail;go_ret;exact ⟨aK HE.out.symm,HX.out.alloc' _⟩
  ·by_cases hlt':k<b
   ·have HE:=aYf (show dB a b=-1 by
     rw [HT.out,drop_nil (l:=a) I,aJ default hlt'];simp only [dB])
    go_wp2_with fail;go_ret;exact ⟨aK HE.out.symm,HX.out⟩
   ·have HE:=aYf (show dB a b=0 by
     rw [HT.out,drop_nil (l:=a) I,drop_nil (l:=b) I];simp only [dB])
    go_wp2_with fail;go_ret;exact ⟨aK HE.out.symm,HX.out⟩
theorem lW (N:Nat)(hS:eP 99 N):eP 99 (N+1):=by
 intro x y A B c d P Q w hN hx hy;have HX:=aYf hx;have HY:=aYf hy;have HN:=aYf (show ∀ z ∈ x.kids,gsz z<N from fun z hz=>by have:=iL hz;omega);have HC:=aYf (uh x y);clear hx hy;go_enter Tryz.func99,Tryz.ntmps99;go_wp2_with fail;refine (kR _ _ _).mono ?_;rintro e w' ⟨rfl,rfl⟩;go_wp2_with fail
 ·rename_i hz
  go_ret;refine ⟨aK ?_,((aq _).alloc' _).alloc' _⟩;rw [HC.out,if_neg d9]
 have hz1:(iZ x.kind y.kind != 0)=false:=dz;have HZ1:=aYf (show iZ x.kind y.kind=0 by simpa using hz1);refine (kR _ _ _).mono ?_;rintro e w' ⟨rfl,rfl⟩;go_wp2_with fail
 ·rename_i hz
  go_ret;refine ⟨aK ?_,((aq _).alloc' _).alloc' _⟩;rw [HC.out,if_pos HZ1.out,if_neg d9]
 have hz2:(iZ x.n y.n != 0)=false:=dz;have HZ2:=aYf (show iZ x.n y.n=0 by simpa using hz2);refine (L0 _ _ _).mono ?_;rintro e w' ⟨rfl,rfl⟩;go_wp2_with fail
 ·rename_i hz
  go_ret;refine ⟨aK ?_,((aq _).alloc' _).alloc' _⟩;rw [HC.out,if_pos HZ1.out,if_pos HZ2.out,if_neg d9]
 have hz3:(oO x.s y.s != 0)=false:=dz;have HZ3:=aYf (show oO x.s y.s=0 by simpa using hz3);refine (rA N hS x.kids y.kids P Q _ _ _ (HX.out.kids.ext (((aq _).alloc' _).alloc' _)) (HY.out.kids.ext (((aq _).alloc' _).alloc' _)) HN.out).mono ?_;rintro e w1 ⟨rfl,hx1⟩;have HX1:=aYf hx1;clear hx1;go_wp2_with fail;go_ret;refine ⟨aK ?_,(((aq _).alloc' _).alloc' _).trans' HX1.out⟩;rw [HC.out,if_pos HZ1.out,if_pos HZ2.out,if_pos HZ3.out]
theorem nD (N:Nat):eP 99 N:=by
 induction N with
 | zero=>intro x y A B c d P Q w hN;omega
 | succ N ih=>exact lW N ih
theorem bT (x y:GV)(A B:Option Addr)(c d:Nat)(P Q:Nat->Prop)(w:World)(hx:VAt w P x A c)(hy:VAt w Q y B d) :
  qg 99 #[cN x A c,cN y B d] w (dE (.int .i64 (cS x y)) w):=nD (gsz x+1) x y A B c d P Q w I hx hy
end Go.Proofs.YtkoeecdjijfjnaaGreatDoor
namespace Go.Proofs.YtkoeecdjijfjnaaGreatDoor
open Go.RowKit
def uN (b:Bool):Int:=if b then -1 else 1
theorem uM (b:Bool):¬ uN b=0:=by cases b <;> simp [uN]
theorem yl {a b:Int}(h:a ≠ b):iZ a b=uN (decide (a<b)):=by
 unfold iZ uN;by_cases h1:a<b
 ·simp [h1]
 ·simp [h1];omega
theorem lP {a b:Int}(h:a=b):iZ a b=0:=by subst h;unfold iZ;simp
theorem Ew {a b:ByteArray}(h:a.toList ≠ b.toList):oO a b=uN (Op.bytesLess a.toList b.toList):=by
 unfold oO uN;by_cases h1:Op.bytesLess a.toList b.toList
 ·simp [h1]
 ·simp [h1,h]
theorem dQ (l:List UInt8):Op.bytesLess l l=false:=by
 induction l with
 | nil=>rfl
 | cons a l ih=>simp [Op.bytesLess,ih]
theorem rE {a b:ByteArray}(h:a.toList=b.toList):oO a b=0:=by
 unfold oO;rw [h,dQ];simp
theorem oX (b:Bool)(w:World) :
  Calls Tryz.prog 114 #[b] w fun e w'=>e=.returned (.int .i64 (uN b))∧w=w':=by
 cases b
 all_goals
  go_enter Tryz.func114,Tryz.ntmps114;go_wp2;go_ret;exact ⟨rfl,rfl⟩
theorem oK (N:Nat)(hS:eP 85 N):eP 85 (N+1):=by
 intro x y A B c d P Q w hN hx hy;have HX:=aYf hx;have HY:=aYf hy;have HN:=aYf (show ∀ z ∈ x.kids,gsz z<N from fun z hz=>by have:=iL hz;omega);have HC:=aYf (uh x y);have hx5:=hx.cap;clear hx hy;go_enter Tryz.func85,Tryz.ntmps85;go_wp2_with (go_at_call 114;refine (oX _ _).mono ?_;rintro e w' ⟨rfl,rfl⟩)
 ·have hz:(x.kind != y.kind)=true:=by assumption
  go_ret;refine ⟨aK ?_,((aq _).alloc' _).alloc' _⟩;rw [HC.out,yl d9,if_neg (uM _)]
 ·have hz1:(x.kind != y.kind)=false:=by assumption
  have hz:(x.n != y.n)=true:=dz;go_ret;refine ⟨aK ?_,((aq _).alloc' _).alloc' _⟩;rw [HC.out,lP (by simpa using hz1),if_pos rfl,yl d9,if_neg (uM _)]
 ·have hz1:(x.kind != y.kind)=false:=by assumption
  have hz2:(x.n != y.n)=false:=dz;have hz:(!x.s.toList == y.s.toList)=true:=dz;go_ret;refine ⟨aK ?_,((aq _).alloc' _).alloc' _⟩;rw [HC.out,lP (by simpa using hz1),if_pos rfl,lP (by simpa using hz2),if_pos rfl,Ew d9,if_neg (uM _)]
 have hz1:(x.kind != y.kind)=false:=dz;have hz2:(x.n != y.n)=false:=dz;have hz3:(!x.s.toList == y.s.toList)=false:=dz
 have HE:=aYf (show cS x y=dB x.kids y.kids by
  rw [HC.out,lP (by simpa using hz1),if_pos rfl,lP (by simpa using hz2),if_pos rfl,rE (by simpa using hz3),if_pos rfl])
 rw [hz1,hz2,hz3];clear hz1 hz2 hz3;have HX0:Hid (Ext w ((w.alloc (qk (qh x A c) 58)).alloc (qk (qh y B d) 58))):=((aq _).alloc' _).alloc' _;have hb1:=kV (u:=some (.slice A x.kids c)) (jF w (qh x A c) 58 (0,0) 3) (qk (qh y B d) 58) U;have hb2:=rK (u:=some (.slice B y.kids d)) (w.alloc (qk (qh x A c) 58)) (qh y B d) 58 (0,0) 3 (w+1) U rfl;generalize (w.alloc (qk (qh x A c) 58)).alloc (qk (qh y B d) 58)=W at *;go_loopw [5] (fun i wr=>ub x.kids y.kids W i wr) (fun i _=>x.kids.length - (intOf i).toNat)
 case atStart=>exact ⟨0,af _,af _,rfl,Below.refl _ _,rfl⟩
 case round =>
  obtain ⟨k,hk,hk',rfl,hx,ht⟩:=hrel;have HT:=aYf ht;have hc1:qc wr w 3 (.slice A x.kids c):=aA hx hb1;have hc2:qc wr (w+1) 3 (.slice B y.kids d):=aA hx hb2;have HW:=aYf hx;have hx0:=HX0.out.trans' hx;have HXK:=aYf (HX.out.kids.ext hx0);have HYK:=aYf (HY.out.kids.ext hx0);have HX00:=HX0;clear ht hx hx0 HX0;by_cases hlt:k<x.kids
  ·by_cases hlt':k<y.kids
   ·have HD:=aYf (show dB x.kids y.kids=dB (x.kids.getD k default :: x.kids.drop (k+1)) (y.kids.getD k default :: y.kids.drop (k+1)) by
     rw [HT.out,<- aJ default hlt,<- aJ default hlt'])
    obtain ⟨b1,o1,c1,A1,d1,e1,-,-,-,hv1,g10,g11,g12,g13⟩:=HXK.out.at_ hlt;obtain ⟨b2,o2,c2,A2,d2,e2,-,-,-,hv2,g20,g21,g22,g23⟩:=HYK.out.at_ hlt';cases e1;cases e2;have HM:=aYf (HN.out _ (aC (d:=default) hlt));have HV1:=aYf hv1;have HV2:=aYf hv2;clear hv1 hv2 HXK HYK HX HY hb1 hb2;generalize x.kids.getD k default=x1 at *;generalize y.kids.getD k default=y1 at *;go_wp2_with fail;go_still_tail 10,av;go_wp2_with fail;refine (hS x1 y1 A1 A2 d1 d2 P Q _ HM.out (HV1.out.ext (aq _).drew') (HV2.out.ext (aq _).drew')).mono ?_;rintro e w1 ⟨rfl,hx1⟩;have HWX:=aYf (HW.out.trans' ((aq _).drew'.trans' hx1));clear hx1;go_wp2_with fail
    ·have hz:(cS x1 y1 != 0)=true:=by assumption
     go_ret;refine ⟨aK ?_,HX00.out.trans' HWX.out⟩;rw [HE.out,HD.out,kQ,if_neg d9]
    ·have hz:(cS x1 y1 != 0)=false:=by assumption
     go_roundw
     case rel =>
      refine ⟨k+1,I,I,by go_num,HWX.out,?_⟩;rw [HD.out,kQ,if_pos d9]
     case measure=>simp [intOf];omega
   ·have HZ:=aYf (show cS x y=1 by
     rw [HE.out,HT.out,drop_nil (l:=y.kids) I,aJ default hlt];simp only [dB])
    clear HXK HYK HX HY hb1 hb2;have hne:((x.kids:Int) == y.kids.length)=false:=by simp;omega
    go_wp2_with (go_at_call 114;refine (oX _ _).mono ?_;rintro e w' ⟨rfl,rfl⟩);go_ret;exact ⟨aK (by rw [HZ.out];simp [uN];omega),HX00.out.trans' HW.out⟩
  ·by_cases hlt':k<y.kids
   ·have HZ:=aYf (show cS x y=-1 by
     rw [HE.out,HT.out,drop_nil (l:=x.kids) I,aJ default hlt'];simp only [dB])
    clear HXK HYK HX HY hb1 hb2;have hne:((x.kids:Int) == y.kids.length)=false:=by simp;omega
    go_wp2_with (go_at_call 114;refine (oX _ _).mono ?_;rintro e w' ⟨rfl,rfl⟩);go_ret;exact ⟨aK (by rw [HZ.out];simp [uN];omega),HX00.out.trans' HW.out⟩
   ·have HZ:=aYf (show cS x y=0 by
     rw [HE.out,HT.out,drop_nil (l:=x.kids) I,drop_nil (l:=y.kids) I];simp only [dB])
    clear HXK HYK HX HY hb1 hb2;have hne:((x.kids:Int) == y.kids.length)=true:=by simp;omega
    go_wp2_with (go_at_call 114;refine (oX _ _).mono ?_;rintro e w' ⟨rfl,rfl⟩);go_ret;exact ⟨aK HZ.out.symm,HX00.out.trans' HW.out⟩
theorem pZ (N:Nat):eP 85 N:=by
 induction N with
 | zero=>intro x y A B c d P Q w hN;omega
 | succ N ih=>exact oK N ih
theorem gS (x y:GV)(A B:Option Addr)(c d:Nat)(P Q:Nat->Prop)(w:World)(hx:VAt w P x A c)(hy:VAt w Q y B d) :
  qg 85 #[cN x A c,cN y B d] w (dE (.int .i64 (cS x y)) w):=pZ (gsz x+1) x y A B c d P Q w I hx hy
end Go.Proofs.YtkoeecdjijfjnaaGreatDoor
