/- Contracts and laws. Conditions: none. -/
import Derived.WalkKit
import Derived.WalkSpells
import Derived.WalkLawsBesides
import Derived.Deep.Draws
import Derived.Deep.QuietTactic
import Derived.BigQuiet
import Derived.StillTailTactics
import Derived.Laws.OwnMore
import Derived.Laws.Rows
import Derived.Test.YtkoeecdjijfjnaaGreatProg
import Derived.Test.YtkoeecdjijfjnaaGreatZ0
set_option linter.all false
set_option maxRecDepth 100000
set_option maxHeartbeats 8000000
namespace Go.Proofs.YtkoeecdjijfjnaaGreat
open Go.RowKit
def I64 (n:Int):Prop:=-9223372036854775808<=n∧n<=9223372036854775807
abbrev Ext (w w':World):Prop:=Below w w w'
theorem Ext.trans' {a b c}(h:Ext a b)(k:Ext b c):Ext a c:=Below.trans h (Below.mono k h.size)
theorem Ext.drewN (w n):Ext w (w.drewN n):=⟨rfl,rfl,rfl,ab _,fun _ _=>rfl⟩
theorem iA (w:World)(cs t)(fr:Nat × Nat)(i):(w.alloc (.cells cs t fr)).cell? (qt w i)=cs[i]?:=by
 have:(w.alloc (.cells cs t fr)).heap[w.heap.size]?=some (.cells cs t fr):=heap_alloc_new w _;simp only [World.cell?,this];simp
theorem Ext.refl (w):Ext w w:=Below.refl _ _
theorem aq (w):Ext w w:=Ext.refl w
theorem Ext.alloc' {w w1}(h:Ext w w1)(o:Obj):Ext w (w1.alloc o):=Below.alloc h h.size o
theorem Ext.drewN' {w w1}(h:Ext w w1)(n):Ext w (w1.drewN n):=⟨h.os,h.tape,h.output,h.size,h.block⟩
theorem Ext.drew' {w w1}(h:Ext w w1):Ext w w1.drew:=⟨h.os,h.tape,h.output,h.size,h.block⟩
theorem Ext.setCell' {w w1}(h:Ext w w1){p:Addr}(hp:w<=p.block)(u):Ext w (w1.setCell p u):=Below.setCell h hp u
def Sl (w:World)(P:Nat->Prop)(size:Nat)(A:Option Addr)(n:Nat)(cs:List Value):Prop :=
 cs.length=n*size∧(0<n->∃ b off,A=some ↑(qt b off)∧P b∧∀ j u,cs[j]?=some u->qc w b (off+j) u)
theorem aX {w b off u}(h:qc w b off u):b<w:=by
 rcases Nat.lt_or_ge b w.heap.size with h1 | h1
 ·exact h1
 ·have:w.heap[b]?=none:=Array.getElem?_eq_none h1
  simp [World.cell?,this] at h
def aB (P:Nat->Prop)(w w':World):Prop:=∀ b,b<w.heap.size->P b->w'.heap[b]?=w.heap[b]?
theorem aB.of_ext {P w w'}(h:Ext w w'):aB P w w':=fun b hb _=>h.block b hb
theorem Sl.keep {w w' P Q size A n cs}(h:Sl w P size A n cs)
  (hk:aB P w w')(hPQ:∀ b,P b->Q b):Sl w' Q size A n cs :=
 ⟨h.1,fun hn=>by
  obtain ⟨b,off,e,hb,hc⟩:=h.2 hn;exact ⟨b,off,e,hPQ b hb,fun j u hu=>(World.cell?_of_block (w:=w) (w':=w') (hk b (aX (hc j u hu)) hb)).trans (hc j u hu)⟩⟩
def Ints (w:World)(P:Nat->Prop)(v:Value)(l:List Int):Prop :=
 ∃ A c,v=.slice A l c∧l<=c∧(l.length<=17592186044416∧c<=9223372036854775807)∧(∀ x ∈ l,I64 x)∧Sl w P 1 A l (l.map (Value.int .i64))
theorem Ints.keep {w w' P Q v l}(h:Ints w P v l)
  (hk:aB P w w')(hPQ:∀ b,P b->Q b):Ints w' Q v l:=by
 obtain ⟨A,c,hv,h1,h2,h3,h4⟩:=h;exact ⟨A,c,hv,h1,h2,h3,h4.keep hk hPQ⟩
theorem Ints.ext {w w' P v l}(h:Ints w P v l)(hx:Ext w w'):Ints w' P v l:=h.keep (aB.of_ext hx) (fun _ h=>h)
theorem tF (w:World)(cs t)(fr:Nat × Nat)(i b:Nat)(hb:b=w){u}(hu:cs[i]?=u):(w.alloc (.cells cs t fr)).cell? (qt b i)=u:=by
 subst hb;rw [iA];exact hu
theorem aA {w w'}(hx:Ext w w'){b off u}(h:qc w b off u):qc w' b off u:=by
 rw [<- h];exact hx.cell (p:=qt b off) (aX h)
theorem kW {w:World}{b off u}(h:w.cell? (qt b off)=u)(o:Obj):b<w->(w.alloc o).cell? (qt b off)=u:=fun hb=>by
 rw [<- h];exact World.cell?_alloc_lt w o _ hb
structure Fr (M:Nat->Prop)(w w':World):Prop where
 os:w'.os=w.os
 tape:w'.tape=w.tape
 output:w'.output=w.output
 size:w.heap.size<=w'
 block:∀ k,k<w.heap.size->¬ M k->w'.heap[k]?=w.heap[k]?
theorem Fr.refl (M w):Fr M w w:=⟨rfl,rfl,rfl,ab _,fun _ _ _=>rfl⟩
theorem au (M w):Fr M w w:=Fr.refl M w
theorem Fr.of_ext {M w w'}(h:Ext w w'):Fr M w w':=⟨h.os,h.tape,h.output,h.size,fun k hk _=>h.block k hk⟩
theorem ar {M w w'}(h:Ext w w'):Fr M w w':=Fr.of_ext h
theorem Fr.ext {w w'}(h:Fr (fun _=>False) w w'):Ext w w':=⟨h.os,h.tape,h.output,h.size,fun k hk=>h.block k hk (fun h=>h)⟩
theorem Fr.trans {M a b c}(h:Fr M a b)(k:Fr M b c):Fr M a c :=
 ⟨k.os.trans h.os,k.tape.trans h.tape,k.output.trans h.output,ae h.size k.size,fun i hi hm=>(k.block i (ac hi h.size) hm).trans (h.block i hi hm)⟩
theorem Fr.trans_new {M a b c}(h:Fr M a b)(k:Fr (fun i=>M i∨a<=i) b c):Fr M a c :=
 ⟨k.os.trans h.os,k.tape.trans h.tape,k.output.trans h.output,ae h.size k.size,fun i hi hm=>(k.block i (ac hi h.size) (fun h=>h.elim hm (fun h=>by omega))).trans (h.block i hi hm)⟩
theorem Fr.mono {M N w w'}(h:Fr M w w')(hMN:∀ b,M b->N b):Fr N w w':=⟨h.os,h.tape,h.output,h.size,fun k hk hn=>h.block k hk (fun hm=>hn (hMN k hm))⟩
theorem Fr.alloc {M w w1}(h:Fr M w w1)(o:Obj):Fr M w (w1.alloc o):=h.trans (ar ((aq _).alloc' o))
theorem Fr.drewN {M w w1}(h:Fr M w w1)(n):Fr M w (w1.drewN n):=h.trans (ar ((aq _).drewN' n))
theorem Fr.drew {M w w1}(h:Fr M w w1):Fr M w w1.drew:=h.trans (ar (aq _).drew')
theorem Fr.setCell {M w w1}(h:Fr M w w1){p:Addr}(hp:M p.block∨w<=p.block)(u):Fr M w (w1.setCell p u) :=
 h.trans_new ⟨rfl,rfl,rfl,gj,fun k _ hk=>Below.heap_setCell _ _ _ _ (fun e=>hk (e ▸ hp))⟩
theorem Fr.new_ext {M w w'}(h:Fr M w w')(hM:∀ b,M b->w<=b):Ext w w':=⟨h.os,h.tape,h.output,h.size,fun k hk=>h.block k hk (fun hm=>by have:=hM k hm;omega)⟩
theorem aB.of_fr {P M w w'}(h:Fr M w w')(hPM:∀ b,P b->¬ M b):aB P w w':=fun b hb hp=>h.block b hb (hPM b hp)
def Blk (w:World)(g:Nat)(t:TypeId)(cs:Array Value):Prop:=w.heap[g]?=some (.cells cs t (0,0))
section
variable {w w':World}{g:Nat}{t:TypeId}{cs:Array Value}
theorem Blk.lt (h:Blk w g t cs):g<w:=by
 rcases Nat.lt_or_ge g w.heap.size with hlt | hge
 ·exact hlt
 ·unfold Blk at h;rw [Array.getElem?_eq_none hge] at h;cases h
theorem Blk.cell (h:Blk w g t cs)(i):w.cell? (qt g i)=cs[i]?:=cell_of_row w g i cs t (0,0) h
theorem Blk.cell' (h:Blk w g t cs)(i){u}(hu:cs[i]?=some u):qc w g i u:=(h.cell i).trans hu
theorem Blk.frozen (h:Blk w g t cs)(i):w.frozen? (qt g i)=false:=by
 unfold Blk at h;simp [World.frozen?,h]
theorem Blk.new (w:World)(t cs):Blk (w.alloc (qk cs t)) w t cs:=heap_alloc_new w _
theorem aw (w:World)(t cs):Blk (w.alloc (qk cs t)) w t cs:=Blk.new w t cs
theorem Blk.new' (w:World)(t cs){g:Nat}(hg:g=w):Blk (w.alloc (qk cs t)) g t cs:=by subst hg;exact heap_alloc_new w _
theorem az (w:World)(t cs){g:Nat}(hg:g=w):Blk (w.alloc (qk cs t)) g t cs:=Blk.new' w t cs hg
theorem Blk.drew (h:Blk w g t cs):Blk w.drew g t cs:=h
theorem Blk.drewN (h:Blk w g t cs)(n):Blk (w.drewN n) g t cs:=h
theorem Blk.alloc (h:Blk w g t cs)(o:Obj):Blk (w.alloc o) g t cs:=(Below.heap_alloc w o g h.lt).trans h
theorem Blk.set_ (h:Blk w g t cs)(i u):Blk (w.setCell (qt g i) u) g t (cs.setIfInBounds i u):=by
 unfold Blk at h ⊢;simp [World.setCell,Array.getElem?_modify,h]
theorem Blk.far (h:Blk w g t cs){p}(hp:g ≠ p.block)(u):Blk (w.setCell p u) g t cs:=(Below.heap_setCell w p u g hp).trans h
theorem Blk.fr {M}(h:Blk w g t cs)(hb:Fr M w w')(hg:¬ M g):Blk w' g t cs:=(hb.block g h.lt hg).trans h
theorem Blk.ext (h:Blk w g t cs)(hb:Ext w w'):Blk w' g t cs:=(hb.block g h.lt).trans h
end
end Go.Proofs.YtkoeecdjijfjnaaGreat
namespace Go.Proofs.YtkoeecdjijfjnaaGreat
def iC (n m:Int):Int:=if n<0 then (-(n+1)) % m else n % m
theorem kY {n m}(hm:1<=m):0<=iC n m∧iC n m<m:=by
 unfold iC;split
 ·exact ⟨Int.emod_nonneg _ I,Int.emod_lt_of_pos _ I⟩
 ·exact ⟨Int.emod_nonneg _ I,Int.emod_lt_of_pos _ I⟩
def iU (a b:Int):Int:=if a<b then -1 else if b<a then 1 else 0
def jI:List Int->List Int->Int
 | [],[]=>0
 | [],_ :: _=>-1
 | _ :: _,[]=>1
 | a :: l,b :: m=>if iU a b=0 then jI l m else iU a b
def fC (a b:List Int):Int:=if iU a b.length=0 then jI a b else iU a b
theorem aH {α}{l:List α}{k:Nat}(d)(h:k<l):l.drop k=l.getD k d :: l.drop (k+1):=by
 rw [List.drop_eq_getElem_cons h];simp [h]
theorem drop_nil {α}{l:List α}{k:Nat}(h:l<=k):l.drop k=[]:=List.drop_eq_nil_of_le h
theorem aR {α}{l:List α}{k:Nat}(d)(h:k<l):l.take (k+1)=l.take k ++ [l.getD k d]:=by
 rw [List.take_succ_eq_append_getElem h];simp [h]
theorem aQw {x y}(h:x<y):iU x y=-1:=by unfold iU;rw [if_pos h]
theorem aQx {x y}(h:y<x):iU x y=1:=by unfold iU;rw [if_neg I,if_pos h]
theorem aIp {x y}(h:¬ x<y)(h':¬ y<x):iU x y=0:=by unfold iU;rw [if_neg h,if_neg h']
theorem aQt {x y}(h:x<y)(xs ys):jI (x :: xs) (y :: ys)=-1:=by simp [jI,aQw h]
theorem aQu {x y}(h:y<x)(xs ys):jI (x :: xs) (y :: ys)=1:=by simp [jI,aQx h]
theorem aQv {x y}(h:¬ x<y)(h':¬ y<x)(xs ys):jI (x :: xs) (y :: ys)=jI xs ys:=by simp [jI,aIp h h']
end Go.Proofs.YtkoeecdjijfjnaaGreat
namespace Go.Proofs.YtkoeecdjijfjnaaGreat
open Go.RowKit
theorem cQ {w b off}{l:List Int}{k:Nat}(hk:k<l)
   (hc:∀ j u,(l.map (Value.int .i64))[j]?=some u->qc w b (off+j) u):qc w b (off+k) (.int .i64 (l.getD k 0)):=by
 apply hc;simp [hk]
theorem aI {k a b}(h:a=b):Ending.returned (.int k a)=.returned (.int k b):=jq
theorem aC {a b:Bool}(h:a=b):Ending.returned a=.returned b:=jq
def aWs (v:Value)(w:World)(e:Ending)(w':World):Prop:=e=.returned v∧∃ n,w'=w.drewN n
theorem kZ (n m:Int)(w)(hn:I64 n)(hm:1<=m)(hm2:m<=9223372036854775807) :
  Calls Tryz.prog 9 #[↑n,↑m] w fun e w'=>e=.returned (.int .i64 (iC n m))∧w=w':=by
 obtain ⟨hn1,hn2⟩:=hn;by_cases h0:n<0
 ·go_enter Tryz.func9,Tryz.ntmps9
  go_wp2;go_ret;refine ⟨aI ?_,rfl⟩;unfold iC;rw [if_pos h0,<- Int.neg_tmod,Int.tmod_eq_emod_of_nonneg I]
 ·go_enter Tryz.func9,Tryz.ntmps9
  go_wp2;go_ret;refine ⟨aI ?_,rfl⟩;unfold iC;rw [if_neg I]
theorem aHv (n:Int)(w) :
  Calls Tryz.prog 113 #[↑n] w fun e w'=>e=.returned false∧w=w':=by
 go_enter Tryz.func113,Tryz.ntmps113;go_wp2;go_ret;exact ⟨rfl,rfl⟩
theorem kT (a b:Int)(w) :
  Calls Tryz.prog 62 #[↑a,↑b] w fun e w'=>e=.returned (.int .i64 (iU a b))∧w=w':=by
 go_enter Tryz.func62,Tryz.ntmps62;go_wp2_with (go_at_call 113;refine (aHv _ _).mono ?_;rintro e w' ⟨rfl,rfl⟩)
 all_goals
  go_ret;refine ⟨aI ?_,rfl⟩;unfold iU
 ·rw [if_pos du]
 ·rw [if_neg I,if_pos du]
 ·rw [if_neg I,if_neg I]
def aQ3 (a b:List Int)(w:World)(i:Value)(wr:World):Prop:=∃ k n:Nat,k<=a.length∧i=↑k∧wr=w.drewN n∧a.take k=b.take k
theorem jU (a b P Q va vb w)(ha:Ints w P va a)(hb:Ints w Q vb b) :
  qg 24 #[va,vb] w (aWs (decide (a=b)) w):=by
 obtain ⟨A,c,rfl,h1,h2,h3,h4⟩:=ha;obtain ⟨A',c',rfl,h1',h2',h3',h4'⟩:=hb;clear h3 h3';have H4:=a4b h4;have H4':=a4b h4';clear h4 h4';generalize hna:a.length=na at *;generalize hnb:b.length=nb at *;have HA:=a4b hna;have HB:=a4b hnb;clear hna hnb;by_cases hl:na=nb
 ·subst hl
  go_enter Tryz.func24,Tryz.ntmps24;go_wp2;go_loopw [5] (fun i wr=>aQ3 a b w i wr) (fun i _=>na - (intOf i).toNat)
  case atStart=>exact ⟨0,0,af _,rfl,rfl,rfl⟩
  case round =>
   obtain ⟨k,n,hk,rfl,rfl,ht⟩:=hrel;rw [HA.out] at hk;have HT:=a4b ht;clear ht;by_cases hlt:k<na
   ·obtain ⟨b1,o1,rfl,-,hc1⟩:=H4.out.2 I
    obtain ⟨b2,o2,rfl,-,hc2⟩:=H4'.out.2 I;have g1:=cQ (k:=k) i7 hc1;have g2:=cQ (k:=k) (by rw [HB.out];omega) hc2;clear hc1 hc2;generalize hx:a.getD k 0=x at *;generalize hy:b.getD k 0=y at *;have HX:=a4b hx;have HY:=a4b hy;clear hx hy;by_cases hxy:x=y
    ·subst hxy
     go_wp2;go_quiet (fail);go_wp2;go_roundw
     case rel =>
      refine ⟨k+1,_,i7,by go_num,rfl,?_⟩;rw [aR 0 i7,aR 0 (by rw [HB.out];omega),HT.out,HX.out,HY.out]
     case measure=>simp [intOf];omega
    ·have hxy':(x != y)=true:=by simp [hxy]
     have HN:=a4b hxy;clear hxy;go_wp2;go_quiet (fail);go_wp2;go_ret;refine ⟨aC ?_,_,World.drewN_drewN _ _ _⟩;symm;rw [decide_eq_false_iff_not];rintro rfl;exact HN.out (HX.out.symm.trans HY.out)
   ·go_wp2
    go_ret;refine ⟨aC ?_,_,rfl⟩;have:=HT.out;rw [an i7,an (by rw [HB.out];omega)] at this;simp [this]
 ·have hl':((na:Int) != (nb:Int))=true:=by simp;omega
  go_enter Tryz.func24,Tryz.ntmps24;go_wp2;go_ret;refine ⟨aC ?_,0,rfl⟩;symm;rw [decide_eq_false_iff_not];rintro rfl;exact hl (HA.out.symm.trans HB.out)
def xB (l:List Int)(i m:Int):Int:=if i<0∨(l:Int)<=i then 0 else iC (l.getD i.toNat 0) m
theorem kF {l i m}(hm:1<=m):0<=xB l i m∧xB l i m<m:=by
 unfold xB;split
 ·omega
 ·exact kY hm
theorem aEs {l:List Int}(h:∀ x ∈ l,I64 x)(k):I64 (l.getD k 0):=by
 by_cases hk:k<l
 ·have:l.getD k 0=l[k]:=by simp [hk]
  rw [this];exact h _ (List.getElem_mem hk)
 ·have:l.getD k 0=0:=by simp [hk]
  rw [this];unfold I64;omega
theorem kG (l)(i m:Int)(P v w)(hv:Ints w P v l)(hi:I64 i)(hm:1<=m)(hm2:m<=9223372036854775807) :
  Calls Tryz.prog 38 #[v,↑i,↑m] w fun e w'=>e=.returned (.int .i64 (xB l i m))∧w=w':=by
 obtain ⟨A,c,rfl,h1,h2,h3,h4⟩:=hv;obtain ⟨hi1,hi2⟩:=hi;by_cases h0:i<0
 ·go_enter Tryz.func38,Tryz.ntmps38
  go_wp2;go_ret;exact ⟨aI (by unfold xB;rw [if_pos I]),rfl⟩
 ·by_cases h5:(l:Int)<=i
  ·have h0':decide (i<0)=false:=by simpa using h0
   go_enter Tryz.func38,Tryz.ntmps38;go_wp2;go_ret;exact ⟨aI (by unfold xB;rw [if_pos I]),rfl⟩
  ·obtain ⟨k,rfl⟩:=Int.eq_ofNat_of_zero_le (show 0<=i by omega)
   have hk:k<l:=I;obtain ⟨b1,o1,rfl,-,hc1⟩:=h4.2 I;have g1:=cQ hk hc1;have hx:=aEs h3 k
   have hr:xB l k m=iC (l.getD k 0) m:=by
    unfold xB;rw [if_neg I];rfl
   rw [hr];clear hr h3 hc1;generalize l.getD k 0=x at *;go_enter Tryz.func38,Tryz.ntmps38;go_wp2_with (go_at_call 9;refine (kZ _ _ _ hx hm hm2).mono ?_;rintro e w' ⟨rfl,rfl⟩);go_ret;exact ⟨rfl,rfl⟩
def aN3 (a b:List Int)(w:World)(i:Value)(wr:World):Prop:=∃ k n:Nat,k<=a.length∧k<=b.length∧i=↑k∧wr=w.drewN n∧jI a b=jI (a.drop k) (b.drop k)
theorem oJ (a b P Q va vb w)(ha:Ints w P va a)(hb:Ints w Q vb b) :
  qg 63 #[va,vb] w (aWs (.int .i64 (jI a b)) w):=by
 obtain ⟨A,c,rfl,h1,h2,h3,h4⟩:=ha;obtain ⟨A',c',rfl,h1',h2',h3',h4'⟩:=hb;clear h3 h3';have H4:=a4b h4;have H4':=a4b h4';clear h4 h4';go_enter Tryz.func63,Tryz.ntmps63;go_wp2;go_loopw [11] (fun i wr=>aN3 a b w i wr) (fun i _=>a.length - (intOf i).toNat)
 case atStart=>exact ⟨0,0,af _,af _,rfl,rfl,rfl⟩
 case round =>
  obtain ⟨k,n,hk,hk',rfl,rfl,ht⟩:=hrel;have HT:=a4b ht;clear ht;by_cases hlt:k<a
  ·obtain ⟨b1,o1,rfl,-,hc1⟩:=H4.out.2 I
   have g1:=cQ hlt hc1;by_cases hlt':k<b
   ·obtain ⟨b2,o2,rfl,-,hc2⟩:=H4'.out.2 I
    have g2:=cQ hlt' hc2;clear hc1 hc2
    have HD:=a4b (show jI a b=jI (a.getD k 0 :: a.drop (k+1)) (b.getD k 0 :: b.drop (k+1)) by
     rw [HT.out,<- aH 0 hlt,<- aH 0 hlt'])
    generalize a.getD k 0=x at *;generalize b.getD k 0=y at *;go_wp2_with (go_at_call 62;refine (kT _ _ _).mono ?_;rintro e w' ⟨rfl,rfl⟩)
    ·rename_i hz
     go_ret;refine ⟨aI ?_,_,rfl⟩;rw [HD.out];simp only [jI];rw [if_neg dw]
    ·rename_i hz
     go_roundw
     case rel =>
      refine ⟨k+1,n,I,I,by go_num,rfl,?_⟩;rw [HD.out];simp only [jI];rw [if_pos dw]
     case measure=>simp [intOf];omega
   ·clear hc1
    go_wp2;go_ret;refine ⟨aI ?_,_,rfl⟩;rw [HT.out,drop_nil (l:=b) I,aH 0 hlt];rfl
  ·by_cases hlt':k<b
   ·go_wp2
    go_ret;refine ⟨aI ?_,_,rfl⟩;rw [HT.out,drop_nil (l:=a) I,aH 0 hlt'];rfl
   ·go_wp2
    go_ret;refine ⟨aI ?_,_,rfl⟩;rw [HT.out,drop_nil (l:=a) I,drop_nil (l:=b) I];rfl
theorem tX (a b P Q va vb w)(ha:Ints w P va a)(hb:Ints w Q vb b) :
  qg 105 #[va,vb] w (aWs (.int .i64 (fC a b)) w):=by
 obtain ⟨A,c,rfl,h1,h2,h3,h4⟩:=ha;obtain ⟨A',c',rfl,h1',h2',h3',h4'⟩:=hb;clear h3 h3';have H4:=a4b h4;have H4':=a4b h4';clear h4 h4';by_cases hl1:a.length<b
 ·go_enter Tryz.func105,Tryz.ntmps105
  go_wp2;go_ret;refine ⟨aI ?_,0,rfl⟩;simp [fC,iU,hl1]
 by_cases hl2:b.length<a
 ·go_enter Tryz.func105,Tryz.ntmps105
  go_wp2;go_ret;refine ⟨aI ?_,0,rfl⟩;simp [fC,iU,hl1,hl2]
 have HP:=a4b (show fC a b=jI a b by unfold fC;rw [if_pos (by unfold iU;rw [if_neg I,if_neg I])]);go_enter Tryz.func105,Tryz.ntmps105;go_wp2;go_loopw [5] (fun i wr=>aN3 a b w i wr) (fun i _=>a.length - (intOf i).toNat)
 case atStart=>exact ⟨0,0,af _,af _,rfl,rfl,rfl⟩
 case round =>
  obtain ⟨k,n,hk,hk',rfl,rfl,ht⟩:=hrel;have HT:=a4b ht;clear ht;by_cases hlt:k<a
  ·have hlt':k<b:=by omega
   obtain ⟨b1,o1,rfl,-,hc1⟩:=H4.out.2 I;have g1:=cQ hlt hc1;obtain ⟨b2,o2,rfl,-,hc2⟩:=H4'.out.2 I;have g2:=cQ hlt' hc2;clear hc1 hc2
   have HD:=a4b (show jI a b=jI (a.getD k 0 :: a.drop (k+1)) (b.getD k 0 :: b.drop (k+1)) by
    rw [HT.out,<- aH 0 hlt,<- aH 0 hlt'])
   generalize a.getD k 0=x at *;generalize b.getD k 0=y at *;by_cases hxy:x<y
   ·go_wp2
    go_quiet (fail);go_wp2;go_ret;refine ⟨aI ?_,_,World.drewN_drewN _ _ _⟩;rw [HP.out,HD.out,aQt I]
   by_cases hyx:y<x
   ·go_wp2
    go_quiet (fail);go_wp2;go_quiet (fail);go_wp2;go_ret;refine ⟨aI ?_,_,(congrArg (World.drewN · _) (World.drewN_drewN _ _ _)).trans (World.drewN_drewN _ _ _)⟩;rw [HP.out,HD.out,aQu I]
   go_wp2;go_quiet (fail);go_wp2;go_quiet (fail);go_wp2;go_roundw
   case rel =>
    refine ⟨k+1,_,I,I,by go_num,rfl,?_⟩;rw [HD.out,aQv I I]
   case measure=>simp [intOf];omega
  ·go_wp2
   go_ret;refine ⟨aI ?_,_,rfl⟩;rw [HP.out,HT.out,drop_nil (l:=a) I,drop_nil (l:=b) I];rfl
def orI (x y:Int):Int:=if x=0 then y else x
theorem aUh (x y:Int)(b w)(hc0:qc w b 0 x)(hc1:qc w b 1 y) :
  Calls Tryz.prog 61 #[.slice (qp b) 2 2] w fun e w'=>e=.returned (.int .i64 (orI x y))∧w=w':=by
 go_enter Tryz.func61,Tryz.ntmps61;go_wp2;refine wp_loop_rounds 3 ?_;rw [rounds_succ];by_cases hx:x=0
 ·subst hx
  go_wp2;rw [rounds_succ];by_cases hy:y=0
  ·subst hy
   go_wp2;rw [rounds_succ];go_wp2;go_ret;exact ⟨rfl,rfl⟩
  ·have hy':(y != 0)=true:=by simp [hy]
   go_wp2;go_ret;exact ⟨rfl,rfl⟩
 ·have hx':(x != 0)=true:=by simp [hx]
  go_wp2;go_ret;exact ⟨aI (by unfold orI;rw [if_neg hx]),rfl⟩
def dI (v:Value)(w:World)(e:Ending)(w':World):Prop:=e=.returned v∧Ext w w'
theorem pU (a b P Q va vb w)(ha:Ints w P va a)(hb:Ints w Q vb b) :
  qg 25 #[va,vb] w (dI (.int .i64 (fC a b)) w):=by
 have hC:=oJ a b P Q va vb w ha hb;have HC:=a4b hC;clear hC;obtain ⟨A,c,rfl,h1,h2,h3,h4⟩:=ha;obtain ⟨A',c',rfl,h1',h2',h3',h4'⟩:=hb;clear h3 h3' h4 h4';go_enter Tryz.func25,Tryz.ntmps25;go_wp2_with fail;refine (kT _ _ _).mono ?_;rintro e w' ⟨rfl,rfl⟩;go_wp2_with fail;refine HC.out.mono ?_;rintro e w' ⟨rfl,n,rfl⟩;go_wp2_with fail;refine (aUh (iU a b) (jI a b) _ _ ?_ ?_).mono ?_
 ·exact iA (w.drewN n) _ _ _ 0
 ·exact iA (w.drewN n) _ _ _ 1
 rintro e w' ⟨rfl,rfl⟩;go_wp2_with fail;go_ret;refine ⟨aI ?_,?_⟩
 ·unfold orI fC;rfl
 exact (Ext.drewN w n).alloc O _
end Go.Proofs.YtkoeecdjijfjnaaGreat
namespace Go.Proofs.YtkoeecdjijfjnaaGreat
open Go.RowKit
inductive GV:Type where
 | mk (kind n:Int) (s:ByteArray) (kids:List GV)
def GV.kind:GV->Int | .mk k _ _ _=>k
def GV.n:GV->Int | .mk _ n _ _=>n
def GV.s:GV->ByteArray | .mk _ _ s _=>s
def GV.kids:GV->List GV | .mk _ _ _ l=>l
inductive Zq0 (x:GV)(A:Option Addr)(c:Nat)|z
abbrev qh (x:GV)(A:Option Addr)(c:Nat):Zq0 x A c:=.z
instance {x:GV}{A:Option Addr}{c:Nat}:CoeOut (Zq0 x A c) (Array Value):=⟨fun _=>#[↑x.kind,↑x.n,.string x.s,.slice A x.kids.length c]⟩
instance {x:GV}{A:Option Addr}{c:Nat}:CoeOut (Zq0 x A c) (List Value):=⟨fun _=>[.int .i64 x.kind,.int .i64 x.n,.string x.s,.slice A x.kids.length c]⟩
instance:Inhabited GV:=⟨.mk 0 0 ByteArray.empty []⟩
def CAP:Nat:=17592186044416
mutual
def RV (w:World)(P:Nat->Prop):GV->List Value->Prop
 | .mk k n s kids,cs=>I64 k∧I64 n∧s.size<=17592186044416∧∃ A c css,cs=[.int .i64 k,.int .i64 n,.string s,.slice A kids c]∧kids<=c∧(kids.length<=17592186044416∧c<=9223372036854775807) ∧
   Sl w P 4 A kids css∧RVs w P kids css
def RVs (w:World)(P:Nat->Prop):List GV->List Value->Prop
 | [],cs=>cs=[]
 | x :: xs,cs=>∃ c1 c2,cs=c1 ++ c2∧RV w P x c1∧RVs w P xs c2
end
def bT (w:World)(P:Nat->Prop)(v:Value)(l:List GV):Prop :=
 ∃ A c css,v=.slice A l c∧l<=c∧(l.length<=17592186044416∧c<=9223372036854775807)∧Sl w P 4 A l css∧RVs w P l css
theorem RV.mk_iff {w P k n s kids cs} :
  RV w P (.mk k n s kids) cs ↔ I64 k∧I64 n∧s.size<=17592186044416∧∃ v,cs=[.int .i64 k,.int .i64 n,.string s,v]∧bT w P v kids:=by
 unfold RV bT;constructor
 ·rintro ⟨h1,h2,h3,A,c,css,rfl,h4⟩
  exact ⟨h1,h2,h3,_,rfl,A,c,css,rfl,h4⟩
 ·rintro ⟨h1,h2,h3,v,rfl,A,c,css,rfl,h4⟩
  exact ⟨h1,h2,h3,A,c,css,rfl,h4⟩
theorem RV.open_ {w P x cs}(h:RV w P x cs) :
  I64 x.kind∧I64 x.n∧x.s.size<=17592186044416∧∃ v,cs=[.int .i64 x.kind,.int .i64 x.n,.string x.s,v]∧bT w P v x.kids:=by
 obtain ⟨k,n,s,kids⟩:=x;exact RV.mk_iff.1 h
theorem RV.len {w P x cs}(h:RV w P x cs):cs.length=4:=by
 obtain ⟨k,n,s,kids⟩:=x;obtain ⟨_,_,_,v,rfl,_⟩:=RV.mk_iff.1 h;rfl
theorem RVs.len {w P l cs}(h:RVs w P l cs):cs.length=l*4:=by
 induction l generalizing cs with
 | nil=>simp only [RVs] at h;subst h;rfl
 | cons x xs ih =>
  simp only [RVs] at h;obtain ⟨c1,c2,rfl,h1,h2⟩:=h;have:=ih h2;have:=h1.len;simp only [aa,ai];omega
mutual
theorem RV.keep {w w' P Q}(hk:aB P w w')(hPQ:∀ b,P b->Q b):∀ {x cs},RV w P x cs->RV w' Q x cs
 | .mk k n s kids,cs,h=>by
  simp only [RV] at h ⊢;obtain ⟨h1,h2,h3,A,c,css,h4,h5,h6,h7,h8⟩:=h;exact ⟨h1,h2,h3,A,c,css,h4,h5,h6,h7.keep hk hPQ,RVs.keep hk hPQ h8⟩
theorem RVs.keep {w w' P Q}(hk:aB P w w')(hPQ:∀ b,P b->Q b):∀ {l cs},RVs w P l cs->RVs w' Q l cs
 | [],cs,h=>by simp only [RVs] at h ⊢;exact h
 | x :: xs,cs,h=>by
  simp only [RVs] at h ⊢;obtain ⟨c1,c2,h1,h2,h3⟩:=h;exact ⟨c1,c2,h1,RV.keep hk hPQ h2,RVs.keep hk hPQ h3⟩
end
theorem bT.keep {w w' P Q v l}(h:bT w P v l)(hk:aB P w w')(hPQ:∀ b,P b->Q b):bT w' Q v l:=by
 obtain ⟨A,c,css,h1,h2,h3,h4,h5⟩:=h;exact ⟨A,c,css,h1,h2,h3,h4.keep hk hPQ,RVs.keep hk hPQ h5⟩
theorem bT.ext {w w' P v l}(h:bT w P v l)(hx:Ext w w'):bT w' P v l:=h.keep (aB.of_ext hx) (fun _ h=>h)
theorem RVs.append {w P a b ca cb}(ha:RVs w P a ca)(hb:RVs w P b cb):RVs w P (a ++ b) (ca ++ cb):=by
 induction a generalizing ca with
 | nil=>simp only [RVs] at ha;subst ha;exact hb
 | cons x xs ih =>
  simp only [RVs] at ha;obtain ⟨c1,c2,rfl,h1,h2⟩:=ha;simp only [List.cons_append,RVs];exact ⟨c1,c2 ++ cb,O,h1,ih h2⟩
theorem RVs.one {w P x c}(h:RV w P x c):RVs w P [x] c:=by
 simp only [RVs];exact ⟨c,[],O,h,rfl⟩
theorem RVs.drop {w P l cs}(h:RVs w P l cs)(k):RVs w P (l.drop k) (cs.drop (k*4)):=by
 induction k generalizing l cs with
 | zero=>simpa using h
 | succ k ih =>
  cases l with
  | nil=>simp only [RVs] at h;subst h;simp [RVs]
  | cons x xs =>
   simp only [RVs] at h;obtain ⟨c1,c2,rfl,h1,h2⟩:=h;have e:(k+1)*4=c1+k*4:=by rw [h1.len];omega
   rw [e,List.drop_length_add_append];exact ih h2
theorem RVs.take {w P l cs}(h:RVs w P l cs)(k):RVs w P (l.take k) (cs.take (k*4)):=by
 induction k generalizing l cs with
 | zero=>simp [RVs]
 | succ k ih =>
  cases l with
  | nil=>simp only [RVs] at h;subst h;simp [RVs]
  | cons x xs =>
   simp only [RVs] at h;obtain ⟨c1,c2,rfl,h1,h2⟩:=h;have e:(k+1)*4=c1+k*4:=by rw [h1.len];omega
   rw [e,List.take_length_add_append];simp only [List.take_succ_cons,RVs];exact ⟨c1,_,rfl,h1,ih h2⟩
theorem RVs.get {w P l cs}(h:RVs w P l cs){i:Nat}(hi:i<l) :
  RV w P (l.getD i default) ((cs.drop (i*4)).take 4):=by
 have h1:=h.drop i;rw [aH default hi] at h1;simp only [RVs] at h1;obtain ⟨c1,c2,e,h2,_⟩:=h1;rw [e,<- h2.len,List.take_left']
 ·exact h2
 ·rfl
structure VAt (w:World)(P:Nat->Prop)(x:GV)(A:Option Addr)(c:Nat):Prop where
 kind:I64 x.kind
 n:I64 x.n
 s:x.s.size<=17592186044416
 len:x.kids<=c
 cap:x.kids.length<=17592186044416∧c<=9223372036854775807
 kids:bT w P (.slice A x.kids c) x.kids
abbrev dA (x:GV)(A:Option Addr)(c:Nat):Value:=.agg (qh x A c)
def cellsOf (x:GV)(A:Option Addr)(c:Nat):List Value:=qh x A c
theorem RV.at_ {w P x cs}(h:RV w P x cs):∃ A c,cs=cellsOf x A c∧VAt w P x A c:=by
 obtain ⟨h1,h2,h3,v,rfl,h4⟩:=h.open_;have h5:=h4;obtain ⟨A,c,css,rfl,h6,h7,_⟩:=h4;exact ⟨A,c,rfl,h1,h2,h3,h6,h7,h5⟩
theorem VAt.rv {w P x A c}(h:VAt w P x A c):RV w P x (cellsOf x A c):=by
 obtain ⟨k,n,s,kids⟩:=x;exact RV.mk_iff.2 ⟨h.kind,h.n,h.s,_,rfl,h.kids⟩
theorem VAt.keep {w w' P Q x A c}(h:VAt w P x A c)(hk:aB P w w')(hPQ:∀ b,P b->Q b):VAt w' Q x A c :=
 ⟨h.kind,h.n,h.s,h.len,h.cap,h.kids.keep hk hPQ⟩
theorem VAt.ext {w w' P x A c}(h:VAt w P x A c)(hx:Ext w w'):VAt w' P x A c:=h.keep (aB.of_ext hx) (fun _ h=>h)
theorem bT.at_ {w P v l}(h:bT w P v l){i:Nat}(hi:i<l) :
  ∃ b off c A d,v=.slice (qt b off) l c∧P b∧l<=c∧(l.length<=17592186044416∧c<=9223372036854775807)∧VAt w P (l.getD i default) A d ∧
   qc w b (off+i*4) (.int .i64 (l.getD i default).kind)∧qc w b (off+i*4+1) (.int .i64 (l.getD i default).n) ∧
   qc w b (off+i*4+2) (.string (l.getD i default).s)∧qc w b (off+i*4+3) (.slice A (l.getD i default).kids.length d):=by
 obtain ⟨A,c,css,rfl,h2,h3,h4,h5⟩:=h;obtain ⟨b,off,rfl,hb,hc⟩:=h4.2 I;obtain ⟨A',d,e,hu⟩:=(h5.get hi).at_
 have hx:∀ j,j<4->css[i*4+j]?=((css.drop (i*4)).take 4)[j]?:=by
  intro j hj;rw [List.getElem?_take,if_pos hj,List.getElem?_drop]
 unfold cellsOf at e;refine ⟨b,off,c,A',d,rfl,hb,h2,h3,hu,?_,?_,?_,?_⟩
 ·apply hc;have:=hx 0 I;rw [e] at this;simpa using this
 ·rw [Nat.add_assoc];apply hc;have:=hx 1 I;rw [e] at this;simpa using this
 ·rw [Nat.add_assoc];apply hc;have:=hx 2 I;rw [e] at this;simpa using this
 ·rw [Nat.add_assoc];apply hc;have:=hx 3 I;rw [e] at this;simpa using this
mutual
def gsz:GV->Nat
 | .mk _ _ _ l=>1+iQ l
def iQ:List GV->Nat
 | []=>0
 | x :: xs=>gsz x+iQ xs
end
theorem xM {x l}(h:x ∈ l):gsz x<=iQ l:=by
 induction l with
 | nil=>cases h
 | cons y ys ih =>
  simp only [iQ];rcases ao.1 h with rfl | h
  ·omega
  ·have:=ih h;omega
theorem eY {x y}(h:y ∈ x.kids):gsz y<gsz x:=by
 obtain ⟨k,n,s,l⟩:=x;have:=xM (l:=l) h;simp only [gsz];omega
theorem aD {α}{l:List α}{i:Nat}{d}(h:i<l):l.getD i d ∈ l:=by
 have:l.getD i d=l[i]:=by simp [h]
 rw [this];exact List.getElem_mem h
def pW (a b:ByteArray):Int:=if Op.bytesLess a.toList b.toList then -1 else if a.toList=b.toList then 0 else 1
mutual
def cJ:GV->GV->Int
 | .mk k n s l,.mk k' n' s' l'=>if iU k k'=0 then (if iU n n'=0 then (if pW s s'=0 then cR l l' else pW s s') else iU n n') else iU k k'
def cR:List GV->List GV->Int
 | [],[]=>0
 | [],_ :: _=>-1
 | _ :: _,[]=>1
 | x :: xs,y :: ys=>if cJ x y=0 then cR xs ys else cJ x y
end
theorem aIm (x y):cJ x y=if iU x.kind y.kind=0 then (if iU x.n y.n=0 then (if pW x.s y.s=0 then cR x.kids y.kids else pW x.s y.s) else iU x.n y.n) else iU x.kind y.kind:=by
 obtain ⟨k,n,s,l⟩:=x;obtain ⟨k',n',s',l'⟩:=y;simp only [cJ,GV.kind,GV.n,GV.s,GV.kids];rfl
theorem kS (x y xs ys):cR (x :: xs) (y :: ys)=if cJ x y=0 then cR xs ys else cJ x y:=by simp only [cR]
end Go.Proofs.YtkoeecdjijfjnaaGreat
namespace Go.Proofs.YtkoeecdjijfjnaaGreat
open Go.RowKit
theorem aFi (s:ByteArray)(w) :
  Calls Tryz.prog 199 #[s] w fun e w'=>e=.returned false∧w=w':=by
 go_enter Tryz.func199,Tryz.ntmps199;go_wp2;go_ret;exact ⟨rfl,rfl⟩
theorem aF3 (a b:ByteArray)(w) :
  Calls Tryz.prog 174 #[a,b] w fun e w'=>e=.returned (.int .i64 (pW a b))∧w=w':=by
 go_enter Tryz.func174,Tryz.ntmps174;go_wp2_with (go_at_call 199;refine (aFi _ _).mono ?_;rintro e w' ⟨rfl,rfl⟩)
 ·rename_i h1
  go_ret;exact ⟨aI (by unfold pW;rw [if_pos h1]),rfl⟩
 ·rename_i h2
  have h1:Op.bytesLess a.toList b.toList=false:=du;go_ret;exact ⟨aI (by unfold pW;rw [if_neg (by simp [h1]),if_neg i2]),rfl⟩
 ·rename_i h2
  have h1:Op.bytesLess a.toList b.toList=false:=du;go_ret;exact ⟨aI (by unfold pW;rw [if_neg (by simp [h1]),if_pos i2]),rfl⟩
def eJ (f:Nat)(N:Nat):Prop:=∀ (x y:GV)(A B:Option Addr)(c d:Nat)(P Q:Nat->Prop)(w:World),gsz x<N->VAt w P x A c->VAt w Q y B d ->
  qg f #[dA x A c,dA y B d] w (dI (.int .i64 (cJ x y)) w)
def aJm (a b:List GV)(w:World)(i:Value)(wr:World):Prop:=∃ k:Nat,k<=a.length∧k<=b.length∧i=↑k∧Ext w wr∧cR a b=cR (a.drop k) (b.drop k)
theorem tA (N)(hS:eJ 134 N)(a b P Q va vb w)(ha:bT w P va a)(hb:bT w Q vb b)(hN:∀ x ∈ a,gsz x<N) :
  qg 175 #[va,vb,.func (.func 134) #[] #[]] w (dI (.int .i64 (cR a b)) w):=by
 have HA:=a4b ha;have HB:=a4b hb;obtain ⟨A,c,ca,rfl,h2,h3,h4,h5⟩:=ha;obtain ⟨A',c',cb,rfl,h2',h3',h4',h5'⟩:=hb;clear h4 h5 h4' h5';have HN:=a4b hN;clear hN;go_enter Tryz.func175,Tryz.ntmps175;go_wp2_with fail;go_loopw [13] (fun i wr=>aJm a b w i wr) (fun i _=>a.length - (intOf i).toNat)
 case atStart=>exact ⟨0,af _,af _,rfl,Below.refl _ _,rfl⟩
 case round =>
  obtain ⟨k,hk,hk',rfl,hx,ht⟩:=hrel;have HT:=a4b ht;have HX:=a4b hx;clear ht hx;by_cases hlt:k<a
  ·by_cases hlt':k<b
   ·have HD:=a4b (show cR a b=cR (a.getD k default :: a.drop (k+1)) (b.getD k default :: b.drop (k+1)) by
     rw [HT.out,<- aH default hlt,<- aH default hlt'])
    obtain ⟨b1,o1,c1,A1,d1,e1,-,-,-,hv1,g10,g11,g12,g13⟩:=(HA.out.ext HX.out).at_ hlt;obtain ⟨b2,o2,c2,A2,d2,e2,-,-,-,hv2,g20,g21,g22,g23⟩:=(HB.out.ext HX.out).at_ hlt';cases e1;cases e2;have HM:=a4b (HN.out _ (aD (d:=default) hlt));have HV1:=a4b hv1;have HV2:=a4b hv2;clear hv1 hv2;generalize a.getD k default=x at *;generalize b.getD k default=y at *;have lb2:=aX g20;go_wp2_with fail;refine (hS x y A1 A2 d1 d2 P Q _ HM.out (HV1.out.ext (((aq _).alloc' _).alloc' _)) (HV2.out.ext (((aq _).alloc' _).alloc' _))).mono ?_;rintro e w1 ⟨rfl,hx1⟩;have HX1:=a4b hx1;clear hx1;go_wp2_with fail
    ·rename_i hz
     go_ret;refine ⟨aI ?_,((HX.out.alloc' _).alloc' _).trans' HX1.out⟩;rw [HD.out,kS,if_neg dw]
    ·rename_i hz
     go_roundw
     case rel =>
      refine ⟨k+1,I,I,by go_num,((HX.out.alloc' _).alloc' _).trans' HX1.out,?_⟩;rw [HD.out,kS,if_pos dw]
     case measure=>simp [intOf];omega
   ·obtain ⟨b1,o1,c1,A1,d1,e1,-,-,-,hv1,g10,g11,g12,g13⟩:=(HA.out.ext HX.out).at_ hlt
    cases e1;clear hv1
    have HE:=a4b (show cR a b=1 by
     rw [HT.out,drop_nil (l:=b) I,aH default hlt];simp only [cR])
    generalize a.getD k default=x at *;go_wp2_with fail;go_ret;exact ⟨aI HE.out.symm,HX.out.alloc' _⟩
  ·by_cases hlt':k<b
   ·have HE:=a4b (show cR a b=-1 by
     rw [HT.out,drop_nil (l:=a) I,aH default hlt'];simp only [cR])
    go_wp2_with fail;go_ret;exact ⟨aI HE.out.symm,HX.out⟩
   ·have HE:=a4b (show cR a b=0 by
     rw [HT.out,drop_nil (l:=a) I,drop_nil (l:=b) I];simp only [cR])
    go_wp2_with fail;go_ret;exact ⟨aI HE.out.symm,HX.out⟩
theorem mH (N)(hS:eJ 134 N):eJ 134 (N+1):=by
 intro x y A B c d P Q w hN hx hy;have HX:=a4b hx;have HY:=a4b hy;have HN:=a4b (show ∀ z ∈ x.kids,gsz z<N from fun z hz=>by have:=eY hz;omega);have HC:=a4b (aIm x y);clear hx hy;go_enter Tryz.func134,Tryz.ntmps134;go_wp2_with fail;refine (kT _ _ _).mono ?_;rintro e w' ⟨rfl,rfl⟩;go_wp2_with fail
 ·rename_i hz
  go_ret;refine ⟨aI ?_,((aq _).alloc' _).alloc' _⟩;rw [HC.out,if_neg dw]
 have hz1:(iU x.kind y.kind != 0)=false:=du;have HZ1:=a4b (show iU x.kind y.kind=0 by simpa using hz1);refine (kT _ _ _).mono ?_;rintro e w' ⟨rfl,rfl⟩;go_wp2_with fail
 ·rename_i hz
  go_ret;refine ⟨aI ?_,((aq _).alloc' _).alloc' _⟩;rw [HC.out,if_pos HZ1.out,if_neg dw]
 have hz2:(iU x.n y.n != 0)=false:=du;have HZ2:=a4b (show iU x.n y.n=0 by simpa using hz2);refine (aF3 _ _ _).mono ?_;rintro e w' ⟨rfl,rfl⟩;go_wp2_with fail
 ·rename_i hz
  go_ret;refine ⟨aI ?_,((aq _).alloc' _).alloc' _⟩;rw [HC.out,if_pos HZ1.out,if_pos HZ2.out,if_neg dw]
 have hz3:(pW x.s y.s != 0)=false:=du;have HZ3:=a4b (show pW x.s y.s=0 by simpa using hz3);refine (tA N hS x.kids y.kids P Q _ _ _ (HX.out.kids.ext (((aq _).alloc' _).alloc' _)) (HY.out.kids.ext (((aq _).alloc' _).alloc' _)) HN.out).mono ?_;rintro e w1 ⟨rfl,hx1⟩;have HX1:=a4b hx1;clear hx1;go_wp2_with fail;go_ret;refine ⟨aI ?_,(((aq _).alloc' _).alloc' _).trans' HX1.out⟩;rw [HC.out,if_pos HZ1.out,if_pos HZ2.out,if_pos HZ3.out]
theorem oG (N):eJ 134 N:=by
 induction N with
 | zero=>intro x y A B c d P Q w hN;omega
 | succ N ih=>exact mH N ih
theorem bJ (x y A B c d P Q w)(hx:VAt w P x A c)(hy:VAt w Q y B d) :
  qg 134 #[dA x A c,dA y B d] w (dI (.int .i64 (cJ x y)) w):=oG (gsz x+1) x y A B c d P Q w I hx hy
end Go.Proofs.YtkoeecdjijfjnaaGreat
namespace Go.Proofs.YtkoeecdjijfjnaaGreat
open Go.RowKit
def wD (b:Bool):Int:=if b then -1 else 1
theorem wC (b):¬ wD b=0:=by cases b <;> simp [wD]
theorem aIq {a b}(h:a ≠ b):iU a b=wD (decide (a<b)):=by
 unfold iU wD;by_cases h1:a<b
 ·simp [h1]
 ·simp [h1];omega
theorem lX {a b}(h:a=b):iU a b=0:=by subst h;unfold iU;simp
theorem aQs {a b}(h:a.toList ≠ b.toList):pW a b=wD (Op.bytesLess a.toList b.toList):=by
 unfold pW wD;by_cases h1:Op.bytesLess a.toList b.toList
 ·simp [h1]
 ·simp [h1,h]
theorem dJ (l:List UInt8):Op.bytesLess l l=false:=by
 induction l with
 | nil=>rfl
 | cons a l ih=>simp [Op.bytesLess,ih]
theorem tD {a b}(h:a.toList=b.toList):pW a b=0:=by
 unfold pW;rw [h,dJ];simp
theorem qG (b:Bool)(w) :
  Calls Tryz.prog 160 #[b] w fun e w'=>e=.returned (.int .i64 (wD b))∧w=w':=by
 cases b
 all_goals
  go_enter Tryz.func160,Tryz.ntmps160;go_wp2;go_ret;exact ⟨rfl,rfl⟩
theorem pT (N)(hS:eJ 117 N):eJ 117 (N+1):=by
 intro x y A B c d P Q w hN hx hy;have HX:=a4b hx;have HY:=a4b hy;have HN:=a4b (show ∀ z ∈ x.kids,gsz z<N from fun z hz=>by have:=eY hz;omega);have HC:=a4b (aIm x y);have hx5:=hx.cap;clear hx hy;go_enter Tryz.func117,Tryz.ntmps117;go_wp2_with (go_at_call 160;refine (qG _ _).mono ?_;rintro e w' ⟨rfl,rfl⟩)
 ·have hz:(x.kind != y.kind)=true:=by assumption
  go_ret;refine ⟨aI ?_,((aq _).alloc' _).alloc' _⟩;rw [HC.out,aIq dw,if_neg (wC _)]
 ·have hz1:(x.kind != y.kind)=false:=by assumption
  have hz:(x.n != y.n)=true:=du;go_ret;refine ⟨aI ?_,((aq _).alloc' _).alloc' _⟩;rw [HC.out,lX (by simpa using hz1),if_pos rfl,aIq dw,if_neg (wC _)]
 ·have hz1:(x.kind != y.kind)=false:=by assumption
  have hz2:(x.n != y.n)=false:=du;have hz:(!x.s.toList == y.s.toList)=true:=du;go_ret;refine ⟨aI ?_,((aq _).alloc' _).alloc' _⟩;rw [HC.out,lX (by simpa using hz1),if_pos rfl,lX (by simpa using hz2),if_pos rfl,aQs dw,if_neg (wC _)]
 have hz1:(x.kind != y.kind)=false:=du;have hz2:(x.n != y.n)=false:=du;have hz3:(!x.s.toList == y.s.toList)=false:=du
 have HE:=a4b (show cJ x y=cR x.kids y.kids by
  rw [HC.out,lX (by simpa using hz1),if_pos rfl,lX (by simpa using hz2),if_pos rfl,tD (by simpa using hz3),if_pos rfl])
 rw [hz1,hz2,hz3];clear hz1 hz2 hz3;have HX0:Hid (Ext w ((w.alloc (qk (qh x A c) 85)).alloc (qk (qh y B d) 85))):=((aq _).alloc' _).alloc' _;have hb1:=kW (u:=some (.slice A x.kids c)) (iA w (qh x A c) 85 (0,0) 3) (qk (qh y B d) 85) O;have hb2:=tF (u:=some (.slice B y.kids d)) (w.alloc (qk (qh x A c) 85)) (qh y B d) 85 (0,0) 3 (w+1) O rfl;generalize (w.alloc (qk (qh x A c) 85)).alloc (qk (qh y B d) 85)=W at *;go_loopw [5] (fun i wr=>aJm x.kids y.kids W i wr) (fun i _=>x.kids.length - (intOf i).toNat)
 case atStart=>exact ⟨0,af _,af _,rfl,Below.refl _ _,rfl⟩
 case round =>
  obtain ⟨k,hk,hk',rfl,hx,ht⟩:=hrel;have HT:=a4b ht;have hc1:qc wr w 3 (.slice A x.kids c):=aA hx hb1;have hc2:qc wr (w+1) 3 (.slice B y.kids d):=aA hx hb2;have HW:=a4b hx;have hx0:=HX0.out.trans' hx;have HXK:=a4b (HX.out.kids.ext hx0);have HYK:=a4b (HY.out.kids.ext hx0);have HX00:=HX0;clear ht hx hx0 HX0;by_cases hlt:k<x.kids
  ·by_cases hlt':k<y.kids
   ·have HD:=a4b (show cR x.kids y.kids=cR (x.kids.getD k default :: x.kids.drop (k+1)) (y.kids.getD k default :: y.kids.drop (k+1)) by
     rw [HT.out,<- aH default hlt,<- aH default hlt'])
    obtain ⟨b1,o1,c1,A1,d1,e1,-,-,-,hv1,g10,g11,g12,g13⟩:=HXK.out.at_ hlt;obtain ⟨b2,o2,c2,A2,d2,e2,-,-,-,hv2,g20,g21,g22,g23⟩:=HYK.out.at_ hlt';cases e1;cases e2;have HM:=a4b (HN.out _ (aD (d:=default) hlt));have HV1:=a4b hv1;have HV2:=a4b hv2;clear hv1 hv2 HXK HYK HX HY hb1 hb2;generalize x.kids.getD k default=x1 at *;generalize y.kids.getD k default=y1 at *;go_wp2_with fail;go_still_tail 10,U;go_wp2_with fail;refine (hS x1 y1 A1 A2 d1 d2 P Q _ HM.out (HV1.out.ext (aq _).drew') (HV2.out.ext (aq _).drew')).mono ?_;rintro e w1 ⟨rfl,hx1⟩;have HWX:=a4b (HW.out.trans' ((aq _).drew'.trans' hx1));clear hx1;go_wp2_with fail
    ·have hz:(cJ x1 y1 != 0)=true:=by assumption
     go_ret;refine ⟨aI ?_,HX00.out.trans' HWX.out⟩;rw [HE.out,HD.out,kS,if_neg dw]
    ·have hz:(cJ x1 y1 != 0)=false:=by assumption
     go_roundw
     case rel =>
      refine ⟨k+1,I,I,by go_num,HWX.out,?_⟩;rw [HD.out,kS,if_pos dw]
     case measure=>simp [intOf];omega
   ·have HZ:=a4b (show cJ x y=1 by
     rw [HE.out,HT.out,drop_nil (l:=y.kids) I,aH default hlt];simp only [cR])
    clear HXK HYK HX HY hb1 hb2;have hne:((x.kids:Int) == y.kids.length)=false:=by simp;omega
    go_wp2_with (go_at_call 160;refine (qG _ _).mono ?_;rintro e w' ⟨rfl,rfl⟩);go_ret;exact ⟨aI (by rw [HZ.out];simp [wD];omega),HX00.out.trans' HW.out⟩
  ·by_cases hlt':k<y.kids
   ·have HZ:=a4b (show cJ x y=-1 by
     rw [HE.out,HT.out,drop_nil (l:=x.kids) I,aH default hlt'];simp only [cR])
    clear HXK HYK HX HY hb1 hb2;have hne:((x.kids:Int) == y.kids.length)=false:=by simp;omega
    go_wp2_with (go_at_call 160;refine (qG _ _).mono ?_;rintro e w' ⟨rfl,rfl⟩);go_ret;exact ⟨aI (by rw [HZ.out];simp [wD];omega),HX00.out.trans' HW.out⟩
   ·have HZ:=a4b (show cJ x y=0 by
     rw [HE.out,HT.out,drop_nil (l:=x.kids) I,drop_nil (l:=y.kids) I];simp only [cR])
    clear HXK HYK HX HY hb1 hb2;have hne:((x.kids:Int) == y.kids.length)=true:=by simp;omega
    go_wp2_with (go_at_call 160;refine (qG _ _).mono ?_;rintro e w' ⟨rfl,rfl⟩);go_ret;exact ⟨aI HZ.out.symm,HX00.out.trans' HW.out⟩
theorem rN (N):eJ 117 N:=by
 induction N with
 | zero=>intro x y A B c d P Q w hN;omega
 | succ N ih=>exact pT N ih
theorem gP (x y A B c d P Q w)(hx:VAt w P x A c)(hy:VAt w Q y B d) :
  qg 117 #[dA x A c,dA y B d] w (dI (.int .i64 (cJ x y)) w):=rN (gsz x+1) x y A B c d P Q w I hx hy
end Go.Proofs.YtkoeecdjijfjnaaGreat
