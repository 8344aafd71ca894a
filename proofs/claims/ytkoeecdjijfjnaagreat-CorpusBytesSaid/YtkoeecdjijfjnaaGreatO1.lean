/- Contracts and laws. Conditions: none. -/
import Derived.BigRegion
import Derived.Test.YtkoeecdjijfjnaaGreatK4
set_option linter.all false
set_option maxRecDepth 100000
set_option maxHeartbeats 8000000
namespace Go.Proofs.YtkoeecdjijfjnaaGreat
open Go.RowKit
def aZn (x:GE)(w:World)(e:Ending)(w':World):Prop:=∃ A c,e=.returned (aD6 x A c)∧EAt w' (fun b=>w.heap.size<=b) x A c∧Ext w w'
theorem vG (x A c P w)(hx:EAt w P x A c)(hpl:x.path.length<=1000000000):qg 103 #[aD6 x A c] w (aZn x w):=by
 have HX:=a4b hx;obtain ⟨hc1,hc2⟩:=hx.path.le;obtain ⟨A',c',ep,-,-,h3,h4⟩:=hx.path;injection ep with ep1 _ ep2;subst ep1 ep2;have H3:=a4b h3;have H4:=a4b h4;clear hx h3 h4;obtain ⟨i0,hi,hz0,hz1,hz2⟩:=info_parts Tryz.info3;have HI:=a4b hi;clear hi;go_enter Tryz.func103,Tryz.ntmps103;go_upto_region 1 with fail;have HE:=a4b (show Ext w ((w.alloc (qk #[.slice A x.path c,x.kind,x.at_,x.code,x.fresh,x.hits] 102)).alloc (qk #[qn,qz,qz,qz,false,qz] 102)) from ((aq w).alloc' _).alloc' _);have HB:=a4b ((aw w 102 #[.slice A x.path c,x.kind,x.at_,x.code,x.fresh,x.hits]).alloc (qk #[qn,qz,qz,qz,false,qz] 102));have HR:=a4b (az (w.alloc (qk #[.slice A x.path c,x.kind,x.at_,x.code,x.fresh,x.hits] 102)) 102 #[qn,qz,qz,qz,false,qz] (g:=w.heap.size+1) O);generalize (w.alloc (qk #[.slice A x.path c,x.kind,x.at_,x.code,x.fresh,x.hits] 102)).alloc (qk #[qn,qz,qz,qz,false,qz] 102)=W at *
 obtain ⟨b0,b1,b2,b3,b4,b5⟩:=bZ HB.out;have lb:=HB.out.lt;have lr:=HR.out.lt;go_wp2_with (at_builtin;go_must (refine aJ _ rfl (.tmp 3) (.tmp 5) 22 ba W 3 i0 _ 1 8 Tryz.underlying22 HI.out hz0 hz1 hz2 rfl I (.slice (qp W) 0 0) 0 [] rfl (World.ownsRow_lit W #[] 0 (ab _) di rfl) P A x.path c (x.path.map (Value.int .i64)) rfl (H4.out.keep (aB.of_ext (HE.out.alloc' _)) (fun _ h=>h)) (fun u hu=>by obtain ⟨z,_,rfl⟩:=List.mem_map.1 hu;rfl) I I O ?_);intro v1 w1 ho1 hb1;simp only [Nat.zero_add,List.nil_append] at ho1;obtain ⟨A1,c1,e0,e1,e2,e3⟩:=Sl.of_own ho1;subst e0;have hx1:Ext W w1:=Below.trans ((aq W).alloc' _) hb1;have B1:=HB.out.ext hx1;have R1:=HR.out.ext hx1;obtain ⟨d0,d1,d2,d3,d4,d5⟩:=bZ B1;obtain ⟨r0,r1,r2,r3,r4,r5⟩:=bZ R1;have fb:=B1.frozen 0;have f0:=R1.frozen 0;have f1:=R1.frozen 1;have f2:=R1.frozen 2;have f3:=R1.frozen 3;have f4:=R1.frozen 4;have f5:=R1.frozen 5;clear b0 b1 b2 b3 b4 b5);unfold maxLen at e2;have HP1:=a4b (show Ints w1 (fun b=>W.heap.size<=b) (.slice A1 x.path c1) x.path from ⟨A1,c1,rfl,e1,⟨I,e2⟩,H3.out,e3 _ (fun b hb=>(ho1.lt b hb).1)⟩);have HR1:=a4b R1;have HX1:=a4b hx1;have hfin:=aG (aV x A1 c1) (w:=w1.setCell (qp w) (.slice A1 x.path c1)) (cs:=[qn,qz,qz,qz,false,qz]) (g:=w.heap.size+1) (t:=102) 0 (HR1.out.far (p:=qp w) O _) jt;have z0:=hfin.cell' (u:=.slice A1 x.path c1) 0 rfl;have z1:=hfin.cell' (u:=↑x.kind) 1 rfl;have z2:=hfin.cell' (u:=↑x.at_) 2 rfl;have z3:=hfin.cell' (u:=↑x.code) 3 rfl;have z4:=hfin.cell' (u:=x.fresh) 4 rfl;have z5:=hfin.cell' (u:=↑x.hits) 5 rfl
 have hE:Ext w ((w1.setCell (qp w) (.slice A1 x.path c1)).setCells (w+1) 0 (aV x A1 c1)) :=
  (((ar (M:=fun _=>False) (HE.out.trans' HX1.out)).setCell (p:=qp w) (.inr (ab _)) _).setCells _ 0 (.inr I)).ext
 have hk0:aB (fun b=>W.heap.size<=b) w1 w1:=fun _ _ _=>rfl
 have hP:Ints ((w1.setCell (qp w) (.slice A1 x.path c1)).setCells (w+1) 0 (aV x A1 c1)) (fun b=>w.heap.size<=b) (.slice A1 x.path c1) x.path :=
  HP1.out.carry (aB.setCells dz _ 0 (hk0.set (p:=qp w) _ dz)) (fun b _ h=>by omega)
 have hgen:((((((w1.setCell (qp w) (.slice A1 x.path c1)).setCell (qp (w+1)) (.slice A1 x.path c1)).setCell (qt (w+1) 1) (↑x.kind)).setCell (qt (w+1) 2) (↑x.at_)).setCell (qt (w+1) 3) (↑x.code)).setCell (qt (w+1) 4) x.fresh).setCell (qt (w+1) 5) (↑x.hits)=(w1.setCell (qp w) (.slice A1 x.path c1)).setCells (w+1) 0 (aV x A1 c1):=rfl;rw [hgen];generalize (w1.setCell (qp w) (.slice A1 x.path c1)).setCells (w+1) 0 (aV x A1 c1)=WF at *;exact bodyPost_ret (v:=aD6 x A1 c1) (by simp [results,Tryz.results103,go_sem,z0,z1,z2,z3,z4,z5]) rfl ⟨A1,c1,rfl,⟨hP,HX.out.kind,HX.out.at_,HX.out.code,HX.out.hits⟩,hE⟩
section
variable {α:Type}{R:α->List Value->Prop}
theorem RL.ins (hR:∀ x cs,R x cs->cs.length=6){l xs us}(h:RL R l xs){y}(hy:R y us)(i):RL R (l.take i ++ y :: l.drop i) (xs.take (i*6) ++ us ++ xs.drop (i*6)):=by
 rw [ah];refine (h.take hR i).append ?_;exact ⟨us,_,rfl,hy,h.drop hR i⟩
theorem RL.set (hR:∀ x cs,R x cs->cs.length=6){l xs us}(h:RL R l xs){y}(hy:R y us){i:Nat}(hi:i<l):RL R (l.set i y) (xs.take (i*6) ++ us ++ xs.drop ((i+1)*6)):=by
 rw [List.set_eq_take_append_cons_drop,if_pos hi,ah];refine (h.take hR i).append ?_;exact ⟨us,_,rfl,hy,h.drop hR (i+1)⟩
end
theorem wF (xs:List Value)(f k:Nat)(us:List Value)(v)(hk:k<us)(hf:f<=xs)(zs):(xs.take f ++ us ++ zs).set (f+k) v=xs.take f ++ us.set k v ++ zs:=by
 rw [ah,List.set_append_right _ _ em,ak,show f+k - min f xs.length=k by omega,List.set_append_left _ _ hk,ah]
section
variable {t:List GN}{vn:Value}{b:Int}{L:List GE}{g:CA}{P Q:Nat->Prop}{ve:Value}{w w':World}
theorem cV.one (h:cV t vn b L g P ve w):∃ xs,w.ownsRow 0 102 6 ve L xs∧RL (REn w P) L xs∧∀ u ∈ xs,u.oneCell'=true:=by
 obtain ⟨xs,h1,h2⟩:=h.own;refine ⟨xs,h1,h2,?_⟩;clear h1
 have:∀ (l:List GE) (xs:List Value),RL (REn w P) l xs->∀ u ∈ xs,u.oneCell'=true:=by
  intro l
  induction l with
  | nil=>intro xs h u hu;simp only [RL] at h;subst h;simp at hu
  | cons e es ih =>
   intro xs h u hu;obtain ⟨c1,c2,rfl,⟨A,c,rfl,-⟩,h2⟩:=h;rcases ap.1 hu with hu | hu
   ·simp only [aV,ao,List.not_mem_nil,or_false] at hu
    rcases hu with rfl | rfl | rfl | rfl | rfl | rfl <;> rfl
   ·exact ih _ h2 u hu
 exact this L xs h2
theorem cV.touch (x)(hh:gE x.path L=true)(h:cV t vn b L g P ve w)(hx:I64 (aO (L.getD (aZ x.path L) default) x).hits) :
  ∃ G cap,ve=.slice (qp G) L cap∧L<=cap∧cap<=9223372036854775807∧aZ x.path L<L∧∃ A c,EAt w P (L.getD (aZ x.path L) default) A c ∧
   (∀ j u,(aV (L.getD (aZ x.path L) default) A c)[j]?=some u->qc w G (aZ x.path L*6+j) u)∧(∀ j,w.frozen? (qt G j)=false) ∧
   cV t vn b (cY L x) g P ve ((w.setCell (qt G (aZ x.path L*6+5)) (.int .i64 (aO (L.getD (aZ x.path L) default) x).hits)).setCell (qt G (aZ x.path L*6+4)) (.bool (aO (L.getD (aZ x.path L) default) x).fresh)):=by
 obtain ⟨xs,h1,h2⟩:=h.own;have hJ:cY L x=L.set (aZ x.path L) (aO (L.getD (aZ x.path L) default) x):=by unfold cY;rw [if_pos hh]
 have hf:aZ x.path L<L:=by
  unfold gE at hh;simp only [Bool.and_eq_true,decide_eq_true_eq] at hh;exact hh.1
 have hinc:=h.inc.join x;rw [hJ] at hinc ⊢;generalize aZ x.path L=f at *;rcases h1 with ⟨hxl,⟨rfl,h4⟩ | ⟨G,cap,cur,rfl,-,hB,h4,h5,h6,h7⟩⟩
 ·omega
 have hBb:Blk w G 102 cur:=hB;obtain ⟨A,c,hec,hE⟩:=RL.get (eN.len w P) h2 default hf
 have hcell:∀ j u,(aV (L.getD f default) A c)[j]?=some u->qc w G (f*6+j) u:=fun j u hu=>by
  rw [<- hec,List.getElem?_take,List.getElem?_drop,<- h7,List.getElem?_take] at hu;split at hu
  ·split at hu
   ·exact hBb.cell' _ ie
   ·cases hu
  ·cases hu
 refine ⟨G,cap,rfl,h4,gu,hf,A,c,hE,hcell,hBb.frozen,?_⟩;have hmem:L.getD f default ∈ L:=aD hf;generalize L.getD f default=y at *;have hB2:=(hBb.set_ (f*6+5) (.int .i64 (aO y x).hits)).set_ (f*6+4) (.bool (aO y x).fresh)
 have hfr:∀ k,k ≠ G->((w.setCell (qt G (f*6+5)) (.int .i64 (aO y x).hits)).setCell (qt G (f*6+4)) (.bool (aO y x).fresh)).heap[k]?=w.heap[k]?:=fun k hk=>by
  rw [Below.heap_setCell _ _ _ _ (fun e=>hk e),Below.heap_setCell _ _ _ _ (fun e=>hk e)]
 generalize (w.setCell (qt G (f*6+5)) (.int .i64 (aO y x).hits)).setCell (qt G (f*6+4)) (.bool (aO y x).fresh)=W at *;have hkP:aB P w W:=fun k _ hp=>hfr k (fun e=>(h.excl k hp).2 gh)
 have hgc:g.c ≠ G:=fun e=>h.ne gh
 have hxs:xs=xs.take (f*6) ++ aV y A c ++ xs.drop ((f+1)*6):=by
  rw [<- hec,show (f+1)*6=f*6+6 by omega,<- List.drop_drop,ah,List.take_append_drop,List.take_append_drop]
 have hset:(xs.set (f*6+5) (.int .i64 (aO y x).hits)).set (f*6+4) (.bool (aO y x).fresh)=xs.take (f*6) ++ aV (aO y x) A c ++ xs.drop ((f+1)*6):=by
  rw [show xs.set (f*6+5) (.int .i64 (aO y x).hits)=(xs.take (f*6) ++ aV y A c ++ xs.drop ((f+1)*6)).set (f*6+5) (.int .i64 (aO y x).hits) by rw [<- hxs]];rw [wF _ _ _ _ _ jt I,wF _ _ _ _ _ jt I];rfl
 refine ⟨(hfr _ hgc).trans h.box,h.walk.carry hkP (fun _ _ h=>h),⟨_,⟨?_,.inr ⟨G,cap,_,by rw [List.length_set],af _,hB2,by rw [List.length_set];exact h4,h5,jp,rfl⟩⟩,?_⟩,h.excl,h.ne,hinc,h.bI,by rw [List.length_set];exact h.few,?_,h.good⟩
 ·simp only [ak,Array.length_toList,Array.size_setIfInBounds,List.length_set]
  have:=Nat.mul_le_mul_right 6 h4;omega
 ·have e1:((cur.setIfInBounds (f*6+5) (.int .i64 (aO y x).hits)).setIfInBounds (f*6+4) (.bool (aO y x).fresh)).toList.take ((L.set f (aO y x))*6)=xs.take (f*6) ++ aV (aO y x) A c ++ xs.drop ((f+1)*6):=by
   rw [List.length_set,Array.toList_setIfInBounds,Array.toList_setIfInBounds,List.take_set,List.take_set,h7,hset]
  rw [e1];exact RL.set (eN.len W P) (h2.move eN hkP (fun _ _ h=>h)) (show REn W P (aO y x) (aV (aO y x) A c) from ⟨A,c,rfl,⟨(hE.carry hkP (fun _ _ h=>h)).path,hE.kind,hE.at_,hE.code,hx⟩⟩) hf
 ·intro e he
  rcases List.mem_or_eq_of_mem_set he with he | rfl
  ·exact h.short e he
  ·exact h.short y hmem
end
theorem aK8 {w:World}{ve n xs}(h:w.ownsRow 0 102 6 ve n xs){k}(hk:ve.ownBlock=some k):k<w:=by
 rcases h.2 with ⟨rfl,_⟩ | ⟨G,cap,cur,rfl,_,hG,_⟩
 ·simp [Value.ownBlock] at hk
 ·simp [Value.ownBlock] at hk
  subst hk;exact Blk.lt (t:=102) hG
def gY (t:List GN)(vn:Value)(b:Int)(L':List GE)(g:CA)(P:Nat->Prop)(ve:Value)(w w':World):Prop :=
 ∃ P' v',cV t vn b L' g P' v' w'∧(∀ k,P' k->P k∨w<=k)∧Fr (g.M ve) w w'∧(v'.ownBlock=ve.ownBlock∨∃ k,v'.ownBlock=some k∧w<=k)
section
variable {t:List GN}{vn:Value}{b:Int}{L:List GE}{g:CA}{P:Nat->Prop}{ve:Value}{w W1 w2:World}
theorem cV.inserted (x)(h:cV t vn b L g P ve w)(hno:gE x.path L=false)(hE:Ext w W1)(A c)(hx:EAt W1 (fun k=>w.heap.size<=k) x A c)(xs)(h0:w.ownsRow 0 102 6 ve L xs)(hr:RL (REn w P) L xs)(v')
  (ho:w2.ownsRow 0 102 6 v' (L+1) (xs.take (aZ x.path L*6) ++ aV x A c ++ xs.drop (aZ x.path L*6)))(hF:Fr (fun k=>some k=ve.ownBlock) W1 w2)(hb:v'.ownBlock=ve.ownBlock∨v'.ownBlock=some W1.heap.size)
  (hfew:L.length+1<=100000)(hpl:x.path.length<=1000000000):gY t vn b (cY L x) g P ve w (w2.setCell (qt g.c 3) v'):=by
 have hJ:cY L x=L.take (aZ x.path L) ++ x :: L.drop (aZ x.path L):=by unfold cY;rw [if_neg (by rw [hno];simp)]
 have hinc:=h.inc.join x;have hle:=mX x.path L;rw [hJ] at hinc ⊢;generalize aZ x.path L=f at *;have hgc:=h.box.lt;have hown:∀ k,ve.ownBlock=some k->k<w:=fun k hk=>aK8 h0 hk
 have hbox:Blk w2 g.c 95 #[vn,qp g.w,↑b,ve]:=(hF.block _ (ac hgc hE.size) h.ne).trans ((hE.block _ hgc).trans h.box);have hB3:=hbox.set_ 3 v';have hfr:∀ k,k ≠ g.c->(w2.setCell (qt g.c 3) v').heap[k]?=w2.heap[k]?:=fun k hk=>Below.heap_setCell _ _ _ _ (fun e=>hk e)
 have hFF:Fr (g.M ve) W1 (w2.setCell (qt g.c 3) v'):=by
  have h1:Fr (g.M ve) W1 w2:=⟨hF.os,hF.tape,hF.output,hF.size,fun k hk hm=>hF.block k hk (fun e=>hm (.inr e))⟩;exact h1.setCell (p:=qt g.c 3) (.inl (.inl rfl)) v'
 have hne':some g.c ≠ v'.ownBlock:=by
  rcases hb with hb | hb
  ·rw [hb];exact h.ne
  ·rw [hb];intro e;injection e with e;have:=hE.size;omega
 have ho':(w2.setCell (qt g.c 3) v').ownsRow 0 102 6 v' (L+1) (xs.take (f*6) ++ aV x A c ++ xs.drop (f*6)):=by
  refine ⟨ho.1,?_⟩;rcases ho.2 with h3 | ⟨G,cap,cur,h4,h5,h6,h7⟩
  ·exact .inl h3
  ·exact .inr ⟨G,cap,cur,h4,h5,(hfr G (fun e=>hne' (by rw [h4,<- e];rfl))).trans h6,h7⟩
 generalize w2.setCell (qt g.c 3) v'=W3 at *
 have hkP:aB P w W3:=fun k hk hp=>(hFF.block k (ac hk hE.size) (fun hm=>by
  rcases hm with hm | hm
  ·exact (h.excl k hp).1 hm
  ·exact (h.excl k hp).2 hm)).trans (hE.block k hk)
 have hkN:aB (fun k=>w.heap.size<=k) W1 W3:=fun k hk hp=>hFF.block k hk (fun hm=>by
  rcases hm with hm | hm
  ·omega
  ·have:=hown k hm.symm;omega)
 have hlen:(L.take f ++ x :: L.drop f).length=L.length+1:=by simp only [aa,ak,ai,am];omega
 refine ⟨fun k=>(k<w.heap.size∧P k)∨(w<=k∧k<W1),v',⟨hB3,h.walk.carry hkP (fun k hk hp=>.inl ⟨hk,hp⟩),⟨_,by rw [hlen];exact ho',?_⟩,?_,hne',hinc,h.bI,I,?_,h.good⟩,?_,(ar hE).trans hFF,?_⟩
 ·exact RL.ins (eN.len W3 _) (hr.move eN hkP (fun k hk hp=>.inl ⟨hk,hp⟩)) ⟨A,c,rfl,hx.carry hkN (fun k hk hp=>.inr ⟨hp,hk⟩)⟩ f
 ·intro k hk
  rcases hk with ⟨h1,h2⟩ | ⟨h1,h2⟩
  ·refine ⟨(h.excl k h2).1,?_⟩
   rcases hb with hb | hb
   ·rw [hb];exact (h.excl k h2).2
   ·rw [hb];intro e;injection e with e;have:=hE.size;omega
  ·refine ⟨I,?_⟩
   rcases hb with hb | hb
   ·rw [hb];intro e;have:=hown k e.symm;omega
   ·rw [hb];intro e;injection e with e;omega
 ·intro e he
  rcases ap.1 he with he | he
  ·exact h.short e (List.mem_of_mem_take he)
  ·rcases ao.1 he with rfl | he
   ·exact hpl
   ·exact h.short e (List.mem_of_mem_drop he)
 ·intro k hk
  rcases hk with ⟨_,h2⟩ | ⟨h1,_⟩
  ·exact .inl h2
  ·exact .inr h1
 ·rcases hb with hb | hb
  ·exact .inl hb
  ·exact .inr ⟨_,hb,hE.size⟩
end
def aJe (t:List GN)(vn:Value)(b:Int)(L:List GE)(x:GE)(g:CA)(P:Nat->Prop)(ve:Value)(w:World)(e:Ending)(w':World):Prop :=
 e=.returned (!gE x.path L)∧gY t vn b (cY L x) g P ve w w'
theorem aPy {w w' ve n xs}(h:w.ownsRow 0 102 6 ve n xs)(hx:Ext w w'):w'.ownsRow 0 102 6 ve n xs:=by
 refine ⟨h.1,?_⟩;rcases h.2 with h3 | ⟨G,cap,cur,h4,h5,h6,h7⟩
 ·exact .inl h3
 ·exact .inr ⟨G,cap,cur,h4,h5,(hx.block G (Blk.lt (t:=102) h6)).trans h6,h7⟩
theorem aDj {w:World}{ve n xs}(h:w.ownsRow 0 102 6 ve n xs):∃ A m c,ve=.slice A m c:=by
 rcases h.2 with ⟨h3,_⟩ | ⟨G,cap,cur,h4,_⟩
 ·exact ⟨_,_,_,h3⟩
 ·exact ⟨_,_,_,h4⟩
theorem aLj {t vn b L g P ve w w2 w3}(x)(h:cV t vn b L g P ve w)(hno:gE x.path L=false)(hX2:Ext w w2)(hX3:Ext w w3)(A3 d3)(hE3:EAt w3 (fun k=>w2.heap.size<=k) x A3 d3)
  (hfew:L.length+1<=100000)(hpl:x.path.length<=1000000000) :
  Calls Tryz.prog 102 #[ve,.int .i64 (aZ x.path L),.slice (qp w3) 1 1] (w3.alloc (qk #[.slice A3 x.path d3,x.kind,x.at_,x.code,x.fresh,x.hits] 102))
   (fun e w4=>∃ A4 n4 c4,e=.returned (.slice A4 n4 c4)∧qc w4 g.c 3 ve∧w4.frozen? (qt g.c 3)=false∧gY t vn b (cY L x) g P ve w (w4.setCell (qt g.c 3) (.slice A4 n4 c4))):=by
 obtain ⟨xs,ho,hr,h1⟩:=h.one;have hx1:Ext w (w3.alloc (qk #[.slice A3 x.path d3,x.kind,x.at_,x.code,x.fresh,x.hits] 102)):=hX3.alloc' _;have hV:=aw w3 102 (aV x A3 d3).toArray
 refine (aFk ve L (aZ x.path L) w3 1 102 xs (aV x A3 d3) _ (aPy ho hx1) hV (fun e=>by have:=aK8 ho e.symm;have:=hX3.size;omega) rfl (mX _ _) I h1 (by
  intro u hu;simp only [aV,ao,List.not_mem_nil,or_false] at hu;rcases hu with rfl | rfl | rfl | rfl | rfl | rfl <;> rfl)).mono ?_
 rintro e w4 ⟨v4,rfl,ho4,hF4,hb4⟩;obtain ⟨A4,n4,c4,rfl⟩:=aDj ho4;have hlt:=h.box.lt;have hbox:Blk w4 g.c 95 #[vn,qp g.w,↑b,ve]:=(hF4.block _ (ac hlt hx1.size) h.ne).trans ((hx1.block _ hlt).trans h.box);refine ⟨A4,n4,c4,rfl,hbox.cell' 3 rfl,hbox.frozen 3,?_⟩;exact cV.inserted x h hno hx1 A3 d3 ((hE3.ext ((aq w3).alloc' _)).carry (fun _ _ _=>rfl) (fun k _ hk=>ae hX2.size hk)) xs ho hr _ ho4 hF4 hb4 hfew hpl
theorem aLh (t vn b L g P Q ve x A c w)(h:cV t vn b L g P ve w)(hx:EAt w Q x A c)(hfew:L.length+1<=100000)(hpl:x.path.length<=1000000000) :
  qg 48 #[qp g.c,aD6 x A c] w (aJe t vn b L x g P ve w):=by
 have HC:=a4b (fun (W:World) (hE:Ext w W)=>aAa L x A c _ Q ve W (h.ext hE).ens (hx.ext hE) h.inc I);have H:=a4b h;have HX:=a4b hx;clear h hx;generalize hfe:aZ x.path L=f at *;generalize hhe:gE x.path L=hb at *;have HFE:=a4b hfe;have HHE:=a4b hhe;clear hfe hhe;go_enter Tryz.func48,Tryz.ntmps48;go_upto_region 1 with fail;have HE:=a4b ((aq w).alloc' (qk #[.slice A x.path c,x.kind,x.at_,x.code,x.fresh,x.hits] 102));have HB:=a4b (aw w 102 #[.slice A x.path c,x.kind,x.at_,x.code,x.fresh,x.hits]);generalize w.alloc (qk #[.slice A x.path c,x.kind,x.at_,x.code,x.fresh,x.hits] 102)=W at *;have c3:=(H.out.ext HE.out).cell3;obtain ⟨x0,x1,x2,x3,x4,x5⟩:=bZ HB.out
 go_region_held3 (fun w'=>qc w' g.c 3 ve∧qc w' w 0 (.slice A x.path c)∧qc w' w 1 x.kind∧qc w' w 2 x.at_∧qc w' w 3 x.code∧qc w' w 4 x.fresh∧qc w' w 5 x.hits)
  (first
   | go_keep
   | (go_split_ands
      exact ⟨aA hx2 ‹_›,aA hx2 ‹_›,aA hx2 ‹_›,aA hx2 ‹_›,aA hx2 ‹_›,aA hx2 ‹_›,aA hx2 ‹_›⟩))
  (first
   | (go_at_call 55;refine (HC.out _ HE.out.drew').mono ?_;rintro e w2 ⟨rfl,hx2⟩))
 have HX2:=a4b (HE.out.drew'.trans' hx2);have HB2:=a4b (HB.out.drew.ext hx2);clear hx2 c3 x0 x1 x2 x3 x4 x5;cases hb with
 | true =>
  obtain ⟨G,cap,rfl,hc1,hc2,hf,A1,d1,hE1,hcell,hfz,hCor⟩:=cV.touch x HHE.out (H.out.ext HX2.out) (qC _);rw [HFE.out] at hf hE1 hcell hCor;have c3:=(H.out.ext HX2.out).cell3;obtain ⟨x0,x1,x2,x3,x4,x5⟩:=bZ HB2.out;generalize L.getD f default=y at *;have g4:=hcell 4 _ rfl;have g5:=hcell 5 _ rfl;have z4:=hfz (f*6+4);have z5:=hfz (f*6+5);have HT:=a4b hCor;have hGw:G<w:=by have:=H.out.own;obtain ⟨xs,h1,-⟩:=this;exact aK8 h1 rfl
  have hGc:g.c ≠ G:=fun e=>H.out.ne gh
  have hn2:¬ G=w:=I;have hn3:¬ G=g.c:=fun e=>hGc e.symm
  clear hcell hfz hCor hE1;go_wp2_with fail;go_region;have HT3:=a4b (show cV t vn b (cY L x) g P (.slice (qp G) L cap) (((w2.setCell (qt G (f*6+5)) (.int .i64 (wrap64 (y.hits+x.hits)))).drew).setCell (qt G (f*6+4)) (y.fresh || x.fresh)) from HT.out.ext (aq _).drew');have HF3:=a4b (show Fr (g.M (.slice (qp G) L cap)) w ((w2.setCell (qt G (f*6+5)) (.int .i64 (wrap64 (y.hits+x.hits)))).drew) from ((ar HX2.out).setCell (p:=qt G (f*6+5)) (.inl (.inr rfl)) _).drew);have d3:((w2.setCell (qt G (f*6+5)) (.int .i64 (wrap64 (y.hits+x.hits)))).drew).cell? (qt g.c 3)=some (.slice (qp G) L cap):=(World.cell?_setCell_far w2 (qt G (f*6+5)) (qt g.c 3) _ hn3).trans c3;have e4:((w2.setCell (qt G (f*6+5)) (.int .i64 (wrap64 (y.hits+x.hits)))).drew).cell? (qt w 4)=some ↑x.fresh:=(World.cell?_setCell_far w2 (qt G (f*6+5)) (qt w 4) _ hn2).trans x4;have f4:((w2.setCell (qt G (f*6+5)) (.int .i64 (wrap64 (y.hits+x.hits)))).drew).cell? (qt G (f*6+4))=some ↑y.fresh:=(World.cell?_setCell_other w2 (qt G (f*6+5)) (qt G (f*6+4)) _ (fun e=>by have:=congrArg Addr.off e;simp at this)).trans g4;have q4:((w2.setCell (qt G (f*6+5)) (.int .i64 (wrap64 (y.hits+x.hits)))).drew).frozen? (qt G (f*6+4))=false:=by simpa using z4
  generalize (w2.setCell (qt G (f*6+5)) (.int .i64 (wrap64 (y.hits+x.hits)))).drew=W3 at *;clear c3 x0 x1 x2 x3 x4 x5 g4 g5 z4 z5 HT;generalize y.fresh=yf at *;cases yf with
  | false =>
   simp only [Bool.false_or] at HT3;go_wp2_with fail;go_region;have HR:=a4b (show gY t vn b (cY L x) g P (.slice (qp G) L cap) w (W3.setCell (qt G (f*6+4)) x.fresh).drew from ⟨P,_,HT3.out.ext (aq _).drew',fun k hk=>.inl hk,(HF3.out.setCell (p:=qt G (f*6+4)) (.inl (.inr rfl)) _).drew,.inl rfl⟩);generalize (W3.setCell (qt G (f*6+4)) x.fresh).drew=W4 at *;go_wp2_with fail;go_ret;exact ⟨by rw [HHE.out];rfl,HR.out⟩
  | true =>
   simp only [Bool.true_or] at HT3;go_wp2_with fail;go_region;have HR:=a4b (show gY t vn b (cY L x) g P (.slice (qp G) L cap) w (W3.setCell (qt G (f*6+4)) true).drew from ⟨P,_,HT3.out.ext (aq _).drew',fun k hk=>.inl hk,(HF3.out.setCell (p:=qt G (f*6+4)) (.inl (.inr rfl)) _).drew,.inl rfl⟩);generalize (W3.setCell (qt G (f*6+4)) true).drew=W4 at *;go_wp2_with fail;go_ret;exact ⟨by rw [HHE.out];rfl,HR.out⟩
 | false =>
  have HIN:=a4b (fun (w3:World) A3 d3 hX3 hE3=>aLj (w2:=w2.drew) (w3:=w3) x H.out HHE.out HX2.out.drew' hX3 A3 d3 hE3 hfew hpl);rw [HFE.out] at HIN;have HCP:=a4b (fun (W:World) (hE:Ext w W)=>vG x A c Q W (HX.out.ext hE) I);have c3:=(H.out.ext HX2.out).cell3;obtain ⟨x0,x1,x2,x3,x4,x5⟩:=bZ HB2.out
  obtain ⟨Av,n0,cv,rfl⟩:∃ Av n0 cv,ve=.slice Av n0 cv:=by
   obtain ⟨xs,ho,-,-⟩:=H.out.one;exact aDj ho
  go_wp2_with fail
  go_region_with (first
   | (go_at_call 103;refine (HCP.out _ HX2.out.drew').mono ?_;rintro e w3 ⟨A3,d3,rfl,hE3,hx3⟩;have k3:=aA hx3 c3;have lk:=aX k3;have HE3:=a4b hE3;have HX3:=a4b (HX2.out.drew'.trans' hx3);clear hE3 hx3)
   | (go_at_call 102;refine (HIN.out w3 A3 d3 HX3.out HE3.out).mono ?_;rintro e w4 ⟨A4,n4,c4,rfl,k4,q4,hA4⟩;have HA4:=a4b hA4;clear hA4))
  all_goals
   generalize w4.setCell (qt g.c 3) (.slice A4 n4 c4)=W5 at *;go_wp2_with fail;go_ret;exact ⟨by rw [HHE.out];rfl,HA4.out⟩
theorem aL5 {t vn b}{L:List GE}{g P ve w}(i:Nat)(hi:i<L)(h:cV t vn b L g P ve w) :
  Calls Tryz.prog 104 #[ve,↑i,.int .i64 ((i:Int)+1)] w
   (fun e w4=>∃ A4 n4 c4,e=.returned (.slice A4 n4 c4)∧qc w4 g.c 3 ve∧w4.frozen? (qt g.c 3)=false∧(Value.slice A4 n4 c4).ownBlock=ve.ownBlock ∧
    Fr (g.M ve) w (w4.setCell (qt g.c 3) (.slice A4 n4 c4))∧cV t vn b (L.eraseIdx i) g P (.slice A4 n4 c4) (w4.setCell (qt g.c 3) (.slice A4 n4 c4))):=by
 obtain ⟨xs,ho,hr,h1⟩:=h.one;have hfew:=h.few;rcases ho with ⟨hxl,⟨h2,h3⟩ | ⟨G,cap,cur,rfl,-,h3,h4,h5,h6,h7⟩⟩
 ·omega
 have hB:Blk w G 102 cur.toList.toArray:=by unfold Blk;simpa using h3
 have hcl:cur.toList=cap*6:=jp;have h63:cap<=9223372036854775807:=gu;refine (aFs G L cap i cur.toList w hB hcl h4 hi hfew h63 (by rw [h7];exact h1)).mono ?_;rintro e w4 ⟨rfl,cur',hB',hl',ht',hF⟩;have hlt:=h.box.lt;have hgG:g.c ≠ G:=fun e=>h.ne gh
 have hbox:Blk w4 g.c 95 #[vn,qp g.w,↑b,.slice (qp G) L cap]:=(hF.block _ hlt hgG).trans h.box;have hB3:=hbox.set_ 3 (.slice (qp G) (L.length - 1) cap);have hfr:∀ k,k ≠ g.c->(w4.setCell (qt g.c 3) (.slice (qp G) (L.length - 1) cap)).heap[k]?=w4.heap[k]?:=fun k hk=>Below.heap_setCell _ _ _ _ (fun e=>hk e)
 have hFF:Fr (g.M (.slice (qp G) L cap)) w (w4.setCell (qt g.c 3) (.slice (qp G) (L.length - 1) cap)):=by
  have h1:Fr (g.M (.slice (qp G) L cap)) w w4:=⟨hF.os,hF.tape,hF.output,hF.size,fun k hk hm=>hF.block k hk (fun e=>hm (.inr gh))⟩;exact h1.setCell (p:=qt g.c 3) (.inl (.inl rfl)) _
 refine ⟨_,_,_,rfl,hbox.cell' 3 rfl,hbox.frozen 3,rfl,hFF,?_⟩;have hB4:Blk (w4.setCell (qt g.c 3) (.slice (qp G) (L.length - 1) cap)) G 102 cur'.toArray:=(hfr G (fun e=>hgG e.symm)).trans hB';generalize w4.setCell (qt g.c 3) (.slice (qp G) (L.length - 1) cap)=W at *
 have hkP:aB P w W:=fun k hk hp=>hFF.block k hk (fun hm=>by
  rcases hm with hm | hm
  ·exact (h.excl k hp).1 hm
  ·exact (h.excl k hp).2 hm)
 have hle:(L.eraseIdx i).length=L - 1:=by rw [List.length_eraseIdx,if_pos hi]
 have hsub:(L.eraseIdx i).Sublist L:=List.eraseIdx_sublist L i
 have ht2:cur'.take ((L.length - 1)*6)=xs.take (i*6) ++ xs.drop ((i+1)*6):=by
  rw [ht',h7,<- h7,List.take_take,Nat.min_eq_left I]
 refine ⟨hB3,h.walk.carry hkP (fun _ _ h=>h),⟨_,⟨?_,.inr ⟨G,cap,cur'.toArray,by rw [hle],af _,hB4,I,h5,by simpa using hl',rfl⟩⟩,?_⟩,h.excl,h.ne,?_,h.bI,I,fun e he=>h.short e (hsub.subset he),h.good⟩
 ·simp only [ak,hle]
  omega
 ·rw [hle]
  show RL (REn W P) (L.eraseIdx i) (cur'.take ((L.length - 1)*6));rw [ht2,List.eraseIdx_eq_take_drop_succ];have hr':=hr.move eN hkP (fun _ _ h=>h);exact (hr'.take (eN.len W P) i).append (hr'.drop (eN.len W P) (i+1))
 ·exact List.Pairwise.sublist (hsub.map GE.path) h.inc
def rZ (w:World)(a:Addr):Nat:=match w.cell? a with
 | some (.slice _ n _)=>n
 | _=>0
theorem aEd {b L}(h:¬ (b<bC L∨256<L.length)):∀ n,aCt b n L=L
 | 0=>rfl
 | n+1=>by simp only [aCt];rw [if_neg h]
theorem aA1 {b L}(h:b<bC L∨256<L.length)(h0:0<L.length):vF b L=vF b (L.eraseIdx (nJ L)):=by
 unfold vF;have h1:(L.eraseIdx (nJ L)).length=L - 1:=by rw [List.length_eraseIdx,if_pos (yA h0)]
 rw [h1];generalize hn:L.length - 1=n at *;rw [show L=n+1 by omega];simp only [aCt];rw [if_pos h]
def aN2 (t:List GN)(vn:Value)(b:Int)(L:List GE)(g:CA)(P:Nat->Prop)(ve:Value)(w wr:World):Prop :=
 ∃ L' A' c',cV t vn b L' g P (.slice A' L' c') wr∧(Value.slice A' L' c').ownBlock=ve.ownBlock∧Fr (g.M ve) w wr∧vF b L'=vF b L
def aZx (L:List GE)(W:World)(k i:Value)(wr:World):Prop:=∃ j m:Nat,i=↑j∧k=↑m∧j<=L∧m<L∧fB j m (L.drop j)=nJ L∧Ext W wr
def aNu (t:List GN)(vn:Value)(b:Int)(L:List GE)(g:CA)(P:Nat->Prop)(ve:Value)(w:World)(e:Ending)(w':World):Prop :=
 e=.returned (.tuple #[])∧∃ v',cV t vn b (vF b L) g P v' w'∧v'.ownBlock=ve.ownBlock∧Fr (g.M ve) w w'
theorem aQq (t vn b L g P ve w)(h:cV t vn b L g P ve w) :
  qg 49 #[qp g.c] w (aNu t vn b L g P ve w):=by
 have HS:Hid (aN2 t vn b L g P ve w w):=a4b (by
  obtain ⟨xs,ho,-⟩:=h.own;rcases ho.2 with ⟨e,e2⟩ | ⟨G,cap,cur,e,-⟩
  ·refine ⟨L,none,0,?_,gh,au _ w,rfl⟩
   rw [e2,<- e];exact h
  ·refine ⟨L,_,cap,by rw [<- e];exact h,by rw [<- e],au _ w,rfl⟩)
 clear h;go_enter Tryz.func49,Tryz.ntmps49;go_wp2_with fail;go_loopw [] (fun wr=>aN2 t vn b L g P ve w wr) (fun wr=>rZ wr (qt g.c 3))
 case atStart=>exact HS.out
 case round =>
  obtain ⟨L1,A1,d1,hC,hob,hF,hcut⟩:=hrel;have HC:=a4b hC;have HOB:=a4b hob;have HF:=a4b hF;have HCU:=a4b hcut;have HBY:=a4b (fun (W:World) (hE:Ext wr W)=>tH t vn b L1 g P _ W (hC.ext hE));have c3:=hC.cell3;have c2:qc wr g.c 2 b:=hC.box.cell' 2 rfl;have hfew:=hC.few;have hbI:=hC.bI;clear hC hob hF hcut;have HD:=a4b (show (b<bC L1∨256<L1.length) ↔ (decide (b<bC L1) || decide (256<L1.length))=true by simp);generalize hs:bC L1=s at *;have HSS:=a4b hs;clear hs;have HL0:=a4b (show rZ wr (qt g.c 3)=L1 by unfold rZ;rw [c3]);have k2:=aGi.cell c2;have k3:=aGi.cell c3;go_upto_region 0 with fail;go_cut [19] from 5 to 51 (fun s1 wx=>s1=.bool (decide (b<s) || decide (256<L1.length))∧Ext wr wx)
  case first =>
   by_cases hb:b<s
   ·have hd:decide (b<s)=true:=a4e hb
    refine mE U U ?_;repeat (go_big_quiet_step (exact aNa (HBY.out _ (aGi.h _))))
    refine wpQuiet_nil ?_;intro _ hw';obtain ⟨⟨wq,hq⟩,rfl⟩:=hw';go_wp2_with fail;go_meet;exact ⟨by simp [hd],hq⟩
   ·have hd:decide (b<s)=false:=a4f hb
    refine mE U U ?_;repeat (go_big_quiet_step (exact aNa (HBY.out _ (aGi.h _))))
    refine wpQuiet_nil ?_;intro _ hw';obtain ⟨⟨wq,hq⟩,rfl⟩:=hw';go_wp2_with fail;go_meet;exact ⟨by rw [hd,Bool.false_or];exact congrArg Value.bool (decide_eq_decide.2 I),hq⟩
  case rest =>
   obtain ⟨rfl,hxc⟩:=hcut;have HC2:=a4b (HC.out.ext hxc);have HF2:=a4b (HF.out.trans (ar hxc));have c3c:=aA hxc c3;clear hxc c2 c3 k2 k3 HC HF HBY;by_cases hcc:b<s∨256<L1.length
   ·have HCC:=a4b hcc
    have hd:(decide (b<s) || decide (256<L1.length))=true:=HD.out.1 hcc;rw [hd]
    have hpos:0<L1.length:=by
     rcases hcc with h | h
     ·cases L1 with
      | nil=>have:=HSS.out;simp [bC] at this;omega
      | cons _ _=>simp
     ·omega
    clear hd hcc;have hle:=(Lst.form HC2.out.ens);obtain ⟨A9,c9,e9,h91,h92⟩:=hle;injection e9 with e91 _ e92;subst e91 e92;have HEN:=a4b HC2.out.ens;go_wp2_with fail;go_loopw [2,31] (fun k i wx=>aZx L1 wc k i wx) (fun _ i _=>L1.length - (intOf i).toNat)
    case atStart=>exact ⟨0,L1.length - 1,rfl,by go_num,af _,I,rfl,aq _⟩
    case round =>
     obtain ⟨j,m,rfl,rfl,hj,hm,hcf,hx⟩:=hrel;have HCF:=a4b hcf;have HX:=a4b hx;clear hcf hx;by_cases hlt:j<L1
     ·obtain ⟨b1,o1,A2,d2,rfl,-,hv1,hgc⟩:=(HEN.out.ext HX.out).get hlt
      have HD1:=a4b (show fB (j+1) (if (L1.getD j default).fresh then m else j) (L1.drop (j+1))=nJ L1 by rw [<- HCF.out,aH default hlt];rfl);generalize L1.getD j default=y at *;have g0:=hgc 0 _ rfl;have g1:=hgc 1 _ rfl;have g2:=hgc 2 _ rfl;have g3:=hgc 3 _ rfl;have g4:=hgc 4 _ rfl;have g5:=hgc 5 _ rfl;rw [Nat.add_zero] at g0;clear hgc hv1;generalize y.fresh=yf at *;cases yf with
      | false =>
       go_wp2_with fail;go_roundw
       case rel=>exact ⟨j+1,j,by go_num,rfl,I,I,by simpa using HD1.out,HX.out.alloc' _⟩
       case measure=>simp [intOf];omega
      | true =>
       go_wp2_with fail;go_roundw
       case rel=>exact ⟨j+1,m,by go_num,rfl,I,I,by simpa using HD1.out,HX.out.alloc' _⟩
       case measure=>simp [intOf];omega
     ·have hjl:j=L1:=by omega
      have HCA:=a4b (show m=nJ L1 by rw [<- HCF.out,drop_nil I];rfl);have HDC:=a4b (aL5 m hm (HC2.out.ext HX.out));have c3r:=aA HX.out c3c;clear hjl;go_wp2_with fail;refine HDC.out.mono ?_;rintro e w4 ⟨A4,n4,c4,rfl,q3,q4,hob4,hF4,hC4⟩
      have hn4:n4=(L1.eraseIdx m):=by
       obtain ⟨A8,c8,e8,-,-⟩:=Lst.form hC4.ens;injection e8
      subst hn4;have HC4:=a4b hC4;have HF4:=a4b hF4;have HO4:=a4b hob4;clear hob4 hF4 hC4 c3r;go_wp2_with fail;go_roundw
      case rel =>
       refine ⟨L1.eraseIdx m,A4,c4,HC4.out,HO4.out.trans HOB.out,(HF2.out.trans (ar HX.out)).trans (HF4.out.mono (fun k hk=>hk.elim .inl (fun h=>.inr (by rw [h,HOB.out])))),?_⟩;rw [HCA.out,<- aA1 (by rw [HSS.out];exact HCC.out) hpos];exact HCU.out
      case measure =>
       rw [HL0.out];unfold rZ;rw [HC4.out.cell3,List.length_eraseIdx,if_pos hm];show L1.length - 1<L1;omega
   ·have hd:(decide (b<s) || decide (256<L1.length))=false:=by
     cases hh:(decide (b<s) || decide (256<L1.length))
     ·rfl
     ·exact absurd (HD.out.2 hh) hcc
    rw [hd]
    have HR:=a4b (show aNu t vn b L g P ve w (.returned (.tuple #[])) wc from ⟨rfl,_,by
     rw [<- HCU.out];unfold vF;rw [aEd (by rw [HSS.out];exact hcc)];exact HC2.out,HOB.out,HF2.out⟩)
    clear hd hcc;go_wp2_with fail;exact bodyPost_ret (v:=.tuple #[]) (by simp [results,Tryz.results49,go_sem]) rfl HR.out
abbrev zY (k a c:Int):Value:=.agg #[↑k,↑a,↑c,qn,qn,qz]
def mkE (path:List Int)(k a c:Int)(f:Bool):GE:=⟨path,k,a,c,f,1⟩
def aWa (t:List GN)(vn:Value)(b:Int)(L:List GE)(x:GE)(g:CA)(P:Nat->Prop)(ve:Value)(w:World)(e:Ending)(w':World):Prop :=
 e=.returned (.tuple #[(tO (aL t) b L x),.int .i64 (yU (aL t) x)])∧gY t vn b (lB (aL t) b L x) g P ve w w'
section
variable {t:List GN}{vn:Value}{b:Int}{L L':List GE}{g:CA}{P:Nat->Prop}{ve:Value}{w w1 w2:World}
theorem gY.of_ext (hx:Ext w w1)(h:gY t vn b L' g P ve w1 w2):gY t vn b L' g P ve w w2:=by
 obtain ⟨P',v',h1,h2,h3,h4⟩:=h;have hs:=hx.size;refine ⟨P',v',h1,fun k hk=>(h2 k hk).elim .inl (fun h=>.inr I),(ar hx).trans h3,h4.elim .inl (fun ⟨k,h5,h6⟩=>.inr ⟨k,h5,I⟩)⟩
theorem gY.none (h:cV t vn b L g P ve w)(hx:Ext w w1):gY t vn b L g P ve w w1:=⟨P,ve,h.ext hx,fun _ h=>.inl h,ar hx,.inl rfl⟩
end
theorem aCy (t vn b L g P Pp ve vp path k a c)(f:Bool)(w)(h:cV t vn b L g P ve w)(hp:Ints w Pp vp path)(hPp:∀ i,Pp i->¬ g.M ve i)
  (hk:I64 k)(ha:I64 a)(hc:I64 c)(hfew:L.length+1<=100000)(hpl:path.length<=1000000000) :
  qg 12 #[qp g.c,vp,zY k a c,f] w (aWa t vn b L (mkE path k a c f) g P ve w):=by
 obtain ⟨Ap,cp,ep,hp1,hp2⟩:=hp.form;subst ep;have H:=a4b h;have HP:=a4b hp;have HPP:=a4b hPp;have HE1:=a4b (show EAt w Pp (mkE path k a c f) Ap cp from ⟨hp,hk,ha,hc,by simp [mkE,I64]⟩);have HAE:=a4b (show lB (aL t) b L (mkE path k a c f)=if aL t path then (if gE path L then cY L (mkE path k a c f) else vF b (cY L (mkE path k a c f))) else L from rfl);have HAB:=a4b (show tO (aL t) b L (mkE path k a c f)=if aL t path then (if gE path L then false else gE path (vF b (cY L (mkE path k a c f)))) else false from rfl);have HAI:=a4b (show yU (aL t) (mkE path k a c f)=if aL t path then 0 else 11 from rfl);clear h hp hPp;go_enter Tryz.func12,Tryz.ntmps12;go_upto_region 1 with fail;have HE:=a4b ((aq w).alloc' (qk #[↑k,↑a,↑c,qn,qn,qz] 46));have HB:=a4b (aw w 46 #[↑k,↑a,↑c,qn,qn,qz]);generalize w.alloc (qk #[↑k,↑a,↑c,qn,qn,qz] 46)=W at *;have c1:qc W g.c 1 (qp g.w):=(H.out.ext HE.out).box.cell' 1 rfl;have HW:=a4b (yZ t path vn (.slice Ap path cp) g.w g.s g.l g.f P Pp W (H.out.ext HE.out).walk (HP.out.ext HE.out) H.out.good I)
 generalize hwb:aL t path=wb at *;have HWB:=a4b hwb;clear hwb;go_upto_region 2 with (go_at_call 47;refine HW.out.mono ?_;rintro e w1 ⟨y,A1,d1,rfl,hx1⟩);have HX2:=a4b (show Ext w (w1.alloc (qk (qh y A1 d1) 85)) from (HE.out.trans' hx1).alloc' _);have HB2:=a4b ((HB.out.ext hx1).alloc (qk (qh y A1 d1) 85));clear hx1 c1;generalize w1.alloc (qk (qh y A1 d1) 85)=W2 at *
 cases wb with
 | false =>
  go_wp2_with fail;go_ret2;refine ⟨?_,?_⟩
  ·rw [HAB.out,HAI.out];rfl
  ·rw [HAE.out];exact gY.none H.out HX2.out
 | true =>
  obtain ⟨x0,x1,x2,x3,x4,x5⟩:=bZ HB2.out;generalize hhe:gE path L=he at *;have HHE:=a4b hhe;clear hhe
  have HJ:=a4b (show qg 48 #[qp g.c,.agg #[.slice Ap path cp,↑k,↑a,↑c,f,.int .i64 1]] W2 (fun e w'=>e=.returned (!he)∧gY t vn b (cY L (mkE path k a c f)) g P ve W2 w') from by
   have h:=aLh t vn b L g P Pp ve (mkE path k a c f) Ap cp W2 (H.out.ext HX2.out) (HE1.out.ext HX2.out) hfew hpl;unfold aJe at h;rw [show gE (mkE path k a c f).path L=he from HHE.out] at h;exact h)
  cases he with
  | true =>
   go_wp2_with fail;refine HJ.out.mono ?_;rintro e w3 ⟨rfl,hA3⟩;have HA3:=a4b (gY.of_ext HX2.out hA3);clear hA3;simp only [Bool.not_true];go_wp2_with fail;go_ret2;refine ⟨?_,?_⟩
   ·rw [HAB.out,HAI.out];rfl
   ·rw [HAE.out];exact HA3.out
  | false =>
   go_wp2_with fail;refine HJ.out.mono ?_;rintro e w3 ⟨rfl,hA3⟩;have HA3:=a4b (gY.of_ext HX2.out hA3);clear hA3;simp only [Bool.not_false];obtain ⟨P',v',h1,h2,h3,h4⟩:=HA3.out;have hpw:Ints w3 (fun i=>Pp i∧i<w) (.slice Ap path cp) path:=HP.out.carry (fun i hi hp=>h3.block i hi (HPP.out i hp)) (fun i hi hp=>⟨hp,hi⟩);have HC:=a4b (aQq t vn b _ g P' v' w3 h1)
   have hM:∀ i,i<w.heap.size->g.M v' i->g.M ve i:=fun i hi hm=>by
    rcases hm with hm | hm
    ·exact .inl hm
    ·rcases h4 with h4 | ⟨j,h4,h5⟩
     ·exact .inr (by rw [hm,h4])
     ·rw [h4] at hm;injection hm with hm;omega
   have HM:=a4b hM;have HPW:=a4b hpw;have H2:=a4b h2;have H3:=a4b h3;have H4:=a4b h4;clear h1 h2 h3 h4 hpw hM HA3 x0 x1 x2 x3 x4 x5;go_wp2_with fail;refine HC.out.mono ?_;rintro e w4 ⟨rfl,v4,hc4,hob4,hf4⟩;have HF4:=a4b (show Fr (g.M ve) w w4 from ⟨hf4.os.trans H3.out.os,hf4.tape.trans H3.out.tape,hf4.output.trans H3.out.output,ae H3.out.size hf4.size,fun i hi hn=>(hf4.block i (ac hi H3.out.size) (fun hm=>hn (HM.out i hi hm))).trans (H3.out.block i hi hn)⟩);have HPW4:=a4b (HPW.out.carry (Q:=fun _=>True) (fun i hi hp=>hf4.block i hi (fun hm=>HPP.out i hp.1 (HM.out i hp.2 hm))) (fun _ _ _=>trivial));have HC4:=a4b hc4;have HO4:=a4b hob4;clear hc4 hob4 hf4;go_wp2_with fail;refine (aHz t vn b _ g P' _ v4 _ path w4 HC4.out HPW4.out).mono ?_;rintro e w5 ⟨rfl,hx5⟩;have HA5:=a4b (show gY t vn b (vF b (cY L (mkE path k a c f))) g P ve w w5 from ⟨P',v4,HC4.out.ext hx5,H2.out,HF4.out.trans (ar hx5),by rw [HO4.out];exact H4.out⟩);clear hx5;go_wp2_with fail;go_ret2;refine ⟨?_,?_⟩
   ·rw [HAB.out,HAI.out];rfl
   ·rw [HAE.out];exact HA5.out
structure lC (t:List GN)(vn:Value)(b:Int)(L:List GE)(g:CA)(P:Nat->Prop)(v:Value)(B:Nat)(w:World):Prop where
 cor:cV t vn b L g P v w
 lo:∀ k,P k∨g.M v k->B<=k∧k<w
section
variable {t:List GN}{vn vn':Value}{b b':Int}{L L':List GE}{g g':CA}{P P':Nat->Prop}{v v':Value}{B:Nat}{w w':World}
theorem cV.mlt (h:cV t vn b L g P v w){k}(hk:g.M v k):k<w:=by
 rcases hk with rfl | hk
 ·exact h.box.lt
 ·obtain ⟨xs,h1,-⟩:=h.own
  exact aK8 h1 hk.symm
theorem lC.ext (h:lC t vn b L g P v B w)(hx:Ext w w'):lC t vn b L g P v B w':=⟨h.cor.ext hx,fun k hk=>⟨(h.lo k hk).1,ac (h.lo k hk).2 hx.size⟩⟩
theorem lC.after (h:lC t vn b L g P v B w)(ha:gY t vn b L' g P v w w'):∃ P' v',lC t vn b L' g P' v' B w'∧Fr (fun k=>B<=k) w w'∧Fr (g.M v) w w'∧(∀ k,P' k->P k∨w<=k)∧∀ k,g.M v' k->g.M v k∨w<=k:=by
 obtain ⟨P1,v1,h1,h2,h3,h4⟩:=ha;have hBw:B<=w:=by have:=h.lo g.c (.inr (.inl rfl));omega
 have hM:∀ k,g.M v1 k->g.M v k∨w<=k:=by
  intro k hk;rcases hk with hk | hk
  ·exact .inl (.inl hk)
  ·rcases h4 with h4 | ⟨k',h4,h5⟩
   ·exact .inl (.inr (by rw [hk,h4]))
   ·rw [h4] at hk;injection hk with hk;subst hk;exact .inr h5
 have hc:=h1.carry (Q:=fun k=>P1 k∧k<w') (fun _ _ _=>rfl) (fun k hk hp=>⟨hp,hk⟩) (fun k hk=>h1.excl k hk.1);refine ⟨fun k=>P1 k∧k<w',v1,⟨hc,?_⟩,h3.mono (fun k hk=>(h.lo k (.inr hk)).1),h3,fun k hk=>h2 k hk.1,hM⟩;intro k hk;rcases hk with ⟨hk,hlt⟩ | hk
 ·refine ⟨?_,hlt⟩
  rcases h2 k hk with h5 | h5
  ·exact (h.lo k (.inl h5)).1
  ·omega
 ·refine ⟨?_,hc.mlt hk⟩
  rcases hM k hk with h5 | h5
  ·exact (h.lo k (.inr h5)).1
  ·omega
def aGe (g:CA)(P:Nat->Prop)(v:Value)(g':CA)(P':Nat->Prop)(v':Value):Prop:=(∀ k,P k∨g.M v k->¬ g'.M v' k)∧∀ k,P' k∨g'.M v' k->¬ g.M v k
theorem aGe.swap (h:aGe g P v g' P' v'):aGe g' P' v' g P v:=⟨h.2,h.1⟩
theorem lC.other (h:lC t vn b L g P v B w)(h':lC t vn' b' L' g' P' v' B w)(ha:aGe g P v g' P' v'){L1}(hA:gY t vn b L1 g P v w w') :
  ∃ P1 v1,lC t vn b L1 g P1 v1 B w'∧lC t vn' b' L' g' P' v' B w'∧aGe g P1 v1 g' P' v'∧Fr (fun k=>B<=k) w w':=by
 obtain ⟨P1,v1,h1,h2,h3,h4,h5⟩:=h.after hA;refine ⟨P1,v1,h1,⟨h'.cor.carry (fun k hk hp=>h3.block k hk (ha.2 k hp)) (fun _ _ h=>h) h'.cor.excl,fun k hk=>⟨(h'.lo k hk).1,ac (h'.lo k hk).2 h2.size⟩⟩,⟨?_,?_⟩,h2⟩
 ·intro k hk hm
  have hlt:=(h'.lo k (.inr hm)).2;rcases hk with hk | hk
  ·rcases h4 k hk with h6 | h6
   ·exact ha.1 k (.inl h6) hm
   ·omega
  ·rcases h5 k hk with h6 | h6
   ·exact ha.1 k (.inr h6) hm
   ·omega
 ·intro k hk hm
  have hlt:=(h'.lo k hk).2;rcases h5 k hm with h6 | h6
  ·exact ha.2 k hk h6
  ·omega
end
def a3x (gs:List (List Int))(a i:Nat):List (List Int):=(List.range i).map (fun j=>gs.getD ((a+gs - 1 - j) % gs.length) [])
def aQ4 (t:List GN)(b:Int)(w:World)(e:Ending)(w':World):Prop :=
 ∃ g P' vn',e=.returned (.tuple #[qp g.c,qz])∧lC t vn' b [] g P' qn w w'∧Ext w w'
theorem aGy {t}(h:∀ x ∈ t,iD x):pZ t:=fun x hx=>(h x hx).2.2.2.2.1
theorem aFb (t)(P:Nat->Prop)(vn)(b:Int)(w:World)(hP:∀ k,P k->k<w)(ht:Nds w P vn t)(hsm:pZ t)(hv:¬ aY t=0) :
  qg 10 #[.agg #[vn],↑b] w (aC0 (.pointer none) (.int .i64 (aY t)) w):=by
 have HV:=a4b (fun (W:World) (hx:Ext w W)=>iW t P vn W (fun k hk=>ac (hP k hk) hx.size) (ht.ext hx) hsm);obtain ⟨A,c,e,h1,h2⟩:=ht.form;subst e;have hd:(aY t == 0)=false:=a4c hv;clear hP ht hsm;generalize aY t=vt at *;go_enter Tryz.func10,Tryz.ntmps10;go_wp2_with fail;refine (HV.out _ ((aq w).alloc' _)).mono ?_;rintro e w1 ⟨rfl,hx1⟩;have HX1:=a4b (((aq w).alloc' _).trans' hx1);clear hx1;go_wp2_with fail;go_ret2;exact ⟨rfl,HX1.out⟩
theorem aFc (t)(P:Nat->Prop)(vn)(b:Int)(w:World)(hP:∀ k,P k->k<w)(ht:Nds w P vn t)(hsm:pZ t)(hv:aY t=0)(hb:b<0∨1099511627776<b) :
  qg 10 #[.agg #[vn],↑b] w (aC0 (.pointer none) (.int .i64 1) w):=by
 have HV:=a4b (fun (W:World) (hx:Ext w W)=>iW t P vn W (fun k hk=>ac (hP k hk) hx.size) (ht.ext hx) hsm);rw [hv] at HV;obtain ⟨A,c,e,h1,h2⟩:=ht.form;subst e;clear hP ht hsm hv;by_cases h0:b<0
 ·have hd:decide (b<0)=true:=a4e h0
  clear hb;go_enter Tryz.func10,Tryz.ntmps10;go_wp2_with fail;refine (HV.out _ ((aq w).alloc' _)).mono ?_;rintro e w1 ⟨rfl,hx1⟩;have HX1:=a4b (((aq w).alloc' _).trans' hx1);clear hx1;go_wp2_with fail;go_ret2;exact ⟨rfl,HX1.out⟩
 ·have hd:decide (b<0)=false:=a4f h0
  have h3:1099511627776<b:=I;clear hb;go_enter Tryz.func10,Tryz.ntmps10;go_wp2_with fail;refine (HV.out _ ((aq w).alloc' _)).mono ?_;rintro e w1 ⟨rfl,hx1⟩;have HX1:=a4b (((aq w).alloc' _).trans' hx1);clear hx1;go_wp2_with fail;go_ret2;exact ⟨rfl,HX1.out⟩
theorem aUl {t vn b B0 gw gs gl gf P w5}(hW:kE t vn gw gs gl gf P w5)(hP:∀ k,k<w5.heap.size->P k->B0<=k)(hB:B0<=w5)(hb:0<=b∧b<=1099511627776)(hg:bD t t) :
  lC t vn b [] ⟨w5.heap.size,gw,gs,gl,gf⟩ (fun k=>B0<=k∧k<w5.heap.size) qn B0 (w5.alloc (qk #[vn,qp gw,↑b,qn] 95)):=by
 have hx:Ext w5 (w5.alloc (qk #[vn,qp gw,↑b,qn] 95)):=(aq _).alloc' _;refine ⟨⟨aw _ _ _,hW.carry (aB.of_ext hx) (fun k hk hp=>⟨hP k hk hp,hk⟩),⟨[],aP _ _ _ _,fy⟩,?_,fc,List.Pairwise.nil,hb,O,O,hg⟩,?_⟩
 ·intro k hk
  exact ⟨by show k ≠ w5;omega,fc⟩
 ·intro k hk
  rcases hk with hk | hk | hk
  ·simp;omega
  ·simp only at hk;subst hk;simp;omega
  ·simp [Value.ownBlock] at hk
theorem mQ (t)(P:Nat->Prop)(vn)(b:Int)(w:World)(hP:∀ k,P k->k<w)(ht:Nds w P vn t)(hsm:∀ x ∈ t,iD x)(hv:aY t=0)(hb:0<=b∧b<=1099511627776) :
  qg 10 #[.agg #[vn],↑b] w (aQ4 t b w):=by
 have hg:=eE.1 hv;have HV:=a4b (fun (W:World) (hx:Ext w W)=>iW t P vn W (fun k hk=>ac (hP k hk) hx.size) (ht.ext hx) (aGy hsm));rw [hv] at HV;have HCL:=a4b (fun (W:World) (hx:Ext w W)=>yE t hsm P vn W (fun k hk=>ac (hP k hk) hx.size) (ht.ext hx) (by have:=hg.2.1;omega));have HG:=a4b hg;obtain ⟨A,c,e,h1,h2⟩:=ht.form;subst e;have hd:decide (b<0)=false:=a4f I;have hd2:decide (1099511627776<b)=false:=a4f I;have HB:=a4b hb;clear hP ht hsm hv hg hb;go_enter Tryz.func10,Tryz.ntmps10;go_wp2_with fail;have HE:=a4b ((aq w).alloc' (qk #[.slice A t c] 25));have HB0:=a4b (aw w 25 #[.slice A t c]);have hsz:w.heap.size+1<=(w.alloc (qk #[.slice A t c] 25)):=by simp
 generalize w.alloc (qk #[.slice A t c] 25)=W at *;refine (HV.out _ HE.out).mono ?_;rintro e w1 ⟨rfl,hx1⟩;have HX1:=a4b (HE.out.trans' hx1);have HB1:=a4b (HB0.out.ext hx1);have hs1:=hx1.size;have b1:=HB1.out.cell' (u:=.slice A t c) 0 rfl;clear hx1;go_wp2_with fail;refine (HCL.out _ HX1.out).mono ?_;rintro e w2 ⟨A2,c2,rfl,hN,hx2⟩;have HX2:=a4b (HX1.out.trans' hx2);have HB2:=a4b (HB1.out.ext hx2);have b2:=HB2.out.cell' (u:=.slice A t c) 0 rfl;have f2:=HB2.out.frozen 0;have HN:=a4b hN;clear hx2 b1 hN;go_upto_region 7 with fail;have HX3:=a4b (show Ext w (w2.setCell (qp w) (.slice A2 t c2)) from HX2.out.setCell' (p:=qp w) (ab _) _);have HB3:=a4b (HB2.out.set_ 0 (.slice A2 t c2));have HN3:=a4b (show Nds (w2.setCell (qp w) (.slice A2 t c2)) (fun k=>w1.heap.size<=k∧k<w2.heap.size) (.slice A2 t c2) t from HN.out.carry (aB.set (fun _ _ _=>rfl) _ (by show ¬ w1.heap.size<=w;omega)) (fun k hk h=>⟨h,hk⟩));have hs3:w2.heap.size<=(w2.setCell (qp w) (.slice A2 t c2)):=by simp [World.setCell]
 generalize w2.setCell (qp w) (.slice A2 t c2)=W3 at *;have b3:=HB3.out.cell' (u:=.slice A2 t c2) 0 rfl;have l3:=HB3.out.lt;clear b2 f2
 go_region_held3 (fun w'=>qc w' w 0 (.slice A2 t c2))
  (first
   | exact aA hx5 ‹_›
   | go_keep)
  (first
   | (go_at_call 44;refine (aBp t (fun k=>w1.heap.size<=k∧k<w2.heap.size) _ W3.drew (fun k hk=>by show k<W3.heap.size;omega) (HN3.out.ext (aq _).drew') HG.out).mono ?_;rintro e w5 ⟨gw,gs,gl,gf,rfl,hW5,hx5,-,-,-,-⟩))
 have HX5:=a4b ((HX3.out.drew').trans' hx5);have hs5:=hx5.size;have HW5:=a4b hW5;clear hW5 hx5 b3;have hs5':W3.heap.size<=w5:=hs5
 have HM:=a4b (aUl (B0:=w.heap.size) HW5.out (fun k hk hp=>by
  rcases hp with hp | hp
  ·omega
  ·have hp':W3.heap.size<=k:=hp
   omega) I HB.out HG.out)
 have HXF:=a4b (HX5.out.alloc' (qk #[.slice A2 t c2,qp gw,↑b,qn] 95));go_wp2_with fail;go_ret2;exact ⟨_,_,_,rfl,HM.out,HXF.out⟩
def aBb (L:List GE)(w:World)(e:Ending)(w':World):Prop:=∃ A c,e=.returned (.slice A L c)∧Ens w' (fun b=>w.heap.size<=b) (.slice A L c) L∧Ext w w'
theorem pX (l P v w)(hl:Ens w P v l)(hlen:l.length<=100000)(hF:∀ x ∈ l,x.path.length<=1000000000):qg 106 #[v,.func (.func 103) #[] #[]] w (aBb l w):=by
 have HF:=a4b hF;have HV:=a4b hl;obtain ⟨A,c,e,h1,h2⟩:=Lst.form hl;subst e;clear hl hF;by_cases h0:l.length=0
 ·have t0:((l:Int) == 0)=true:=a4d I
  have hnil:l=[]:=List.eq_nil_of_length_eq_zero h0;subst hnil;clear h0;go_enter Tryz.func106,Tryz.ntmps106;go_wp2_with fail;go_ret;exact ⟨none,0,rfl,⟨none,0,[],rfl,ab _,O,⟨rfl,fun h=>by simp at h⟩,fy⟩,aq _⟩
 ·have t0:((l:Int) == 0)=false:=a4c I
  clear h0;obtain ⟨i0,hi,hz0,hz1,hz2⟩:=info_parts Tryz.info102
  have hmk:∀ W:World,(Instr.makeSlice 93 (↑(l:Int)) (↑(l:Int))).run Tryz.prog W=.ok (.slice (qp W) l l) (W.alloc (qk (madeCells #[qn,qz,qz,qz,false,qz] (l*6)) 102)):=by
   intro W;have h:=run_make (P:=Tryz.prog) W 93 102 i0 _ Tryz.underlying93 hi hz0 .i64 .i64 (l:Int) (l:Int) I (Int.le_refl _) fo I;rw [hz1] at h;rw [h];rfl
  have hsz:=size_madeCells #[qn,qz,qz,qz,false,qz] (l*6);generalize madeCells #[qn,qz,qz,qz,false,qz] (l*6)=mc at *;have HSZ:=a4b hsz;clear hsz hi hz0 hz1 hz2 i0;go_enter Tryz.func106,Tryz.ntmps106;go_wp2_with fail;go_loopw [15] (fun i wr=>aJo 6 REn l w 102 w i wr) (fun i _=>l.length - (intOf i).toNat)
  case atStart=>exact yG mc HSZ.out
  case round =>
   obtain ⟨k,cs,hk,rfl,hB,hcl,hR,hx⟩:=hrel;have HB:=a4b hB;have HCL:=a4b hcl;have HR:=a4b hR;have HX:=a4b hx;clear hB hcl hR hx;by_cases hlt:k<l
   ·obtain ⟨b1,o1,A1,d1,rfl,-,hv1,hgc⟩:=(HV.out.ext HX.out).get hlt
    have hsm:=HF.out _ (aD (d:=default) hlt);obtain ⟨x,hgx⟩:∃ x,x=l.getD k default:=⟨_,rfl⟩;have HG:=a4b hgx;rw [<- hgx] at hv1 hgc hsm;have HCX:=a4b (vG x A1 d1 P wr hv1 I);have hkk:(k:Int)<(l:Int):=by omega
    have n0:=hgc 0 _ rfl;have n1:=hgc 1 _ rfl;have n2:=hgc 2 _ rfl;have n3:=hgc 3 _ rfl;have n4:=hgc 4 _ rfl;have n5:=hgc 5 _ rfl;rw [Nat.add_zero] at n0;clear hv1 hgx hgc hsm;go_wp2_with fail;refine (HCX.out).mono ?_;rintro e w1 ⟨A2,d2,rfl,hv2,hx2⟩;have hBB:=HB.out.ext hx2;have hcl:=HCL.out;obtain ⟨y0,q0⟩:=hBB.some_ (i:=k*6) I;obtain ⟨y1,q1⟩:=hBB.some_ (i:=k*6+1) I;obtain ⟨y2,q2⟩:=hBB.some_ (i:=k*6+2) I;obtain ⟨y3,q3⟩:=hBB.some_ (i:=k*6+3) I;obtain ⟨y4,q4⟩:=hBB.some_ (i:=k*6+4) I;obtain ⟨y5,q5⟩:=hBB.some_ (i:=k*6+5) I;have f0:=hBB.frozen (k*6);have f1:=hBB.frozen (k*6+1);have f2:=hBB.frozen (k*6+2);have f3:=hBB.frozen (k*6+3);have f4:=hBB.frozen (k*6+4);have f5:=hBB.frozen (k*6+5);have HV2:=a4b hv2;have HX2:=a4b hx2;clear hv2 hx2 hBB hcl n0 n1 n2 n3 n4 n5;go_wp2_with fail;go_roundw
    case rel =>
     have:=HG.out;subst this;exact aCv (w1:=w1) eN default (ab _) hlt HB.out HCL.out HR.out HX.out HX2.out (us:=aV _ A2 d2) ⟨A2,d2,rfl,HV2.out⟩
    case measure=>simp [intOf];omega
   ·obtain rfl:k=l:=by omega
    go_wp2_with fail;go_ret;exact ⟨_,_,rfl,aIu eN (ab _) I HB.out HCL.out HR.out,HX.out⟩
theorem mZ (t vn b L g P ve w)(h:cV t vn b L g P ve w):qg 54 #[qp g.c] w (aBb L w):=by
 have HC:=a4b (pX L _ ve w h.ens h.few h.short);have c3:=h.cell3;obtain ⟨Al,cl,el,h1,h2⟩:=Lst.form h.ens;subst el;clear h;go_enter Tryz.func54,Tryz.ntmps54;go_wp2_with fail;refine HC.out.mono ?_;rintro e w1 ⟨A1,c1,rfl,hE,hx⟩;have HE:=a4b hE;have HX:=a4b hx;clear hE hx;go_wp2_with fail;go_ret;exact ⟨A1,c1,rfl,HE.out,HX.out⟩
theorem Tryz.info60:(Tryz.prog.info? 60).map (fun i=>(i.zero,i.size,i.bytes))=some (some (.agg #[qn,qz,qz,qz,false,qz]),6,64):=U
def aWi (L:List GE)(B:Nat)(W:World)(v i:Value)(wr:World):Prop :=
 ∃ (k:Nat) (xs:List Value),k<=L∧i=↑k∧wr.ownsRow W 60 6 v k xs∧RL (REn wr (fun b=>B<=b∧b<W.heap.size)) (L.take k) xs∧Ext W wr
theorem aCo (t vn b L g P ve w)(h:cV t vn b L g P ve w):qg 18 #[qp g.c] w (aBb L w):=by
 have HC:=a4b (mZ t vn b L g P ve w h);have hfew:=h.few;clear h;obtain ⟨i0,hi,hz0,hz1,hz2⟩:=info_parts Tryz.info60;have HI:=a4b hi;clear hi;go_enter Tryz.func18,Tryz.ntmps18;go_wp2_with fail;refine HC.out.mono ?_;rintro e W ⟨A4,c4,rfl,hE,hx⟩;have hwW:=hx.size;have HE:=a4b (hE.carry (Q:=fun b=>w.heap.size<=b∧b<W.heap.size) (fun _ _ _=>rfl) (fun b hb h=>⟨h,hb⟩));have HX:=a4b hx;have hle:=(Lst.form hE);obtain ⟨A9,c9,e9,h1,h2⟩:=hle;injection e9 with e91 _ e92;subst e91 e92;clear hE hx;go_wp2_with fail;go_loopw [3,5] (fun v i wr=>aWi L w W v i wr) (fun _ i _=>L.length - (intOf i).toNat)
 case atStart=>exact ⟨0,[],af _,rfl,aP _ _ _ _,fy,aq _⟩
 case round =>
  obtain ⟨k,xs,hk,rfl,hown,hr,hx⟩:=hrel;obtain ⟨A3,c3,e3,-,-,-⟩:=Sl.of_own hown;subst e3;have HOWN:=a4b hown;have HR:=a4b hr;have HXR:=a4b hx;have hsz:=hx.size;clear hown hr hx;by_cases hlt:k<L
  ·obtain ⟨b1,o1,A1,d1,rfl,hb1,hv1,hgc⟩:=(HE.out.ext HXR.out).get hlt
   obtain ⟨y,hy⟩:∃ y,y=L.getD k default:=⟨_,rfl⟩;have HY:=a4b hy;rw [<- hy] at hv1 hgc;have HV1:=a4b hv1;have n0:=hgc 0 _ rfl;have n1:=hgc 1 _ rfl;have n2:=hgc 2 _ rfl;have n3:=hgc 3 _ rfl;have n4:=hgc 4 _ rfl;have n5:=hgc 5 _ rfl;rw [Nat.add_zero] at n0;have hma:¬ some b1=(Value.slice A3 k c3).ownBlock:=fun e=>by have:=HOWN.out.block_ge e.symm;omega
   have hk0:(0:Int)<=(k:Int):=I;have hk1:(k:Int)<(L:Int):=I;clear hv1 hgc hy hb1;go_upto_region 6 with fail
   go_region_held3 (fun w'=>qc w' b1 (o1+k*6) (.slice A1 y.path d1)∧qc w' b1 (o1+k*6+1) y.kind∧qc w' b1 (o1+k*6+2) y.at_∧qc w' b1 (o1+k*6+3) y.code∧qc w' b1 (o1+k*6+4) y.fresh∧qc w' b1 (o1+k*6+5) y.hits)
    (first
     | (go_split_ands
        with_reducible exact ⟨pB hf5 hma ‹_›,pB hf5 hma ‹_›,pB hf5 hma ‹_›,pB hf5 hma ‹_›,pB hf5 hma ‹_›,pB hf5 hma ‹_›⟩)
     | go_keep)
    (first
     | (refine dK _ (by rfl) (.tmp 14) (.tmp 36) 33 (by rfl) W 60 i0 _ 6 64 Tryz.underlying33 HI.out hz0 hz1 hz2 rfl (by omega) (.slice A3 k c3) k xs (by rfl) ((HOWN.out.ext_ (aq _).drew').alloc _) (fun _=>True) (qp wr) 1 1 (aV y A1 d1) (by rfl) (Sl.new wr.drew _ _ _ _ rfl) (by simp [aV,Value.oneCell']) (by omega) (by omega) (by simp;omega) ?_;intro v5 w5 ho5 hf5 hb5))
   have HO5:=a4b ho5;have HF5:=a4b hf5;clear ho5 hf5 n0 n1 n2 n3 n4 n5;go_wp2_with fail;go_roundw
   case rel =>
    have hff:Fr (fun k'=>some k'=(Value.slice A3 k c3).ownBlock) wr w5:=((ar ((aq wr).drew'.alloc' _)).trans HF5.out);have hkp:aB (fun b=>w.heap.size<=b∧b<W.heap.size) wr w5:=fun b hb hq=>hff.block b hb (fun e=>by have:=HOWN.out.block_ge e.symm;omega)
    refine ⟨k+1,_,I,by go_num,HO5.out,?_,?_⟩
    ·rw [aR default hlt,<- HY.out]
     exact (HR.out.move eN hkp (fun _ _ h=>h)).append (RL.one ⟨A1,d1,rfl,HV1.out.carry hkp (fun _ _ h=>h)⟩)
    ·exact Fr.new_ext ((ar HXR.out).trans hff) (fun b hb=>HOWN.out.block_ge hb.symm)
   case measure=>simp [intOf];omega
  ·obtain rfl:k=L:=by omega
   have HF:=a4b (show Ens wr (fun b=>w.heap.size<=b) (.slice A3 L c3) L from Lst.of_own HOWN.out (by
    have h:=HR.out;rw [List.take_length] at h;exact h.move eN (fun _ _ _=>rfl) (fun _ _ h=>h.1)) I (fun b hb=>by have:=HOWN.out.block_ge hb;omega))
   go_wp2_with fail;go_ret;exact ⟨A3,c3,rfl,HF.out,HX.out.trans' HXR.out⟩
def gC (t:List GN)(n1 n2:Value)(b1 b2:Int)(L1 L2:List GE)(g1 g2:CA)(B:Nat)(w:World):Prop :=
 ∃ P1 v1 P2 v2,lC t n1 b1 L1 g1 P1 v1 B w∧lC t n2 b2 L2 g2 P2 v2 B w∧aGe g1 P1 v1 g2 P2 v2
section
variable {t:List GN}{n1 n2:Value}{b1 b2:Int}{L1 L2:List GE}{g1 g2:CA}{B:Nat}{w w0 w1:World}
theorem gC.swap (h:gC t n1 n2 b1 b2 L1 L2 g1 g2 B w):gC t n2 n1 b2 b1 L2 L1 g2 g1 B w:=by
 obtain ⟨P1,v1,P2,v2,h1,h2,h3⟩:=h;exact ⟨P2,v2,P1,v1,h2,h1,h3.swap⟩
theorem gC.ext (h:gC t n1 n2 b1 b2 L1 L2 g1 g2 B w)(hx:Ext w w1):gC t n1 n2 b1 b2 L1 L2 g1 g2 B w1:=by
 obtain ⟨P1,v1,P2,v2,h1,h2,h3⟩:=h;exact ⟨P1,v1,P2,v2,h1.ext hx,h2.ext hx,h3⟩
theorem gC.two {P1 P2 v1 v2}{C:Nat}(h1:lC t n1 b1 L1 g1 P1 v1 B w0)(hC:w0<=C)(hx:Ext w0 w)(h2:lC t n2 b2 L2 g2 P2 v2 C w):gC t n1 n2 b1 b2 L1 L2 g1 g2 B w:=by
 have hBC:B<=C:=by have:=h1.lo g1.c (.inr (.inl rfl));omega
 refine ⟨P1,v1,P2,v2,h1.ext hx,⟨h2.cor,fun k hk=>⟨ae hBC (h2.lo k hk).1,(h2.lo k hk).2⟩⟩,?_,?_⟩
 ·intro k hk hm
  have:=h1.lo k hk;have:=h2.lo k (.inr hm);omega
 ·intro k hk hm
  have:=h1.lo k (.inr hm);have:=h2.lo k hk;omega
def aQ9 (t:List GN)(n1 n2:Value)(b1 b2:Int)(L1 L2:List GE)(x:GE)(g1 g2:CA)(B:Nat)(w:World)(e:Ending)(w':World):Prop :=
 e=.returned (.tuple #[(tO (aL t) b1 L1 x),.int .i64 (yU (aL t) x)])∧gC t n1 n2 b1 b2 (lB (aL t) b1 L1 x) L2 g1 g2 B w'∧Fr (fun k=>B<=k) w w'
theorem gC.add (h:gC t n1 n2 b1 b2 L1 L2 g1 g2 B w0)(hx:Ext w0 w){Pp vp path}(hp:Ints w Pp vp path)(hPp:∀ i,Pp i->i<B∨w0<=i)(k a c)(f:Bool)
  (hk:I64 k)(ha:I64 a)(hc:I64 c)(hfew:L1.length+1<=100000)(hpl:path.length<=1000000000) :
  qg 12 #[qp g1.c,vp,zY k a c,f] w (aQ9 t n1 n2 b1 b2 L1 L2 (mkE path k a c f) g1 g2 B w):=by
 obtain ⟨P1,v1,P2,v2,h1,h2,h3⟩:=h;refine (aCy t n1 b1 L1 g1 P1 Pp v1 vp path k a c f w (h1.ext hx).cor hp (fun i hi hm=>?_) hk ha hc hfew hpl).mono ?_
 ·have:=h1.lo i (.inr hm)
  have:=hPp i hi;omega
 ·rintro e w' ⟨rfl,hA⟩
  obtain ⟨Q1,u1,m1,m2,m3,m4⟩:=(h1.ext hx).other (h2.ext hx) h3 hA;exact ⟨rfl,⟨Q1,u1,P2,v2,m1,m2,m3⟩,m4⟩
theorem gC.bytes (h:gC t n1 n2 b1 b2 L1 L2 g1 g2 B w):qg 15 #[qp g1.c] w (dI (.int .i64 (bC L1)) w):=by
 obtain ⟨P1,v1,P2,v2,h1,h2,h3⟩:=h;exact tH t n1 b1 L1 g1 P1 v1 w h1.cor
theorem gC.has (h:gC t n1 n2 b1 b2 L1 L2 g1 g2 B w){Pp vp path}(hp:Ints w Pp vp path):qg 19 #[qp g1.c,vp] w (dI (gE path L1) w):=by
 obtain ⟨P1,v1,P2,v2,h1,h2,h3⟩:=h;exact aHz t n1 b1 L1 g1 P1 Pp v1 vp path w h1.cor hp
theorem gC.entriesOf (h:gC t n1 n2 b1 b2 L1 L2 g1 g2 B w):qg 54 #[qp g1.c] w (aBb L1 w):=by
 obtain ⟨P1,v1,P2,v2,h1,h2,h3⟩:=h;exact mZ t n1 b1 L1 g1 P1 v1 w h1.cor
end
