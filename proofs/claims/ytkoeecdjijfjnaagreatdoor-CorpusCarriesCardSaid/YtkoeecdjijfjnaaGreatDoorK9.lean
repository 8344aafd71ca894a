/- Contracts and laws. Conditions: none. -/
import Derived.BigRegion
import Derived.Test.YtkoeecdjijfjnaaGreatDoorK4
set_option linter.all false
set_option maxRecDepth 100000
set_option maxHeartbeats 8000000
namespace Go.Proofs.YtkoeecdjijfjnaaGreatDoor
open Go.RowKit
def Ka (x:GE)(w:World)(e:Ending)(w':World):Prop:=∃ A c,e=.returned (wF x A c)∧EAt w' (fun b=>w.heap.size<=b) x A c∧Ext w w'
theorem tM (x:GE)(A:Option Addr)(c:Nat)(P:Nat->Prop)(w:World)(hx:EAt w P x A c)(hpl:x.path.length<=1000000000):qg 53 #[wF x A c] w (Ka x w):=by
 have HX:=aYf hx;obtain ⟨hc1,hc2⟩:=hx.path.le;obtain ⟨A',c',ep,-,-,h3,h4⟩:=hx.path;injection ep with ep1 _ ep2;subst ep1 ep2;have H3:=aYf h3;have H4:=aYf h4;clear hx h3 h4;obtain ⟨i0,hi,hz0,hz1,hz2⟩:=info_parts Tryz.info3;have HI:=aYf hi;clear hi;go_enter Tryz.func53,Tryz.ntmps53;go_upto_region 1 with fail;have HE:=aYf (show Ext w ((w.alloc (qk #[.slice A x.path c,x.kind,x.at_,x.code,x.fresh,x.hits] 80)).alloc (qk #[qn,qz,qz,qz,false,qz] 80)) from ((aq w).alloc' _).alloc' _);have HB:=aYf ((aw w 80 #[.slice A x.path c,x.kind,x.at_,x.code,x.fresh,x.hits]).alloc (qk #[qn,qz,qz,qz,false,qz] 80));have HR:=aYf (az (w.alloc (qk #[.slice A x.path c,x.kind,x.at_,x.code,x.fresh,x.hits] 80)) 80 #[qn,qz,qz,qz,false,qz] (g:=w.heap.size+1) U);generalize (w.alloc (qk #[.slice A x.path c,x.kind,x.at_,x.code,x.fresh,x.hits] 80)).alloc (qk #[qn,qz,qz,qz,false,qz] 80)=W at *
 obtain ⟨b0,b1,b2,b3,b4,b5⟩:=cF HB.out;have lb:=HB.out.lt;have lr:=HR.out.lt;go_wp2_with (at_builtin;go_must (refine aM _ rfl (.tmp 3) (.tmp 5) 22 dd W 3 i0 _ 1 8 Tryz.underlying22 HI.out hz0 hz1 hz2 rfl I (.slice (qp W) 0 0) 0 [] rfl (World.ownsRow_lit W #[] 0 (ab _) du rfl) P A x.path c (x.path.map (Value.int .i64)) rfl (H4.out.keep (aB.of_ext (HE.out.alloc' _)) (fun _ h=>h)) (fun u hu=>by obtain ⟨z,_,rfl⟩:=List.mem_map.1 hu;rfl) I I U ?_);intro v1 w1 ho1 hb1;simp only [Nat.zero_add,List.nil_append] at ho1;obtain ⟨A1,c1,e0,e1,e2,e3⟩:=Sl.of_own ho1;subst e0;have hx1:Ext W w1:=Below.trans ((aq W).alloc' _) hb1;have B1:=HB.out.ext hx1;have R1:=HR.out.ext hx1;obtain ⟨d0,d1,d2,d3,d4,d5⟩:=cF B1;obtain ⟨r0,r1,r2,r3,r4,r5⟩:=cF R1;have fb:=B1.frozen 0;have f0:=R1.frozen 0;have f1:=R1.frozen 1;have f2:=R1.frozen 2;have f3:=R1.frozen 3;have f4:=R1.frozen 4;have f5:=R1.frozen 5;clear b0 b1 b2 b3 b4 b5);unfold maxLen at e2;have HP1:=aYf (show bL w1 (fun b=>W.heap.size<=b) (.slice A1 x.path c1) x.path from ⟨A1,c1,rfl,e1,⟨I,e2⟩,H3.out,e3 _ (fun b hb=>(ho1.lt b hb).1)⟩);have HR1:=aYf R1;have HX1:=aYf hx1;have hfin:=aF (bC x A1 c1) (w:=w1.setCell (qp w) (.slice A1 x.path c1)) (cs:=[qn,qz,qz,qz,false,qz]) (g:=w.heap.size+1) (t:=80) 0 (HR1.out.far (p:=qp w) U _) je;have z0:=hfin.cell' (u:=.slice A1 x.path c1) 0 rfl;have z1:=hfin.cell' (u:=↑x.kind) 1 rfl;have z2:=hfin.cell' (u:=↑x.at_) 2 rfl;have z3:=hfin.cell' (u:=↑x.code) 3 rfl;have z4:=hfin.cell' (u:=x.fresh) 4 rfl;have z5:=hfin.cell' (u:=↑x.hits) 5 rfl
 have hE:Ext w ((w1.setCell (qp w) (.slice A1 x.path c1)).setCells (w+1) 0 (bC x A1 c1)) :=
  (((ar (M:=fun _=>False) (HE.out.trans' HX1.out)).setCell (p:=qp w) (.inr (ab _)) _).setCells _ 0 (.inr I)).ext
 have hk0:aB (fun b=>W.heap.size<=b) w1 w1:=fun _ _ _=>rfl
 have hP:bL ((w1.setCell (qp w) (.slice A1 x.path c1)).setCells (w+1) 0 (bC x A1 c1)) (fun b=>w.heap.size<=b) (.slice A1 x.path c1) x.path :=
  HP1.out.carry (aB.setCells ed _ 0 (hk0.set (p:=qp w) _ ed)) (fun b _ h=>by omega)
 have hgen:((((((w1.setCell (qp w) (.slice A1 x.path c1)).setCell (qp (w+1)) (.slice A1 x.path c1)).setCell (qt (w+1) 1) (↑x.kind)).setCell (qt (w+1) 2) (↑x.at_)).setCell (qt (w+1) 3) (↑x.code)).setCell (qt (w+1) 4) x.fresh).setCell (qt (w+1) 5) (↑x.hits)=(w1.setCell (qp w) (.slice A1 x.path c1)).setCells (w+1) 0 (bC x A1 c1):=rfl;rw [hgen];generalize (w1.setCell (qp w) (.slice A1 x.path c1)).setCells (w+1) 0 (bC x A1 c1)=WF at *;exact bodyPost_ret (v:=wF x A1 c1) (by simp [results,Tryz.results53,go_sem,z0,z1,z2,z3,z4,z5]) rfl ⟨A1,c1,rfl,⟨hP,HX.out.kind,HX.out.at_,HX.out.code,HX.out.hits⟩,hE⟩
section
variable {α:Type}{R:α->List Value->Prop}
theorem RL.ins (hR:∀ x cs,R x cs->cs.length=6){l:List α}{xs us:List Value}(h:RL R l xs){y:α}(hy:R y us)(i:Nat):RL R (l.take i ++ y :: l.drop i) (xs.take (i*6) ++ us ++ xs.drop (i*6)):=by
 rw [ah];refine (h.take hR i).append ?_;exact ⟨us,_,rfl,hy,h.drop hR i⟩
theorem RL.set (hR:∀ x cs,R x cs->cs.length=6){l:List α}{xs us:List Value}(h:RL R l xs){y:α}(hy:R y us){i:Nat}(hi:i<l):RL R (l.set i y) (xs.take (i*6) ++ us ++ xs.drop ((i+1)*6)):=by
 rw [List.set_eq_take_append_cons_drop,if_pos hi,ah];refine (h.take hR i).append ?_;exact ⟨us,_,rfl,hy,h.drop hR (i+1)⟩
end
theorem uO (xs:List Value)(f k:Nat)(us:List Value)(v:Value)(hk:k<us)(hf:f<=xs)(zs:List Value):(xs.take f ++ us ++ zs).set (f+k) v=xs.take f ++ us.set k v ++ zs:=by
 rw [ah,List.set_append_right _ _ fd,ak,show f+k - min f xs.length=k by omega,List.set_append_left _ _ hk,ah]
section
variable {t:List GN}{vn:Value}{b:Int}{L:List GE}{g:CA}{P Q:Nat->Prop}{ve:Value}{w w':World}
theorem dM.one (h:dM t vn b L g P ve w):∃ xs,w.ownsRow 0 80 6 ve L xs∧RL (REn w P) L xs∧∀ u ∈ xs,u.oneCell'=true:=by
 obtain ⟨xs,h1,h2⟩:=h.own;refine ⟨xs,h1,h2,?_⟩;clear h1
 have:∀ (l:List GE) (xs:List Value),RL (REn w P) l xs->∀ u ∈ xs,u.oneCell'=true:=by
  intro l
  induction l with
  | nil=>intro xs h u hu;simp only [RL] at h;subst h;simp at hu
  | cons e es ih =>
   intro xs h u hu;obtain ⟨c1,c2,rfl,⟨A,c,rfl,-⟩,h2⟩:=h;rcases ap.1 hu with hu | hu
   ·simp only [bC,ao,List.not_mem_nil,or_false] at hu
    rcases hu with rfl | rfl | rfl | rfl | rfl | rfl <;> rfl
   ·exact ih _ h2 u hu
 exact this L xs h2
theorem dM.touch (x:GE)(hh:hU x.path L=true)(h:dM t vn b L g P ve w)(hx:I64 (aY (L.getD (bO x.path L) default) x).hits) :
  ∃ G cap,ve=.slice (qp G) L cap∧L<=cap∧cap<=9223372036854775807∧bO x.path L<L∧∃ A c,EAt w P (L.getD (bO x.path L) default) A c ∧
   (∀ j u,(bC (L.getD (bO x.path L) default) A c)[j]?=some u->qc w G (bO x.path L*6+j) u)∧(∀ j,w.frozen? (qt G j)=false) ∧
   dM t vn b (dN L x) g P ve ((w.setCell (qt G (bO x.path L*6+5)) (.int .i64 (aY (L.getD (bO x.path L) default) x).hits)).setCell (qt G (bO x.path L*6+4)) (.bool (aY (L.getD (bO x.path L) default) x).fresh)):=by
 obtain ⟨xs,h1,h2⟩:=h.own;have hJ:dN L x=L.set (bO x.path L) (aY (L.getD (bO x.path L) default) x):=by unfold dN;rw [if_pos hh]
 have hf:bO x.path L<L:=by
  unfold hU at hh;simp only [Bool.and_eq_true,decide_eq_true_eq] at hh;exact hh.1
 have hinc:=h.inc.join x;rw [hJ] at hinc ⊢;generalize bO x.path L=f at *;rcases h1 with ⟨hxl,⟨rfl,h4⟩ | ⟨G,cap,cur,rfl,-,hB,h4,h5,h6,h7⟩⟩
 ·omega
 have hBb:Blk w G 80 cur:=hB;obtain ⟨A,c,hec,hE⟩:=RL.get (fF.len w P) h2 default hf
 have hcell:∀ j u,(bC (L.getD f default) A c)[j]?=some u->qc w G (f*6+j) u:=fun j u hu=>by
  rw [<- hec,List.getElem?_take,List.getElem?_drop,<- h7,List.getElem?_take] at hu;split at hu
  ·split at hu
   ·exact hBb.cell' _ fy
   ·cases hu
  ·cases hu
 refine ⟨G,cap,rfl,h4,ij,hf,A,c,hE,hcell,hBb.frozen,?_⟩;have hmem:L.getD f default ∈ L:=aC hf;generalize L.getD f default=y at *;have hB2:=(hBb.set_ (f*6+5) (.int .i64 (aY y x).hits)).set_ (f*6+4) (.bool (aY y x).fresh)
 have hfr:∀ k,k ≠ G->((w.setCell (qt G (f*6+5)) (.int .i64 (aY y x).hits)).setCell (qt G (f*6+4)) (.bool (aY y x).fresh)).heap[k]?=w.heap[k]?:=fun k hk=>by
  rw [Below.heap_setCell _ _ _ _ (fun e=>hk e),Below.heap_setCell _ _ _ _ (fun e=>hk e)]
 generalize (w.setCell (qt G (f*6+5)) (.int .i64 (aY y x).hits)).setCell (qt G (f*6+4)) (.bool (aY y x).fresh)=W at *;have hkP:aB P w W:=fun k _ hp=>hfr k (fun e=>(h.excl k hp).2 gj)
 have hgc:g.c ≠ G:=fun e=>h.ne gj
 have hxs:xs=xs.take (f*6) ++ bC y A c ++ xs.drop ((f+1)*6):=by
  rw [<- hec,show (f+1)*6=f*6+6 by omega,<- List.drop_drop,ah,List.take_append_drop,List.take_append_drop]
 have hset:(xs.set (f*6+5) (.int .i64 (aY y x).hits)).set (f*6+4) (.bool (aY y x).fresh)=xs.take (f*6) ++ bC (aY y x) A c ++ xs.drop ((f+1)*6):=by
  rw [show xs.set (f*6+5) (.int .i64 (aY y x).hits)=(xs.take (f*6) ++ bC y A c ++ xs.drop ((f+1)*6)).set (f*6+5) (.int .i64 (aY y x).hits) by rw [<- hxs]];rw [uO _ _ _ _ _ je I,uO _ _ _ _ _ je I];rfl
 refine ⟨(hfr _ hgc).trans h.box,h.walk.carry hkP (fun _ _ h=>h),⟨_,⟨?_,.inr ⟨G,cap,_,by rw [List.length_set],af _,hB2,by rw [List.length_set];exact h4,h5,j4,rfl⟩⟩,?_⟩,h.excl,h.ne,hinc,h.bI,by rw [List.length_set];exact h.few,?_,h.good⟩
 ·simp only [ak,Array.length_toList,Array.size_setIfInBounds,List.length_set]
  have:=Nat.mul_le_mul_right 6 h4;omega
 ·have e1:((cur.setIfInBounds (f*6+5) (.int .i64 (aY y x).hits)).setIfInBounds (f*6+4) (.bool (aY y x).fresh)).toList.take ((L.set f (aY y x))*6)=xs.take (f*6) ++ bC (aY y x) A c ++ xs.drop ((f+1)*6):=by
   rw [List.length_set,Array.toList_setIfInBounds,Array.toList_setIfInBounds,List.take_set,List.take_set,h7,hset]
  rw [e1];exact RL.set (fF.len W P) (h2.move fF hkP (fun _ _ h=>h)) (show REn W P (aY y x) (bC (aY y x) A c) from ⟨A,c,rfl,⟨(hE.carry hkP (fun _ _ h=>h)).path,hE.kind,hE.at_,hE.code,hx⟩⟩) hf
 ·intro e he
  rcases List.mem_or_eq_of_mem_set he with he | rfl
  ·exact h.short e he
  ·exact h.short y hmem
end
theorem ng {w:World}{ve:Value}{n:Nat}{xs:List Value}(h:w.ownsRow 0 80 6 ve n xs){k:Nat}(hk:ve.ownBlock=some k):k<w:=by
 rcases h.2 with ⟨rfl,_⟩ | ⟨G,cap,cur,rfl,_,hG,_⟩
 ·simp [Value.ownBlock] at hk
 ·simp [Value.ownBlock] at hk
  subst hk;exact Blk.lt (t:=80) hG
def iN (t:List GN)(vn:Value)(b:Int)(L':List GE)(g:CA)(P:Nat->Prop)(ve:Value)(w w':World):Prop :=
 ∃ P' v',dM t vn b L' g P' v' w'∧(∀ k,P' k->P k∨w<=k)∧Fr (g.M ve) w w'∧(v'.ownBlock=ve.ownBlock∨∃ k,v'.ownBlock=some k∧w<=k)
section
variable {t:List GN}{vn:Value}{b:Int}{L:List GE}{g:CA}{P:Nat->Prop}{ve:Value}{w W1 w2:World}
theorem dM.inserted (x:GE)(h:dM t vn b L g P ve w)(hno:hU x.path L=false)(hE:Ext w W1)(A:Option Addr)(c:Nat)(hx:EAt W1 (fun k=>w.heap.size<=k) x A c)(xs:List Value)(h0:w.ownsRow 0 80 6 ve L xs)(hr:RL (REn w P) L xs)(v':Value)
  (ho:w2.ownsRow 0 80 6 v' (L+1) (xs.take (bO x.path L*6) ++ bC x A c ++ xs.drop (bO x.path L*6)))(hF:Fr (fun k=>some k=ve.ownBlock) W1 w2)(hb:v'.ownBlock=ve.ownBlock∨v'.ownBlock=some W1.heap.size)
  (hfew:L.length+1<=100000)(hpl:x.path.length<=1000000000):iN t vn b (dN L x) g P ve w (w2.setCell (qt g.c 3) v'):=by
 have hJ:dN L x=L.take (bO x.path L) ++ x :: L.drop (bO x.path L):=by unfold dN;rw [if_neg (by rw [hno];simp)]
 have hinc:=h.inc.join x;have hle:=mP x.path L;rw [hJ] at hinc ⊢;generalize bO x.path L=f at *;have hgc:=h.box.lt;have hown:∀ k,ve.ownBlock=some k->k<w:=fun k hk=>ng h0 hk
 have hbox:Blk w2 g.c 79 #[vn,qp g.w,↑b,ve]:=(hF.block _ (ac hgc hE.size) h.ne).trans ((hE.block _ hgc).trans h.box);have hB3:=hbox.set_ 3 v';have hfr:∀ k,k ≠ g.c->(w2.setCell (qt g.c 3) v').heap[k]?=w2.heap[k]?:=fun k hk=>Below.heap_setCell _ _ _ _ (fun e=>hk e)
 have hFF:Fr (g.M ve) W1 (w2.setCell (qt g.c 3) v'):=by
  have h1:Fr (g.M ve) W1 w2:=⟨hF.os,hF.tape,hF.output,hF.size,fun k hk hm=>hF.block k hk (fun e=>hm (.inr e))⟩;exact h1.setCell (p:=qt g.c 3) (.inl (.inl rfl)) v'
 have hne':some g.c ≠ v'.ownBlock:=by
  rcases hb with hb | hb
  ·rw [hb];exact h.ne
  ·rw [hb];intro e;injection e with e;have:=hE.size;omega
 have ho':(w2.setCell (qt g.c 3) v').ownsRow 0 80 6 v' (L+1) (xs.take (f*6) ++ bC x A c ++ xs.drop (f*6)):=by
  refine ⟨ho.1,?_⟩;rcases ho.2 with h3 | ⟨G,cap,cur,h4,h5,h6,h7⟩
  ·exact .inl h3
  ·exact .inr ⟨G,cap,cur,h4,h5,(hfr G (fun e=>hne' (by rw [h4,<- e];rfl))).trans h6,h7⟩
 generalize w2.setCell (qt g.c 3) v'=W3 at *
 have hkP:aB P w W3:=fun k hk hp=>(hFF.block k (ac hk hE.size) (fun hm=>by
  rcases hm with hm | hm
  ·exact (h.excl k hp).1 hm
  ·exact (h.excl k hp).2 hm)).trans (hE.block k hk)
 have hkN:aB (fun k=>w.heap.size<=k) W1 W3:=fun k hk hp=>hFF.block k hk (fun hm=>by
  rcases hm with hm | hm
  ·omega
  ·have:=hown k hm.symm;omega)
 have hlen:(L.take f ++ x :: L.drop f).length=L.length+1:=by simp only [aa,ak,ai,am];omega
 refine ⟨fun k=>(k<w.heap.size∧P k)∨(w<=k∧k<W1),v',⟨hB3,h.walk.carry hkP (fun k hk hp=>.inl ⟨hk,hp⟩),⟨_,by rw [hlen];exact ho',?_⟩,?_,hne',hinc,h.bI,I,?_,h.good⟩,?_,(ar hE).trans hFF,?_⟩
 ·exact RL.ins (fF.len W3 _) (hr.move fF hkP (fun k hk hp=>.inl ⟨hk,hp⟩)) ⟨A,c,rfl,hx.carry hkN (fun k hk hp=>.inr ⟨hp,hk⟩)⟩ f
 ·intro k hk
  rcases hk with ⟨h1,h2⟩ | ⟨h1,h2⟩
  ·refine ⟨(h.excl k h2).1,?_⟩
   rcases hb with hb | hb
   ·rw [hb];exact (h.excl k h2).2
   ·rw [hb];intro e;injection e with e;have:=hE.size;omega
  ·refine ⟨I,?_⟩
   rcases hb with hb | hb
   ·rw [hb];intro e;have:=hown k e.symm;omega
   ·rw [hb];intro e;injection e with e;omega
 ·intro e he
  rcases ap.1 he with he | he
  ·exact h.short e (List.mem_of_mem_take he)
  ·rcases ao.1 he with rfl | he
   ·exact hpl
   ·exact h.short e (List.mem_of_mem_drop he)
 ·intro k hk
  rcases hk with ⟨_,h2⟩ | ⟨h1,_⟩
  ·exact .inl h2
  ·exact .inr h1
 ·rcases hb with hb | hb
  ·exact .inl hb
  ·exact .inr ⟨_,hb,hE.size⟩
end
def Bb (t:List GN)(vn:Value)(b:Int)(L:List GE)(x:GE)(g:CA)(P:Nat->Prop)(ve:Value)(w:World)(e:Ending)(w':World):Prop :=
 e=.returned (!hU x.path L)∧iN t vn b (dN L x) g P ve w w'
theorem G1 {w w':World}{ve:Value}{n:Nat}{xs:List Value}(h:w.ownsRow 0 80 6 ve n xs)(hx:Ext w w'):w'.ownsRow 0 80 6 ve n xs:=by
 refine ⟨h.1,?_⟩;rcases h.2 with h3 | ⟨G,cap,cur,h4,h5,h6,h7⟩
 ·exact .inl h3
 ·exact .inr ⟨G,cap,cur,h4,h5,(hx.block G (Blk.lt (t:=80) h6)).trans h6,h7⟩
theorem Ac {w:World}{ve:Value}{n:Nat}{xs:List Value}(h:w.ownsRow 0 80 6 ve n xs):∃ A m c,ve=.slice A m c:=by
 rcases h.2 with ⟨h3,_⟩ | ⟨G,cap,cur,h4,_⟩
 ·exact ⟨_,_,_,h3⟩
 ·exact ⟨_,_,_,h4⟩
theorem Ml {t:List GN}{vn:Value}{b:Int}{L:List GE}{g:CA}{P:Nat->Prop}{ve:Value}{w w2 w3:World}(x:GE)(h:dM t vn b L g P ve w)(hno:hU x.path L=false)(hX2:Ext w w2)(hX3:Ext w w3)(A3:Option Addr)(d3:Nat)(hE3:EAt w3 (fun k=>w2.heap.size<=k) x A3 d3)
  (hfew:L.length+1<=100000)(hpl:x.path.length<=1000000000) :
  Calls Tryz.prog 52 #[ve,.int .i64 (bO x.path L),.slice (qp w3) 1 1] (w3.alloc (qk #[.slice A3 x.path d3,x.kind,x.at_,x.code,x.fresh,x.hits] 80))
   (fun e w4=>∃ A4 n4 c4,e=.returned (.slice A4 n4 c4)∧qc w4 g.c 3 ve∧w4.frozen? (qt g.c 3)=false∧iN t vn b (dN L x) g P ve w (w4.setCell (qt g.c 3) (.slice A4 n4 c4))):=by
 obtain ⟨xs,ho,hr,h1⟩:=h.one;have hx1:Ext w (w3.alloc (qk #[.slice A3 x.path d3,x.kind,x.at_,x.code,x.fresh,x.hits] 80)):=hX3.alloc' _;have hV:=aw w3 80 (bC x A3 d3).toArray
 refine (DZ ve L (bO x.path L) w3 1 80 xs (bC x A3 d3) _ (G1 ho hx1) hV (fun e=>by have:=ng ho e.symm;have:=hX3.size;omega) rfl (mP _ _) I h1 (by
  intro u hu;simp only [bC,ao,List.not_mem_nil,or_false] at hu;rcases hu with rfl | rfl | rfl | rfl | rfl | rfl <;> rfl)).mono ?_
 rintro e w4 ⟨v4,rfl,ho4,hF4,hb4⟩;obtain ⟨A4,n4,c4,rfl⟩:=Ac ho4;have hlt:=h.box.lt;have hbox:Blk w4 g.c 79 #[vn,qp g.w,↑b,ve]:=(hF4.block _ (ac hlt hx1.size) h.ne).trans ((hx1.block _ hlt).trans h.box);refine ⟨A4,n4,c4,rfl,hbox.cell' 3 rfl,hbox.frozen 3,?_⟩;exact dM.inserted x h hno hx1 A3 d3 ((hE3.ext ((aq w3).alloc' _)).carry (fun _ _ _=>rfl) (fun k _ hk=>ae hX2.size hk)) xs ho hr _ ho4 hF4 hb4 hfew hpl
theorem yc (t:List GN)(vn:Value)(b:Int)(L:List GE)(g:CA)(P Q:Nat->Prop)(ve:Value)(x:GE)(A:Option Addr)(c:Nat)(w:World)(h:dM t vn b L g P ve w)(hx:EAt w Q x A c)(hfew:L.length+1<=100000)(hpl:x.path.length<=1000000000) :
  qg 28 #[qp g.c,wF x A c] w (Bb t vn b L x g P ve w):=by
 have HC:=aYf (fun (W:World) (hE:Ext w W)=>yH L x A c _ Q ve W (h.ext hE).ens (hx.ext hE) h.inc I);have H:=aYf h;have HX:=aYf hx;clear h hx;generalize hfe:bO x.path L=f at *;generalize hhe:hU x.path L=hb at *;have HFE:=aYf hfe;have HHE:=aYf hhe;clear hfe hhe;go_enter Tryz.func28,Tryz.ntmps28;go_upto_region 1 with fail;have HE:=aYf ((aq w).alloc' (qk #[.slice A x.path c,x.kind,x.at_,x.code,x.fresh,x.hits] 80));have HB:=aYf (aw w 80 #[.slice A x.path c,x.kind,x.at_,x.code,x.fresh,x.hits]);generalize w.alloc (qk #[.slice A x.path c,x.kind,x.at_,x.code,x.fresh,x.hits] 80)=W at *;have c3:=(H.out.ext HE.out).cell3;obtain ⟨x0,x1,x2,x3,x4,x5⟩:=cF HB.out
 go_region_held3 (fun w'=>qc w' g.c 3 ve∧qc w' w 0 (.slice A x.path c)∧qc w' w 1 x.kind∧qc w' w 2 x.at_∧qc w' w 3 x.code∧qc w' w 4 x.fresh∧qc w' w 5 x.hits)
  (first
   | go_keep
   | (go_split_ands
      exact ⟨aA hx2 ‹_›,aA hx2 ‹_›,aA hx2 ‹_›,aA hx2 ‹_›,aA hx2 ‹_›,aA hx2 ‹_›,aA hx2 ‹_›⟩))
  (first
   | (go_at_call 50;refine (HC.out _ HE.out.drew').mono ?_;rintro e w2 ⟨rfl,hx2⟩))
 have HX2:=aYf (HE.out.drew'.trans' hx2);have HB2:=aYf (HB.out.drew.ext hx2);clear hx2 c3 x0 x1 x2 x3 x4 x5;cases hb with
 | true =>
  obtain ⟨G,cap,rfl,hc1,hc2,hf,A1,d1,hE1,hcell,hfz,hCor⟩:=dM.touch x HHE.out (H.out.ext HX2.out) (oT _);rw [HFE.out] at hf hE1 hcell hCor;have c3:=(H.out.ext HX2.out).cell3;obtain ⟨x0,x1,x2,x3,x4,x5⟩:=cF HB2.out;generalize L.getD f default=y at *;have g4:=hcell 4 _ rfl;have g5:=hcell 5 _ rfl;have z4:=hfz (f*6+4);have z5:=hfz (f*6+5);have HT:=aYf hCor;have hGw:G<w:=by have:=H.out.own;obtain ⟨xs,h1,-⟩:=this;exact ng h1 rfl
  have hGc:g.c ≠ G:=fun e=>H.out.ne gj
  have hn2:¬ G=w:=I;have hn3:¬ G=g.c:=fun e=>hGc e.symm
  clear hcell hfz hCor hE1;go_wp2_with fail;go_region;have HT3:=aYf (show dM t vn b (dN L x) g P (.slice (qp G) L cap) (((w2.setCell (qt G (f*6+5)) (.int .i64 (wrap64 (y.hits+x.hits)))).drew).setCell (qt G (f*6+4)) (y.fresh || x.fresh)) from HT.out.ext (aq _).drew');have HF3:=aYf (show Fr (g.M (.slice (qp G) L cap)) w ((w2.setCell (qt G (f*6+5)) (.int .i64 (wrap64 (y.hits+x.hits)))).drew) from ((ar HX2.out).setCell (p:=qt G (f*6+5)) (.inl (.inr rfl)) _).drew);have d3:((w2.setCell (qt G (f*6+5)) (.int .i64 (wrap64 (y.hits+x.hits)))).drew).cell? (qt g.c 3)=some (.slice (qp G) L cap):=(World.cell?_setCell_far w2 (qt G (f*6+5)) (qt g.c 3) _ hn3).trans c3;have e4:((w2.setCell (qt G (f*6+5)) (.int .i64 (wrap64 (y.hits+x.hits)))).drew).cell? (qt w 4)=some ↑x.fresh:=(World.cell?_setCell_far w2 (qt G (f*6+5)) (qt w 4) _ hn2).trans x4;have f4:((w2.setCell (qt G (f*6+5)) (.int .i64 (wrap64 (y.hits+x.hits)))).drew).cell? (qt G (f*6+4))=some ↑y.fresh:=(World.cell?_setCell_other w2 (qt G (f*6+5)) (qt G (f*6+4)) _ (fun e=>by have:=congrArg Addr.off e;simp at this)).trans g4;have q4:((w2.setCell (qt G (f*6+5)) (.int .i64 (wrap64 (y.hits+x.hits)))).drew).frozen? (qt G (f*6+4))=false:=by simpa using z4
  generalize (w2.setCell (qt G (f*6+5)) (.int .i64 (wrap64 (y.hits+x.hits)))).drew=W3 at *;clear c3 x0 x1 x2 x3 x4 x5 g4 g5 z4 z5 HT;generalize y.fresh=yf at *;cases yf with
  | false =>
   simp only [Bool.false_or] at HT3;go_wp2_with fail;go_region;have HR:=aYf (show iN t vn b (dN L x) g P (.slice (qp G) L cap) w (W3.setCell (qt G (f*6+4)) x.fresh).drew from ⟨P,_,HT3.out.ext (aq _).drew',fun k hk=>.inl hk,(HF3.out.setCell (p:=qt G (f*6+4)) (.inl (.inr rfl)) _).drew,.inl rfl⟩);generalize (W3.setCell (qt G (f*6+4)) x.fresh).drew=W4 at *;go_wp2_with fail;go_ret;exact ⟨by rw [HHE.out];rfl,HR.out⟩
  | true =>
   simp only [Bool.true_or] at HT3;go_wp2_with fail;go_region;have HR:=aYf (show iN t vn b (dN L x) g P (.slice (qp G) L cap) w (W3.setCell (qt G (f*6+4)) true).drew from ⟨P,_,HT3.out.ext (aq _).drew',fun k hk=>.inl hk,(HF3.out.setCell (p:=qt G (f*6+4)) (.inl (.inr rfl)) _).drew,.inl rfl⟩);generalize (W3.setCell (qt G (f*6+4)) true).drew=W4 at *;go_wp2_with fail;go_ret;exact ⟨by rw [HHE.out];rfl,HR.out⟩
 | false =>
  have HIN:=aYf (fun (w3:World) A3 d3 hX3 hE3=>Ml (w2:=w2.drew) (w3:=w3) x H.out HHE.out HX2.out.drew' hX3 A3 d3 hE3 hfew hpl);rw [HFE.out] at HIN;have HCP:=aYf (fun (W:World) (hE:Ext w W)=>tM x A c Q W (HX.out.ext hE) I);have c3:=(H.out.ext HX2.out).cell3;obtain ⟨x0,x1,x2,x3,x4,x5⟩:=cF HB2.out
  obtain ⟨Av,n0,cv,rfl⟩:∃ Av n0 cv,ve=.slice Av n0 cv:=by
   obtain ⟨xs,ho,-,-⟩:=H.out.one;exact Ac ho
  go_wp2_with fail
  go_region_with (first
   | (go_at_call 53;refine (HCP.out _ HX2.out.drew').mono ?_;rintro e w3 ⟨A3,d3,rfl,hE3,hx3⟩;have k3:=aA hx3 c3;have lk:=bB k3;have HE3:=aYf hE3;have HX3:=aYf (HX2.out.drew'.trans' hx3);clear hE3 hx3)
   | (go_at_call 52;refine (HIN.out w3 A3 d3 HX3.out HE3.out).mono ?_;rintro e w4 ⟨A4,n4,c4,rfl,k4,q4,hA4⟩;have HA4:=aYf hA4;clear hA4))
  all_goals
   generalize w4.setCell (qt g.c 3) (.slice A4 n4 c4)=W5 at *;go_wp2_with fail;go_ret;exact ⟨by rw [HHE.out];rfl,HA4.out⟩
theorem J7 {t:List GN}{vn:Value}{b:Int}{L:List GE}{g:CA}{P:Nat->Prop}{ve:Value}{w:World}(i:Nat)(hi:i<L)(h:dM t vn b L g P ve w) :
  Calls Tryz.prog 54 #[ve,↑i,.int .i64 ((i:Int)+1)] w
   (fun e w4=>∃ A4 n4 c4,e=.returned (.slice A4 n4 c4)∧qc w4 g.c 3 ve∧w4.frozen? (qt g.c 3)=false∧(Value.slice A4 n4 c4).ownBlock=ve.ownBlock ∧
    Fr (g.M ve) w (w4.setCell (qt g.c 3) (.slice A4 n4 c4))∧dM t vn b (L.eraseIdx i) g P (.slice A4 n4 c4) (w4.setCell (qt g.c 3) (.slice A4 n4 c4))):=by
 obtain ⟨xs,ho,hr,h1⟩:=h.one;have hfew:=h.few;rcases ho with ⟨hxl,⟨h2,h3⟩ | ⟨G,cap,cur,rfl,-,h3,h4,h5,h6,h7⟩⟩
 ·omega
 have hB:Blk w G 80 cur.toList.toArray:=by unfold Blk;simpa using h3
 have hcl:cur.toList=cap*6:=j4;have h63:cap<=9223372036854775807:=ij;refine (Lv G L cap i cur.toList w hB hcl h4 hi hfew h63 (by rw [h7];exact h1)).mono ?_;rintro e w4 ⟨rfl,cur',hB',hl',ht',hF⟩;have hlt:=h.box.lt;have hgG:g.c ≠ G:=fun e=>h.ne gj
 have hbox:Blk w4 g.c 79 #[vn,qp g.w,↑b,.slice (qp G) L cap]:=(hF.block _ hlt hgG).trans h.box;have hB3:=hbox.set_ 3 (.slice (qp G) (L.length - 1) cap);have hfr:∀ k,k ≠ g.c->(w4.setCell (qt g.c 3) (.slice (qp G) (L.length - 1) cap)).heap[k]?=w4.heap[k]?:=fun k hk=>Below.heap_setCell _ _ _ _ (fun e=>hk e)
 have hFF:Fr (g.M (.slice (qp G) L cap)) w (w4.setCell (qt g.c 3) (.slice (qp G) (L.length - 1) cap)):=by
  have h1:Fr (g.M (.slice (qp G) L cap)) w w4:=⟨hF.os,hF.tape,hF.output,hF.size,fun k hk hm=>hF.block k hk (fun e=>hm (.inr gj))⟩;exact h1.setCell (p:=qt g.c 3) (.inl (.inl rfl)) _
 refine ⟨_,_,_,rfl,hbox.cell' 3 rfl,hbox.frozen 3,rfl,hFF,?_⟩;have hB4:Blk (w4.setCell (qt g.c 3) (.slice (qp G) (L.length - 1) cap)) G 80 cur'.toArray:=(hfr G (fun e=>hgG e.symm)).trans hB';generalize w4.setCell (qt g.c 3) (.slice (qp G) (L.length - 1) cap)=W at *
 have hkP:aB P w W:=fun k hk hp=>hFF.block k hk (fun hm=>by
  rcases hm with hm | hm
  ·exact (h.excl k hp).1 hm
  ·exact (h.excl k hp).2 hm)
 have hle:(L.eraseIdx i).length=L - 1:=by rw [List.length_eraseIdx,if_pos hi]
 have hsub:(L.eraseIdx i).Sublist L:=List.eraseIdx_sublist L i
 have ht2:cur'.take ((L.length - 1)*6)=xs.take (i*6) ++ xs.drop ((i+1)*6):=by
  rw [ht',h7,<- h7,List.take_take,Nat.min_eq_left I]
 refine ⟨hB3,h.walk.carry hkP (fun _ _ h=>h),⟨_,⟨?_,.inr ⟨G,cap,cur'.toArray,by rw [hle],af _,hB4,I,h5,by simpa using hl',rfl⟩⟩,?_⟩,h.excl,h.ne,?_,h.bI,I,fun e he=>h.short e (hsub.subset he),h.good⟩
 ·simp only [ak,hle]
  omega
 ·rw [hle]
  show RL (REn W P) (L.eraseIdx i) (cur'.take ((L.length - 1)*6));rw [ht2,List.eraseIdx_eq_take_drop_succ];have hr':=hr.move fF hkP (fun _ _ h=>h);exact (hr'.take (fF.len W P) i).append (hr'.drop (fF.len W P) (i+1))
 ·exact List.Pairwise.sublist (hsub.map GE.path) h.inc
def qJ (w:World)(a:Addr):Nat:=match w.cell? a with
 | some (.slice _ n _)=>n
 | _=>0
theorem tf {b:Int}{L:List GE}(h:¬ (b<dK L∨256<L.length)):∀ n,l7 b n L=L
 | 0=>rfl
 | n+1=>by simp only [l7];rw [if_neg h]
theorem zB {b:Int}{L:List GE}(h:b<dK L∨256<L.length)(h0:0<L.length):qZ b L=qZ b (L.eraseIdx (oN L)):=by
 unfold qZ;have h1:(L.eraseIdx (oN L)).length=L - 1:=by rw [List.length_eraseIdx,if_pos (uk h0)]
 rw [h1];generalize hn:L.length - 1=n at *;rw [show L=n+1 by omega];simp only [l7];rw [if_pos h]
def xp (t:List GN)(vn:Value)(b:Int)(L:List GE)(g:CA)(P:Nat->Prop)(ve:Value)(w wr:World):Prop :=
 ∃ L' A' c',dM t vn b L' g P (.slice A' L' c') wr∧(Value.slice A' L' c').ownBlock=ve.ownBlock∧Fr (g.M ve) w wr∧qZ b L'=qZ b L
def JG (L:List GE)(W:World)(k i:Value)(wr:World):Prop:=∃ j m:Nat,i=↑j∧k=↑m∧j<=L∧m<L∧jD j m (L.drop j)=oN L∧Ext W wr
def up (t:List GN)(vn:Value)(b:Int)(L:List GE)(g:CA)(P:Nat->Prop)(ve:Value)(w:World)(e:Ending)(w':World):Prop :=
 e=.returned (.tuple #[])∧∃ v',dM t vn b (qZ b L) g P v' w'∧v'.ownBlock=ve.ownBlock∧Fr (g.M ve) w w'
theorem CP (t:List GN)(vn:Value)(b:Int)(L:List GE)(g:CA)(P:Nat->Prop)(ve:Value)(w:World)(h:dM t vn b L g P ve w) :
  qg 29 #[qp g.c] w (up t vn b L g P ve w):=by
 have HS:Hid (xp t vn b L g P ve w w):=aYf (by
  obtain ⟨xs,ho,-⟩:=h.own;rcases ho.2 with ⟨e,e2⟩ | ⟨G,cap,cur,e,-⟩
  ·refine ⟨L,none,0,?_,gj,au _ w,rfl⟩
   rw [e2,<- e];exact h
  ·refine ⟨L,_,cap,by rw [<- e];exact h,by rw [<- e],au _ w,rfl⟩)
 clear h;go_enter Tryz.func29,Tryz.ntmps29;go_wp2_with fail;go_loopw [] (fun wr=>xp t vn b L g P ve w wr) (fun wr=>qJ wr (qt g.c 3))
 case atStart=>exact HS.out
 case round =>
  obtain ⟨L1,A1,d1,hC,hob,hF,hcut⟩:=hrel;have HC:=aYf hC;have HOB:=aYf hob;have HF:=aYf hF;have HCU:=aYf hcut;have HBY:=aYf (fun (W:World) (hE:Ext wr W)=>rP t vn b L1 g P _ W (hC.ext hE));have c3:=hC.cell3;have c2:qc wr g.c 2 b:=hC.box.cell' 2 rfl;have hfew:=hC.few;have hbI:=hC.bI;clear hC hob hF hcut;have HD:=aYf (show (b<dK L1∨256<L1.length) ↔ (decide (b<dK L1) || decide (256<L1.length))=true by simp);generalize hs:dK L1=s at *;have HSS:=aYf hs;clear hs;have HL0:=aYf (show qJ wr (qt g.c 3)=L1 by unfold qJ;rw [c3]);have k2:=kg.cell c2;have k3:=kg.cell c3;go_upto_region 0 with fail;go_cut [19] from 5 to 51 (fun s1 wx=>s1=.bool (decide (b<s) || decide (256<L1.length))∧Ext wr wx)
  case first =>
   by_cases hb:b<s
   ·have hd:decide (b<s)=true:=aYi hb
    refine lS av av ?_;repeat (go_big_quiet_step (exact zf (HBY.out _ (kg.h _))))
    refine wpQuiet_nil ?_;intro _ hw';obtain ⟨⟨wq,hq⟩,rfl⟩:=hw';go_wp2_with fail;go_meet;exact ⟨by simp [hd],hq⟩
   ·have hd:decide (b<s)=false:=aYj hb
    refine lS av av ?_;repeat (go_big_quiet_step (exact zf (HBY.out _ (kg.h _))))
    refine wpQuiet_nil ?_;intro _ hw';obtain ⟨⟨wq,hq⟩,rfl⟩:=hw';go_wp2_with fail;go_meet;exact ⟨by rw [hd,Bool.false_or];exact congrArg Value.bool (decide_eq_decide.2 I),hq⟩
  case rest =>
   obtain ⟨rfl,hxc⟩:=hcut;have HC2:=aYf (HC.out.ext hxc);have HF2:=aYf (HF.out.trans (ar hxc));have c3c:=aA hxc c3;clear hxc c2 c3 k2 k3 HC HF HBY;by_cases hcc:b<s∨256<L1.length
   ·have HCC:=aYf hcc
    have hd:(decide (b<s) || decide (256<L1.length))=true:=HD.out.1 hcc;rw [hd]
    have hpos:0<L1.length:=by
     rcases hcc with h | h
     ·cases L1 with
      | nil=>have:=HSS.out;simp [dK] at this;omega
      | cons _ _=>simp
     ·omega
    clear hd hcc;have hle:=(Lst.form HC2.out.ens);obtain ⟨A9,c9,e9,h91,h92⟩:=hle;injection e9 with e91 _ e92;subst e91 e92;have HEN:=aYf HC2.out.ens;go_wp2_with fail;go_loopw [2,31] (fun k i wx=>JG L1 wc k i wx) (fun _ i _=>L1.length - (intOf i).toNat)
    case atStart=>exact ⟨0,L1.length - 1,rfl,by go_num,af _,I,rfl,aq _⟩
    case round =>
     obtain ⟨j,m,rfl,rfl,hj,hm,hcf,hx⟩:=hrel;have HCF:=aYf hcf;have HX:=aYf hx;clear hcf hx;by_cases hlt:j<L1
     ·obtain ⟨b1,o1,A2,d2,rfl,-,hv1,hgc⟩:=(HEN.out.ext HX.out).get hlt
      have HD1:=aYf (show jD (j+1) (if (L1.getD j default).fresh then m else j) (L1.drop (j+1))=oN L1 by rw [<- HCF.out,aJ default hlt];rfl);generalize L1.getD j default=y at *;have g0:=hgc 0 _ rfl;have g1:=hgc 1 _ rfl;have g2:=hgc 2 _ rfl;have g3:=hgc 3 _ rfl;have g4:=hgc 4 _ rfl;have g5:=hgc 5 _ rfl;rw [Nat.add_zero] at g0;clear hgc hv1;generalize y.fresh=yf at *;cases yf with
      | false =>
       go_wp2_with fail;go_roundw
       case rel=>exact ⟨j+1,j,by go_num,rfl,I,I,by simpa using HD1.out,HX.out.alloc' _⟩
       case measure=>simp [intOf];omega
      | true =>
       go_wp2_with fail;go_roundw
       case rel=>exact ⟨j+1,m,by go_num,rfl,I,I,by simpa using HD1.out,HX.out.alloc' _⟩
       case measure=>simp [intOf];omega
     ·have hjl:j=L1:=by omega
      have HCA:=aYf (show m=oN L1 by rw [<- HCF.out,drop_nil I];rfl);have HDC:=aYf (J7 m hm (HC2.out.ext HX.out));have c3r:=aA HX.out c3c;clear hjl;go_wp2_with fail;refine HDC.out.mono ?_;rintro e w4 ⟨A4,n4,c4,rfl,q3,q4,hob4,hF4,hC4⟩
      have hn4:n4=(L1.eraseIdx m):=by
       obtain ⟨A8,c8,e8,-,-⟩:=Lst.form hC4.ens;injection e8
      subst hn4;have HC4:=aYf hC4;have HF4:=aYf hF4;have HO4:=aYf hob4;clear hob4 hF4 hC4 c3r;go_wp2_with fail;go_roundw
      case rel =>
       refine ⟨L1.eraseIdx m,A4,c4,HC4.out,HO4.out.trans HOB.out,(HF2.out.trans (ar HX.out)).trans (HF4.out.mono (fun k hk=>hk.elim .inl (fun h=>.inr (by rw [h,HOB.out])))),?_⟩;rw [HCA.out,<- zB (by rw [HSS.out];exact HCC.out) hpos];exact HCU.out
      case measure =>
       rw [HL0.out];unfold qJ;rw [HC4.out.cell3,List.length_eraseIdx,if_pos hm];show L1.length - 1<L1;omega
   ·have hd:(decide (b<s) || decide (256<L1.length))=false:=by
     cases hh:(decide (b<s) || decide (256<L1.length))
     ·rfl
     ·exact absurd (HD.out.2 hh) hcc
    rw [hd]
    have HR:=aYf (show up t vn b L g P ve w (.returned (.tuple #[])) wc from ⟨rfl,_,by
     rw [<- HCU.out];unfold qZ;rw [tf (by rw [HSS.out];exact hcc)];exact HC2.out,HOB.out,HF2.out⟩)
    clear hd hcc;go_wp2_with fail;exact bodyPost_ret (v:=.tuple #[]) (by simp [results,Tryz.results29,go_sem]) rfl HR.out
