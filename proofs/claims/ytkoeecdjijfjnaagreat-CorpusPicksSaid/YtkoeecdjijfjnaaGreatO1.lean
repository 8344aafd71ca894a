/- Contracts of functions. Conditions: none. -/
import Derived.BigRegion
import Derived.Deep.RegionHeld3
import Derived.Test.YtkoeecdjijfjnaaGreatK4
set_option maxRecDepth 100000
set_option maxHeartbeats 8000000
namespace Go.Proofs.YtkoeecdjijfjnaaGreat
open Go.RowKit
def aTx (x:GE)(w:World)(e:Ending)(w':World):Prop:=∃ A c,e=.returned (aEt x A c)∧EAt w' (fun b=>w.heap.size<=b) x A c∧Ext w w'
theorem rV (x:GE)(A:Option Addr)(c:Nat)(P:Nat->Prop)(w:World)(hx:EAt w P x A c)(hpl:x.path.length<=1000000):Calls Tryz.prog 103 #[aEt x A c] w (aTx x w):=by
 have HX:=aYl hx;obtain ⟨hc1,hc2⟩:=hx.path.le;obtain ⟨A',c',ep,-,-,h3,h4⟩:=hx.path;injection ep with ep1 _ ep2;subst ep1 ep2;have H3:=aYl h3;have H4:=aYl h4;clear hx h3 h4;obtain ⟨i0,hi,hz0,hz1,hz2⟩:=info_parts Tryz.info3;have HI:=aYl hi;clear hi;go_enter Tryz.func103,Tryz.ntmps103;go_upto_region 1 with fail;have HE:=aYl (show Ext w ((w.alloc (.cells #[.slice A x.path.length c,↑x.kind,↑x.at_,↑x.code,.bool x.fresh,↑x.hits] 102)).alloc (.cells #[.slice none 0 0,.int .i64 0,.int .i64 0,.int .i64 0,.bool false,.int .i64 0] 102)) from ((Ext.refl w).alloc' _).alloc' _);have HB:=aYl ((Blk.new w 102 #[.slice A x.path.length c,↑x.kind,↑x.at_,↑x.code,.bool x.fresh,↑x.hits]).alloc (.cells #[.slice none 0 0,.int .i64 0,.int .i64 0,.int .i64 0,.bool false,.int .i64 0] 102));have HR:=aYl (Blk.new' (w.alloc (.cells #[.slice A x.path.length c,↑x.kind,↑x.at_,↑x.code,.bool x.fresh,↑x.hits] 102)) 102 #[.slice none 0 0,.int .i64 0,.int .i64 0,.int .i64 0,.bool false,.int .i64 0] (g:=w.heap.size+1) Y);generalize (w.alloc (.cells #[.slice A x.path.length c,↑x.kind,↑x.at_,↑x.code,.bool x.fresh,↑x.hits] 102)).alloc (.cells #[.slice none 0 0,.int .i64 0,.int .i64 0,.int .i64 0,.bool false,.int .i64 0] 102)=W at *
 obtain ⟨b0,b1,b2,b3,b4,b5⟩:=bY HB.out;have lb:=HB.out.lt;have lr:=HR.out.lt;go_wp2_with (at_builtin;go_must (refine aI _ rfl (.tmp 3) (.tmp 5) 22 al W.heap.size 3 i0 _ 1 8 Tryz.underlying22 HI.out hz0 hz1 hz2 rfl U (.slice (some ⟨W.heap.size,0,none⟩) 0 0) 0 [] rfl (World.ownsRow_lit W #[] 0 (Nat.le_refl _) cj rfl) P A x.path.length c (x.path.map (Value.int .i64)) rfl (H4.out.keep (aB.of_ext (HE.out.alloc' _)) (fun _ h=>h)) (fun u hu=>by obtain ⟨z,_,rfl⟩:=List.mem_map.1 hu;rfl) U U Y ?_);intro v1 w1 ho1 hb1;simp only [Nat.zero_add,List.nil_append] at ho1;obtain ⟨A1,c1,e0,e1,e2,e3⟩:=Sl.of_own ho1;subst e0;have hx1:Ext W w1:=Below.trans ((Ext.refl W).alloc' _) hb1;have B1:=HB.out.ext hx1;have R1:=HR.out.ext hx1;obtain ⟨d0,d1,d2,d3,d4,d5⟩:=bY B1;obtain ⟨r0,r1,r2,r3,r4,r5⟩:=bY R1;have fb:=B1.frozen 0;have f0:=R1.frozen 0;have f1:=R1.frozen 1;have f2:=R1.frozen 2;have f3:=R1.frozen 3;have f4:=R1.frozen 4;have f5:=R1.frozen 5;clear b0 b1 b2 b3 b4 b5);unfold maxLen at e2;have HP1:=aYl (show aU w1 (fun b=>W.heap.size<=b) (.slice A1 x.path.length c1) x.path from ⟨A1,c1,rfl,e1,⟨U,e2⟩,H3.out,e3 _ (fun b hb=>(ho1.lt b hb).1)⟩)
 have HR1:=aYl R1;have HX1:=aYl hx1;have hfin:=aJ (cD x A1 c1) (w:=w1.setCell ⟨w.heap.size,0,none⟩ (.slice A1 x.path.length c1)) (cs:=[.slice none 0 0,.int .i64 0,.int .i64 0,.int .i64 0,.bool false,.int .i64 0]) (g:=w.heap.size+1) (t:=102) 0 (HR1.out.far (p:=⟨w.heap.size,0,none⟩) Y _) ip;have z0:=hfin.cell' (u:=.slice A1 x.path.length c1) 0 rfl;have z1:=hfin.cell' (u:=↑x.kind) 1 rfl;have z2:=hfin.cell' (u:=↑x.at_) 2 rfl;have z3:=hfin.cell' (u:=↑x.code) 3 rfl;have z4:=hfin.cell' (u:=.bool x.fresh) 4 rfl;have z5:=hfin.cell' (u:=↑x.hits) 5 rfl
 have hE:Ext w ((w1.setCell ⟨w.heap.size,0,none⟩ (.slice A1 x.path.length c1)).setCells (w.heap.size+1) 0 (cD x A1 c1)) :=
  (((Fr.of_ext (M:=fun _=>False) (HE.out.trans' HX1.out)).setCell (p:=⟨w.heap.size,0,none⟩) (.inr (Nat.le_refl _)) _).setCells _ 0 (.inr U)).ext
 have hk0:aB (fun b=>W.heap.size<=b) w1 w1:=fun _ _ _=>rfl
 have hP:aU ((w1.setCell ⟨w.heap.size,0,none⟩ (.slice A1 x.path.length c1)).setCells (w.heap.size+1) 0 (cD x A1 c1)) (fun b=>w.heap.size<=b) (.slice A1 x.path.length c1) x.path :=
  HP1.out.carry (aB.setCells ap _ 0 (hk0.set (p:=⟨w.heap.size,0,none⟩) _ ap)) (fun b _ h=>by omega)
 have hgen:((((((w1.setCell ⟨w.heap.size,0,none⟩ (.slice A1 x.path.length c1)).setCell ⟨w.heap.size+1,0,none⟩ (.slice A1 x.path.length c1)).setCell ⟨w.heap.size+1,1,none⟩ (↑x.kind)).setCell ⟨w.heap.size+1,2,none⟩ (↑x.at_)).setCell ⟨w.heap.size+1,3,none⟩ (↑x.code)).setCell ⟨w.heap.size+1,4,none⟩ (.bool x.fresh)).setCell ⟨w.heap.size+1,5,none⟩ (↑x.hits)=(w1.setCell ⟨w.heap.size,0,none⟩ (.slice A1 x.path.length c1)).setCells (w.heap.size+1) 0 (cD x A1 c1):=rfl;rw [hgen];generalize (w1.setCell ⟨w.heap.size,0,none⟩ (.slice A1 x.path.length c1)).setCells (w.heap.size+1) 0 (cD x A1 c1)=WF at *;exact bodyPost_ret (v:=aEt x A1 c1) (by simp [results,Tryz.results103,go_sem,z0,z1,z2,z3,z4,z5]) rfl ⟨A1,c1,rfl,⟨hP,HX.out.kind,HX.out.at_,HX.out.code,HX.out.hits⟩,hE⟩
section
variable {α:Type}{R:α->List Value->Prop}
theorem RL.ins (hR:∀ x cs,R x cs->cs.length=6){l:List α}{xs us:List Value}(h:RL R l xs){y:α}(hy:R y us)(i:Nat):RL R (l.take i ++ y :: l.drop i) (xs.take (i*6) ++ us ++ xs.drop (i*6)):=by
 rw [List.append_assoc];refine (h.take hR i).append ?_;exact ⟨us,_,rfl,hy,h.drop hR i⟩
theorem RL.set (hR:∀ x cs,R x cs->cs.length=6){l:List α}{xs us:List Value}(h:RL R l xs){y:α}(hy:R y us){i:Nat}(hi:i<l.length):RL R (l.set i y) (xs.take (i*6) ++ us ++ xs.drop ((i+1)*6)):=by
 rw [List.set_eq_take_append_cons_drop,if_pos hi,List.append_assoc];refine (h.take hR i).append ?_;exact ⟨us,_,rfl,hy,h.drop hR (i+1)⟩
end
theorem sV (xs:List Value)(f k:Nat)(us:List Value)(v:Value)(hk:k<us.length)(hf:f<=xs.length)(zs:List Value):(xs.take f ++ us ++ zs).set (f+k) v=xs.take f ++ us.set k v ++ zs:=by
 rw [List.append_assoc,List.set_append_right _ _ aq,List.length_take,show f+k - min f xs.length=k by omega,List.set_append_left _ _ hk,List.append_assoc]
section
variable {t:List GN}{vn:Value}{b:Int}{L:List GE}{g:CA}{P Q:Nat->Prop}{ve:Value}{w w':World}
theorem dO.one (h:dO t vn b L g P ve w):∃ xs,w.ownsRow 0 102 6 ve L.length xs∧RL (REn w P) L xs∧∀ u ∈ xs,u.oneCell'=true:=by
 obtain ⟨xs,h1,h2⟩:=h.own;refine ⟨xs,h1,h2,?_⟩;clear h1
 have:∀ (l:List GE) (xs:List Value),RL (REn w P) l xs->∀ u ∈ xs,u.oneCell'=true:=by
  intro l
  induction l with
  | nil=>intro xs h u hu;simp only [RL] at h;subst h;simp at hu
  | cons e es ih =>
   intro xs h u hu;obtain ⟨c1,c2,rfl,⟨A,c,rfl,-⟩,h2⟩:=h;rcases List.mem_append.1 hu with hu | hu
   ·simp only [cD,List.mem_cons,List.not_mem_nil,or_false] at hu
    rcases hu with rfl | rfl | rfl | rfl | rfl | rfl <;> rfl
   ·exact ih _ h2 u hu
 exact this L xs h2
theorem dO.touch (x:GE)(hh:fT x.path L=true)(h:dO t vn b L g P ve w)(hx:I64 (aV (L.getD (bB x.path L) default) x).hits) :
  ∃ G cap,ve=.slice (some ⟨G,0,none⟩) L.length cap∧L.length<=cap∧cap<=9223372036854775807∧bB x.path L<L.length∧∃ A c,EAt w P (L.getD (bB x.path L) default) A c ∧
   (∀ j u,(cD (L.getD (bB x.path L) default) A c)[j]?=some u->w.cell? ⟨G,bB x.path L*6+j,none⟩=some u)∧(∀ j,w.frozen? ⟨G,j,none⟩=false) ∧
   dO t vn b (dN L x) g P ve ((w.setCell ⟨G,bB x.path L*6+5,none⟩ (.int .i64 (aV (L.getD (bB x.path L) default) x).hits)).setCell ⟨G,bB x.path L*6+4,none⟩ (.bool (aV (L.getD (bB x.path L) default) x).fresh)):=by
 obtain ⟨xs,h1,h2⟩:=h.own;have hJ:dN L x=L.set (bB x.path L) (aV (L.getD (bB x.path L) default) x):=by unfold dN;rw [if_pos hh]
 have hf:bB x.path L<L.length:=by
  unfold fT at hh;simp only [Bool.and_eq_true,decide_eq_true_eq] at hh;exact hh.1
 have hinc:=h.inc.join x;rw [hJ] at hinc ⊢;generalize bB x.path L=f at *;rcases h1 with ⟨hxl,⟨rfl,h4⟩ | ⟨G,cap,cur,rfl,-,hB,h4,h5,h6,h7⟩⟩
 ·omega
 have hBb:Blk w G 102 cur:=hB;obtain ⟨A,c,hec,hE⟩:=RL.get (fP.len w P) h2 default hf
 have hcell:∀ j u,(cD (L.getD f default) A c)[j]?=some u->w.cell? ⟨G,f*6+j,none⟩=some u:=fun j u hu=>by
  rw [<- hec,List.getElem?_take,List.getElem?_drop,<- h7,List.getElem?_take] at hu
  split at hu
  ·split at hu
   ·exact hBb.cell' _ fq
   ·cases hu
  ·cases hu
 refine ⟨G,cap,rfl,h4,ff,hf,A,c,hE,hcell,hBb.frozen,?_⟩;have hmem:L.getD f default ∈ L:=aF hf;generalize L.getD f default=y at *;have hB2:=(hBb.set_ (f*6+5) (.int .i64 (aV y x).hits)).set_ (f*6+4) (.bool (aV y x).fresh)
 have hfr:∀ k,k ≠ G->((w.setCell ⟨G,f*6+5,none⟩ (.int .i64 (aV y x).hits)).setCell ⟨G,f*6+4,none⟩ (.bool (aV y x).fresh)).heap[k]?=w.heap[k]?:=fun k hk=>by
  rw [Below.heap_setCell _ _ _ _ (fun e=>hk e),Below.heap_setCell _ _ _ _ (fun e=>hk e)]
 generalize (w.setCell ⟨G,f*6+5,none⟩ (.int .i64 (aV y x).hits)).setCell ⟨G,f*6+4,none⟩ (.bool (aV y x).fresh)=W at *;have hkP:aB P w W:=fun k _ hp=>hfr k (fun e=>(h.excl k hp).2 et)
 have hgc:g.c ≠ G:=fun e=>h.ne et
 have hxs:xs=xs.take (f*6) ++ cD y A c ++ xs.drop ((f+1)*6):=by
  rw [<- hec,show (f+1)*6=f*6+6 by omega,<- List.drop_drop,List.append_assoc,List.take_append_drop,List.take_append_drop]
 have hset:(xs.set (f*6+5) (.int .i64 (aV y x).hits)).set (f*6+4) (.bool (aV y x).fresh)=xs.take (f*6) ++ cD (aV y x) A c ++ xs.drop ((f+1)*6):=by
  rw [show xs.set (f*6+5) (.int .i64 (aV y x).hits)=(xs.take (f*6) ++ cD y A c ++ xs.drop ((f+1)*6)).set (f*6+5) (.int .i64 (aV y x).hits) by rw [<- hxs]];rw [sV _ _ _ _ _ ip U,sV _ _ _ _ _ ip U]
  rfl
 refine ⟨(hfr _ hgc).trans h.box,h.walk.carry hkP (fun _ _ h=>h),⟨_,⟨?_,.inr ⟨G,cap,_,by rw [List.length_set],Nat.zero_le _,hB2,by rw [List.length_set];exact h4,h5,gh,rfl⟩⟩,?_⟩,h.excl,h.ne,hinc,h.bI,by rw [List.length_set];exact h.few,?_,h.good⟩
 ·simp only [List.length_take,Array.length_toList,Array.size_setIfInBounds,List.length_set]
  have:=Nat.mul_le_mul_right 6 h4;omega
 ·have e1:((cur.setIfInBounds (f*6+5) (.int .i64 (aV y x).hits)).setIfInBounds (f*6+4) (.bool (aV y x).fresh)).toList.take ((L.set f (aV y x)).length*6)=xs.take (f*6) ++ cD (aV y x) A c ++ xs.drop ((f+1)*6):=by
   rw [List.length_set,Array.toList_setIfInBounds,Array.toList_setIfInBounds,List.take_set,List.take_set,h7,hset]
  rw [e1];exact RL.set (fP.len W P) (h2.move fP hkP (fun _ _ h=>h)) (show REn W P (aV y x) (cD (aV y x) A c) from ⟨A,c,rfl,⟨(hE.carry hkP (fun _ _ h=>h)).path,hE.kind,hE.at_,hE.code,hx⟩⟩) hf
 ·intro e he
  rcases List.mem_or_eq_of_mem_set he with he | rfl
  ·exact h.short e he
  ·exact h.short y hmem
end
theorem aG0 {w:World}{ve:Value}{n:Nat}{xs:List Value}(h:w.ownsRow 0 102 6 ve n xs){k:Nat}(hk:ve.ownBlock=some k):k<w.heap.size:=by
 rcases h.2 with ⟨rfl,_⟩ | ⟨G,cap,cur,rfl,_,hG,_⟩
 ·simp [Value.ownBlock] at hk
 ·simp [Value.ownBlock] at hk
  subst hk;exact Blk.lt (t:=102) hG
def iL (t:List GN)(vn:Value)(b:Int)(L':List GE)(g:CA)(P:Nat->Prop)(ve:Value)(w w':World):Prop :=
 ∃ P' v',dO t vn b L' g P' v' w'∧(∀ k,P' k->P k∨w.heap.size<=k)∧Fr (g.M ve) w w'∧(v'.ownBlock=ve.ownBlock∨∃ k,v'.ownBlock=some k∧w.heap.size<=k)
section
variable {t:List GN}{vn:Value}{b:Int}{L:List GE}{g:CA}{P:Nat->Prop}{ve:Value}{w W1 w2:World}
theorem dO.inserted (x:GE)(h:dO t vn b L g P ve w)(hno:fT x.path L=false)(hE:Ext w W1)(A:Option Addr)(c:Nat)(hx:EAt W1 (fun k=>w.heap.size<=k) x A c)(xs:List Value)(h0:w.ownsRow 0 102 6 ve L.length xs)(hr:RL (REn w P) L xs)(v':Value)
  (ho:w2.ownsRow 0 102 6 v' (L.length+1) (xs.take (bB x.path L*6) ++ cD x A c ++ xs.drop (bB x.path L*6)))(hF:Fr (fun k=>some k=ve.ownBlock) W1 w2)(hb:v'.ownBlock=ve.ownBlock∨v'.ownBlock=some W1.heap.size)
  (hfew:L.length+1<=100000)(hpl:x.path.length<=1000):iL t vn b (dN L x) g P ve w (w2.setCell ⟨g.c,3,none⟩ v'):=by
 have hJ:dN L x=L.take (bB x.path L) ++ x :: L.drop (bB x.path L):=by unfold dN;rw [if_neg (by rw [hno];simp)]
 have hinc:=h.inc.join x;have hle:=mA x.path L;rw [hJ] at hinc ⊢;generalize bB x.path L=f at *;have hgc:=h.box.lt;have hown:∀ k,ve.ownBlock=some k->k<w.heap.size:=fun k hk=>aG0 h0 hk
 have hbox:Blk w2 g.c 95 #[vn,.pointer (some ⟨g.w,0,none⟩),↑b,ve]:=(hF.block _ (Nat.lt_of_lt_of_le hgc hE.size) h.ne).trans ((hE.block _ hgc).trans h.box);have hB3:=hbox.set_ 3 v';have hfr:∀ k,k ≠ g.c->(w2.setCell ⟨g.c,3,none⟩ v').heap[k]?=w2.heap[k]?:=fun k hk=>Below.heap_setCell _ _ _ _ (fun e=>hk e)
 have hFF:Fr (g.M ve) W1 (w2.setCell ⟨g.c,3,none⟩ v'):=by
  have h1:Fr (g.M ve) W1 w2:=⟨hF.os,hF.tape,hF.output,hF.size,fun k hk hm=>hF.block k hk (fun e=>hm (.inr e))⟩;exact h1.setCell (p:=⟨g.c,3,none⟩) (.inl (.inl rfl)) v'
 have hne':some g.c ≠ v'.ownBlock:=by
  rcases hb with hb | hb
  ·rw [hb];exact h.ne
  ·rw [hb];intro e;injection e with e;have:=hE.size;omega
 have ho':(w2.setCell ⟨g.c,3,none⟩ v').ownsRow 0 102 6 v' (L.length+1) (xs.take (f*6) ++ cD x A c ++ xs.drop (f*6)):=by
  refine ⟨ho.1,?_⟩;rcases ho.2 with h3 | ⟨G,cap,cur,h4,h5,h6,h7⟩
  ·exact .inl h3
  ·exact .inr ⟨G,cap,cur,h4,h5,(hfr G (fun e=>hne' (by rw [h4,<- e];rfl))).trans h6,h7⟩
 generalize w2.setCell ⟨g.c,3,none⟩ v'=W3 at *
 have hkP:aB P w W3:=fun k hk hp=>(hFF.block k (Nat.lt_of_lt_of_le hk hE.size) (fun hm=>by
  rcases hm with hm | hm
  ·exact (h.excl k hp).1 hm
  ·exact (h.excl k hp).2 hm)).trans (hE.block k hk)
 have hkN:aB (fun k=>w.heap.size<=k) W1 W3:=fun k hk hp=>hFF.block k hk (fun hm=>by
  rcases hm with hm | hm
  ·omega
  ·have:=hown k hm.symm;omega)
 have hlen:(L.take f ++ x :: L.drop f).length=L.length+1:=by simp only [List.length_append,List.length_take,List.length_cons,List.length_drop];omega
 refine ⟨fun k=>(k<w.heap.size∧P k)∨(w.heap.size<=k∧k<W1.heap.size),v',⟨hB3,h.walk.carry hkP (fun k hk hp=>.inl ⟨hk,hp⟩),⟨_,by rw [hlen];exact ho',?_⟩,?_,hne',hinc,h.bI,U,?_,h.good⟩,?_,(Fr.of_ext hE).trans hFF,?_⟩
 ·exact RL.ins (fP.len W3 _) (hr.move fP hkP (fun k hk hp=>.inl ⟨hk,hp⟩)) ⟨A,c,rfl,hx.carry hkN (fun k hk hp=>.inr ⟨hp,hk⟩)⟩ f
 ·intro k hk
  rcases hk with ⟨h1,h2⟩ | ⟨h1,h2⟩
  ·refine ⟨(h.excl k h2).1,?_⟩
   rcases hb with hb | hb
   ·rw [hb];exact (h.excl k h2).2
   ·rw [hb];intro e;injection e with e;have:=hE.size;omega
  ·refine ⟨U,?_⟩
   rcases hb with hb | hb
   ·rw [hb];intro e;have:=hown k e.symm;omega
   ·rw [hb];intro e;injection e with e;omega
 ·intro e he
  rcases List.mem_append.1 he with he | he
  ·exact h.short e (List.mem_of_mem_take he)
  ·rcases List.mem_cons.1 he with rfl | he
   ·exact hpl
   ·exact h.short e (List.mem_of_mem_drop he)
 ·intro k hk
  rcases hk with ⟨_,h2⟩ | ⟨h1,_⟩
  ·exact .inl h2
  ·exact .inr h1
 ·rcases hb with hb | hb
  ·exact .inl hb
  ·exact .inr ⟨_,hb,hE.size⟩
end
def aFp (t:List GN)(vn:Value)(b:Int)(L:List GE)(x:GE)(g:CA)(P:Nat->Prop)(ve:Value)(w:World)(e:Ending)(w':World):Prop :=
 e=.returned (.bool (!fT x.path L))∧iL t vn b (dN L x) g P ve w w'
theorem aK3 {w w':World}{ve:Value}{n:Nat}{xs:List Value}(h:w.ownsRow 0 102 6 ve n xs)(hx:Ext w w'):w'.ownsRow 0 102 6 ve n xs:=by
 refine ⟨h.1,?_⟩;rcases h.2 with h3 | ⟨G,cap,cur,h4,h5,h6,h7⟩
 ·exact .inl h3
 ·exact .inr ⟨G,cap,cur,h4,h5,(hx.block G (Blk.lt (t:=102) h6)).trans h6,h7⟩
theorem aAj {w:World}{ve:Value}{n:Nat}{xs:List Value}(h:w.ownsRow 0 102 6 ve n xs):∃ A m c,ve=.slice A m c:=by
 rcases h.2 with ⟨h3,_⟩ | ⟨G,cap,cur,h4,_⟩
 ·exact ⟨_,_,_,h3⟩
 ·exact ⟨_,_,_,h4⟩
theorem aG9 {t:List GN}{vn:Value}{b:Int}{L:List GE}{g:CA}{P:Nat->Prop}{ve:Value}{w w2 w3:World}(x:GE)(h:dO t vn b L g P ve w)(hno:fT x.path L=false)(hX2:Ext w w2)(hX3:Ext w w3)(A3:Option Addr)(d3:Nat)(hE3:EAt w3 (fun k=>w2.heap.size<=k) x A3 d3)
  (hfew:L.length+1<=100000)(hpl:x.path.length<=1000) :
  Calls Tryz.prog 102 #[ve,.int .i64 (bB x.path L),.slice (some ⟨w3.heap.size,0,none⟩) 1 1] (w3.alloc (.cells #[.slice A3 x.path.length d3,↑x.kind,↑x.at_,↑x.code,.bool x.fresh,↑x.hits] 102))
   (fun e w4=>∃ A4 n4 c4,e=.returned (.slice A4 n4 c4)∧w4.cell? ⟨g.c,3,none⟩=some ve∧w4.frozen? ⟨g.c,3,none⟩=false∧iL t vn b (dN L x) g P ve w (w4.setCell ⟨g.c,3,none⟩ (.slice A4 n4 c4))):=by
 obtain ⟨xs,ho,hr,h1⟩:=h.one;have hx1:Ext w (w3.alloc (.cells #[.slice A3 x.path.length d3,↑x.kind,↑x.at_,↑x.code,.bool x.fresh,↑x.hits] 102)):=hX3.alloc' _;have hV:=Blk.new w3 102 (cD x A3 d3).toArray
 refine (aCc ve L.length (bB x.path L) w3.heap.size 1 102 xs (cD x A3 d3) _ (aK3 ho hx1) hV (fun e=>by have:=aG0 ho e.symm;have:=hX3.size;omega) rfl (mA _ _) U h1 (by
  intro u hu;simp only [cD,List.mem_cons,List.not_mem_nil,or_false] at hu;rcases hu with rfl | rfl | rfl | rfl | rfl | rfl <;> rfl)).mono ?_
 rintro e w4 ⟨v4,rfl,ho4,hF4,hb4⟩;obtain ⟨A4,n4,c4,rfl⟩:=aAj ho4;have hlt:=h.box.lt;have hbox:Blk w4 g.c 95 #[vn,.pointer (some ⟨g.w,0,none⟩),↑b,ve]:=(hF4.block _ (Nat.lt_of_lt_of_le hlt hx1.size) h.ne).trans ((hx1.block _ hlt).trans h.box);refine ⟨A4,n4,c4,rfl,hbox.cell' 3 rfl,hbox.frozen 3,?_⟩;exact dO.inserted x h hno hx1 A3 d3 ((hE3.ext ((Ext.refl w3).alloc' _)).carry (fun _ _ _=>rfl) (fun k _ hk=>Nat.le_trans hX2.size hk)) xs ho hr _ ho4 hF4 hb4 hfew hpl
theorem aG8 (t:List GN)(vn:Value)(b:Int)(L:List GE)(g:CA)(P Q:Nat->Prop)(ve:Value)(x:GE)(A:Option Addr)(c:Nat)(w:World)(h:dO t vn b L g P ve w)(hx:EAt w Q x A c)(hfew:L.length+1<=100000)(hpl:x.path.length<=1000) :
  Calls Tryz.prog 48 #[.pointer (some ⟨g.c,0,none⟩),aEt x A c] w (aFp t vn b L x g P ve w):=by
 have HC:=aYl (fun (W:World) (hE:Ext w W)=>wB L x A c _ Q ve W (h.ext hE).ens (hx.ext hE) h.inc U);have H:=aYl h;have HX:=aYl hx;clear h hx;generalize hfe:bB x.path L=f at *;generalize hhe:fT x.path L=hb at *;have HFE:=aYl hfe;have HHE:=aYl hhe;clear hfe hhe;go_enter Tryz.func48,Tryz.ntmps48;go_upto_region 1 with fail;have HE:=aYl ((Ext.refl w).alloc' (.cells #[.slice A x.path.length c,↑x.kind,↑x.at_,↑x.code,.bool x.fresh,↑x.hits] 102));have HB:=aYl (Blk.new w 102 #[.slice A x.path.length c,↑x.kind,↑x.at_,↑x.code,.bool x.fresh,↑x.hits]);generalize w.alloc (.cells #[.slice A x.path.length c,↑x.kind,↑x.at_,↑x.code,.bool x.fresh,↑x.hits] 102)=W at *;have c3:=(H.out.ext HE.out).cell3;obtain ⟨x0,x1,x2,x3,x4,x5⟩:=bY HB.out
 go_region_held3 (fun w'=>w'.cell? ⟨g.c,3,none⟩=some ve∧w'.cell? ⟨w.heap.size,0,none⟩=some (.slice A x.path.length c)∧w'.cell? ⟨w.heap.size,1,none⟩=some (.int .i64 x.kind)∧w'.cell? ⟨w.heap.size,2,none⟩=some (.int .i64 x.at_)∧w'.cell? ⟨w.heap.size,3,none⟩=some (.int .i64 x.code)∧w'.cell? ⟨w.heap.size,4,none⟩=some (.bool x.fresh)∧w'.cell? ⟨w.heap.size,5,none⟩=some (.int .i64 x.hits))
  (first
   | go_keep
   | (go_split_ands
      exact ⟨aA hx2 ‹_›,aA hx2 ‹_›,aA hx2 ‹_›,aA hx2 ‹_›,aA hx2 ‹_›,aA hx2 ‹_›,aA hx2 ‹_›⟩))
  (first
   | (go_at_call 55;refine (HC.out _ HE.out.drew').mono ?_;rintro e w2 ⟨rfl,hx2⟩))
 have HX2:=aYl (HE.out.drew'.trans' hx2);have HB2:=aYl (HB.out.drew.ext hx2);clear hx2 c3 x0 x1 x2 x3 x4 x5
 cases hb with
 | true =>
  obtain ⟨G,cap,rfl,hc1,hc2,hf,A1,d1,hE1,hcell,hfz,hCor⟩:=dO.touch x HHE.out (H.out.ext HX2.out) (nY _);rw [HFE.out] at hf hE1 hcell hCor;have c3:=(H.out.ext HX2.out).cell3;obtain ⟨x0,x1,x2,x3,x4,x5⟩:=bY HB2.out;generalize L.getD f default=y at *;have g4:=hcell 4 _ rfl;have g5:=hcell 5 _ rfl;have z4:=hfz (f*6+4);have z5:=hfz (f*6+5);have HT:=aYl hCor;have hGw:G<w.heap.size:=by have:=H.out.own;obtain ⟨xs,h1,-⟩:=this;exact aG0 h1 rfl
  have hGc:g.c ≠ G:=fun e=>H.out.ne et
  have hn2:¬ G=w.heap.size:=U
  have hn3:¬ G=g.c:=fun e=>hGc e.symm
  clear hcell hfz hCor hE1;go_wp2_with fail;go_region;have HT3:=aYl (show dO t vn b (dN L x) g P (.slice (some ⟨G,0,none⟩) L.length cap) (((w2.setCell ⟨G,f*6+5,none⟩ (.int .i64 (wrap64 (y.hits+x.hits)))).drew).setCell ⟨G,f*6+4,none⟩ (.bool (y.fresh || x.fresh))) from HT.out.ext (Ext.refl _).drew');have HF3:=aYl (show Fr (g.M (.slice (some ⟨G,0,none⟩) L.length cap)) w ((w2.setCell ⟨G,f*6+5,none⟩ (.int .i64 (wrap64 (y.hits+x.hits)))).drew) from ((Fr.of_ext HX2.out).setCell (p:=⟨G,f*6+5,none⟩) (.inl (.inr rfl)) _).drew);have d3:((w2.setCell ⟨G,f*6+5,none⟩ (.int .i64 (wrap64 (y.hits+x.hits)))).drew).cell? ⟨g.c,3,none⟩=some (.slice (some ⟨G,0,none⟩) L.length cap):=(World.cell?_setCell_far w2 ⟨G,f*6+5,none⟩ ⟨g.c,3,none⟩ _ hn3).trans c3;have e4:((w2.setCell ⟨G,f*6+5,none⟩ (.int .i64 (wrap64 (y.hits+x.hits)))).drew).cell? ⟨w.heap.size,4,none⟩=some (.bool x.fresh):=(World.cell?_setCell_far w2 ⟨G,f*6+5,none⟩ ⟨w.heap.size,4,none⟩ _ hn2).trans x4;have f4:((w2.setCell ⟨G,f*6+5,none⟩ (.int .i64 (wrap64 (y.hits+x.hits)))).drew).cell? ⟨G,f*6+4,none⟩=some (.bool y.fresh):=(World.cell?_setCell_other w2 ⟨G,f*6+5,none⟩ ⟨G,f*6+4,none⟩ _ (fun e=>by have:=congrArg Addr.off e;simp at this)).trans g4;have q4:((w2.setCell ⟨G,f*6+5,none⟩ (.int .i64 (wrap64 (y.hits+x.hits)))).drew).frozen? ⟨G,f*6+4,none⟩=false:=by simpa using z4
  generalize (w2.setCell ⟨G,f*6+5,none⟩ (.int .i64 (wrap64 (y.hits+x.hits)))).drew=W3 at *;clear c3 x0 x1 x2 x3 x4 x5 g4 g5 z4 z5 HT;generalize y.fresh=yf at *
  cases yf with
  | false =>
   simp only [Bool.false_or] at HT3;go_wp2_with fail;go_region;have HR:=aYl (show iL t vn b (dN L x) g P (.slice (some ⟨G,0,none⟩) L.length cap) w (W3.setCell ⟨G,f*6+4,none⟩ (.bool x.fresh)).drew from ⟨P,_,HT3.out.ext (Ext.refl _).drew',fun k hk=>.inl hk,(HF3.out.setCell (p:=⟨G,f*6+4,none⟩) (.inl (.inr rfl)) _).drew,.inl rfl⟩);generalize (W3.setCell ⟨G,f*6+4,none⟩ (.bool x.fresh)).drew=W4 at *;go_wp2_with fail;go_ret;exact ⟨by rw [HHE.out];rfl,HR.out⟩
  | true =>
   simp only [Bool.true_or] at HT3;go_wp2_with fail;go_region;have HR:=aYl (show iL t vn b (dN L x) g P (.slice (some ⟨G,0,none⟩) L.length cap) w (W3.setCell ⟨G,f*6+4,none⟩ (.bool true)).drew from ⟨P,_,HT3.out.ext (Ext.refl _).drew',fun k hk=>.inl hk,(HF3.out.setCell (p:=⟨G,f*6+4,none⟩) (.inl (.inr rfl)) _).drew,.inl rfl⟩);generalize (W3.setCell ⟨G,f*6+4,none⟩ (.bool true)).drew=W4 at *;go_wp2_with fail;go_ret;exact ⟨by rw [HHE.out];rfl,HR.out⟩
 | false =>
  have HIN:=aYl (fun (w3:World) A3 d3 hX3 hE3=>aG9 (w2:=w2.drew) (w3:=w3) x H.out HHE.out HX2.out.drew' hX3 A3 d3 hE3 hfew hpl);rw [HFE.out] at HIN;have HCP:=aYl (fun (W:World) (hE:Ext w W)=>rV x A c Q W (HX.out.ext hE) U);have c3:=(H.out.ext HX2.out).cell3;obtain ⟨x0,x1,x2,x3,x4,x5⟩:=bY HB2.out
  obtain ⟨Av,n0,cv,rfl⟩:∃ Av n0 cv,ve=.slice Av n0 cv:=by
   obtain ⟨xs,ho,-,-⟩:=H.out.one;exact aAj ho
  go_wp2_with fail
  go_region_with (first
   | (go_at_call 103;refine (HCP.out _ HX2.out.drew').mono ?_;rintro e w3 ⟨A3,d3,rfl,hE3,hx3⟩;have k3:=aA hx3 c3;have lk:=aQ k3;have HE3:=aYl hE3;have HX3:=aYl (HX2.out.drew'.trans' hx3);clear hE3 hx3)
   | (go_at_call 102;refine (HIN.out w3 A3 d3 HX3.out HE3.out).mono ?_;rintro e w4 ⟨A4,n4,c4,rfl,k4,q4,hA4⟩;have HA4:=aYl hA4;clear hA4))
  all_goals
   generalize w4.setCell ⟨g.c,3,none⟩ (.slice A4 n4 c4)=W5 at *;go_wp2_with fail;go_ret;exact ⟨by rw [HHE.out];rfl,HA4.out⟩
theorem aHr {t:List GN}{vn:Value}{b:Int}{L:List GE}{g:CA}{P:Nat->Prop}{ve:Value}{w:World}(i:Nat)(hi:i<L.length)(h:dO t vn b L g P ve w) :
  Calls Tryz.prog 104 #[ve,↑i,.int .i64 ((i:Int)+1)] w
   (fun e w4=>∃ A4 n4 c4,e=.returned (.slice A4 n4 c4)∧w4.cell? ⟨g.c,3,none⟩=some ve∧w4.frozen? ⟨g.c,3,none⟩=false∧(Value.slice A4 n4 c4).ownBlock=ve.ownBlock ∧
    Fr (g.M ve) w (w4.setCell ⟨g.c,3,none⟩ (.slice A4 n4 c4))∧dO t vn b (L.eraseIdx i) g P (.slice A4 n4 c4) (w4.setCell ⟨g.c,3,none⟩ (.slice A4 n4 c4))):=by
 obtain ⟨xs,ho,hr,h1⟩:=h.one;have hfew:=h.few;rcases ho with ⟨hxl,⟨h2,h3⟩ | ⟨G,cap,cur,rfl,-,h3,h4,h5,h6,h7⟩⟩
 ·omega
 have hB:Blk w G 102 cur.toList.toArray:=by unfold Blk;simpa using h3
 have hcl:cur.toList.length=cap*6:=gh
 have h63:cap<=9223372036854775807:=ff
 refine (aCm G L.length cap i cur.toList w hB hcl h4 hi hfew h63 (by rw [h7];exact h1)).mono ?_;rintro e w4 ⟨rfl,cur',hB',hl',ht',hF⟩;have hlt:=h.box.lt;have hgG:g.c ≠ G:=fun e=>h.ne et
 have hbox:Blk w4 g.c 95 #[vn,.pointer (some ⟨g.w,0,none⟩),↑b,.slice (some ⟨G,0,none⟩) L.length cap]:=(hF.block _ hlt hgG).trans h.box;have hB3:=hbox.set_ 3 (.slice (some ⟨G,0,none⟩) (L.length - 1) cap);have hfr:∀ k,k ≠ g.c->(w4.setCell ⟨g.c,3,none⟩ (.slice (some ⟨G,0,none⟩) (L.length - 1) cap)).heap[k]?=w4.heap[k]?:=fun k hk=>Below.heap_setCell _ _ _ _ (fun e=>hk e)
 have hFF:Fr (g.M (.slice (some ⟨G,0,none⟩) L.length cap)) w (w4.setCell ⟨g.c,3,none⟩ (.slice (some ⟨G,0,none⟩) (L.length - 1) cap)):=by
  have h1:Fr (g.M (.slice (some ⟨G,0,none⟩) L.length cap)) w w4:=⟨hF.os,hF.tape,hF.output,hF.size,fun k hk hm=>hF.block k hk (fun e=>hm (.inr et))⟩;exact h1.setCell (p:=⟨g.c,3,none⟩) (.inl (.inl rfl)) _
 refine ⟨_,_,_,rfl,hbox.cell' 3 rfl,hbox.frozen 3,rfl,hFF,?_⟩;have hB4:Blk (w4.setCell ⟨g.c,3,none⟩ (.slice (some ⟨G,0,none⟩) (L.length - 1) cap)) G 102 cur'.toArray:=(hfr G (fun e=>hgG e.symm)).trans hB';generalize w4.setCell ⟨g.c,3,none⟩ (.slice (some ⟨G,0,none⟩) (L.length - 1) cap)=W at *
 have hkP:aB P w W:=fun k hk hp=>hFF.block k hk (fun hm=>by
  rcases hm with hm | hm
  ·exact (h.excl k hp).1 hm
  ·exact (h.excl k hp).2 hm)
 have hle:(L.eraseIdx i).length=L.length - 1:=by rw [List.length_eraseIdx,if_pos hi]
 have hsub:(L.eraseIdx i).Sublist L:=List.eraseIdx_sublist L i
 have ht2:cur'.take ((L.length - 1)*6)=xs.take (i*6) ++ xs.drop ((i+1)*6):=by
  rw [ht',h7,<- h7,List.take_take,Nat.min_eq_left U]
 refine ⟨hB3,h.walk.carry hkP (fun _ _ h=>h),⟨_,⟨?_,.inr ⟨G,cap,cur'.toArray,by rw [hle],Nat.zero_le _,hB4,U,h5,by simpa using hl',rfl⟩⟩,?_⟩,h.excl,h.ne,?_,h.bI,U,fun e he=>h.short e (hsub.subset he),h.good⟩
 ·simp only [List.length_take,hle]
  omega
 ·rw [hle]
  show RL (REn W P) (L.eraseIdx i) (cur'.take ((L.length - 1)*6))
  rw [ht2,List.eraseIdx_eq_take_drop_succ];have hr':=hr.move fP hkP (fun _ _ h=>h);exact (hr'.take (fP.len W P) i).append (hr'.drop (fP.len W P) (i+1))
 ·exact List.Pairwise.sublist (hsub.map GE.path) h.inc
def pK (w:World)(a:Addr):Nat:=match w.cell? a with
 | some (.slice _ n _)=>n
 | _=>0
theorem aA4 {b:Int}{L:List GE}(h:¬ (b<dF L∨256<L.length)):∀ n,aLn b n L=L
 | 0=>rfl
 | n+1=>by simp only [aLn];rw [if_neg h]
theorem xB {b:Int}{L:List GE}(h:b<dF L∨256<L.length)(h0:0<L.length):uF b L=uF b (L.eraseIdx (nU L)):=by
 unfold uF;have h1:(L.eraseIdx (nU L)).length=L.length - 1:=by rw [List.length_eraseIdx,if_pos (aA5 h0)]
 rw [h1];generalize hn:L.length - 1=n at *;rw [show L.length=n+1 by omega];simp only [aLn];rw [if_pos h]
def aJj (t:List GN)(vn:Value)(b:Int)(L:List GE)(g:CA)(P:Nat->Prop)(ve:Value)(w wr:World):Prop :=
 ∃ L' A' c',dO t vn b L' g P (.slice A' L'.length c') wr∧(Value.slice A' L'.length c').ownBlock=ve.ownBlock∧Fr (g.M ve) w wr∧uF b L'=uF b L
def aUb (L:List GE)(W:World)(k i:Value)(wr:World):Prop:=∃ j m:Nat,i=↑j∧k=↑m∧j<=L.length∧m<L.length∧iU j m (L.drop j)=nU L∧Ext W wr
def aJc (t:List GN)(vn:Value)(b:Int)(L:List GE)(g:CA)(P:Nat->Prop)(ve:Value)(w:World)(e:Ending)(w':World):Prop :=
 e=.returned (.tuple #[])∧∃ v',dO t vn b (uF b L) g P v' w'∧v'.ownBlock=ve.ownBlock∧Fr (g.M ve) w w'
theorem aLm (t:List GN)(vn:Value)(b:Int)(L:List GE)(g:CA)(P:Nat->Prop)(ve:Value)(w:World)(h:dO t vn b L g P ve w) :
  Calls Tryz.prog 49 #[.pointer (some ⟨g.c,0,none⟩)] w (aJc t vn b L g P ve w):=by
 have HS:Hid (aJj t vn b L g P ve w w):=aYl (by
  obtain ⟨xs,ho,-⟩:=h.own;rcases ho.2 with ⟨e,e2⟩ | ⟨G,cap,cur,e,-⟩
  ·refine ⟨L,none,0,?_,et,Fr.refl _ w,rfl⟩
   rw [e2,<- e];exact h
  ·refine ⟨L,_,cap,by rw [<- e];exact h,by rw [<- e],Fr.refl _ w,rfl⟩)
 clear h;go_enter Tryz.func49,Tryz.ntmps49;go_wp2_with fail;go_loopw [] (fun wr=>aJj t vn b L g P ve w wr) (fun wr=>pK wr ⟨g.c,3,none⟩)
 case atStart=>exact HS.out
 case round =>
  obtain ⟨L1,A1,d1,hC,hob,hF,hcut⟩:=hrel;have HC:=aYl hC;have HOB:=aYl hob;have HF:=aYl hF;have HCU:=aYl hcut;have HBY:=aYl (fun (W:World) (hE:Ext wr W)=>xF t vn b L1 g P _ W (hC.ext hE));have c3:=hC.cell3;have c2:wr.cell? ⟨g.c,2,none⟩=some (↑b):=hC.box.cell' 2 rfl;have hfew:=hC.few;have hbI:=hC.bI;clear hC hob hF hcut;have HD:=aYl (show (b<dF L1∨256<L1.length) ↔ (decide (b<dF L1) || decide (256<L1.length))=true by simp);generalize hs:dF L1=s at *;have HSS:=aYl hs;clear hs;have HL0:=aYl (show pK wr ⟨g.c,3,none⟩=L1.length by unfold pK;rw [c3]);have k2:=aC3.cell c2;have k3:=aC3.cell c3;go_upto_region 0 with fail;go_cut [19] from 5 to 51 (fun s1 wx=>s1=.bool (decide (b<s) || decide (256<L1.length))∧Ext wr wx)
  case first =>
   by_cases hb:b<s
   ·have hd:decide (b<s)=true:=aYo hb
    refine lH aa aa ?_
    repeat (go_big_quiet_step (exact aIt (HBY.out _ (aC3.h _))))
    refine wpQuiet_nil ?_;intro _ hw';obtain ⟨⟨wq,hq⟩,rfl⟩:=hw';go_wp2_with fail;go_meet;exact ⟨by simp [hd],hq⟩
   ·have hd:decide (b<s)=false:=aYp hb
    refine lH aa aa ?_
    repeat (go_big_quiet_step (exact aIt (HBY.out _ (aC3.h _))))
    refine wpQuiet_nil ?_;intro _ hw';obtain ⟨⟨wq,hq⟩,rfl⟩:=hw';go_wp2_with fail;go_meet;exact ⟨by rw [hd,Bool.false_or];exact congrArg Value.bool (decide_eq_decide.2 U),hq⟩
  case rest =>
   obtain ⟨rfl,hxc⟩:=hcut;have HC2:=aYl (HC.out.ext hxc);have HF2:=aYl (HF.out.trans (Fr.of_ext hxc));have c3c:=aA hxc c3;clear hxc c2 c3 k2 k3 HC HF HBY
   by_cases hcc:b<s∨256<L1.length
   ·have HCC:=aYl hcc
    have hd:(decide (b<s) || decide (256<L1.length))=true:=HD.out.1 hcc;rw [hd]
    have hpos:0<L1.length:=by
     rcases hcc with h | h
     ·cases L1 with
      | nil=>have:=HSS.out;simp [dF] at this;omega
      | cons _ _=>simp
     ·omega
    clear hd hcc;have hle:=(Lst.form HC2.out.ens);obtain ⟨A9,c9,e9,h91,h92⟩:=hle;injection e9 with e91 _ e92;subst e91 e92;have HEN:=aYl HC2.out.ens;go_wp2_with fail;go_loopw [2,31] (fun k i wx=>aUb L1 wc k i wx) (fun _ i _=>L1.length - (intOf i).toNat)
    case atStart=>exact ⟨0,L1.length - 1,rfl,by go_num,Nat.zero_le _,U,rfl,Ext.refl _⟩
    case round =>
     obtain ⟨j,m,rfl,rfl,hj,hm,hcf,hx⟩:=hrel;have HCF:=aYl hcf;have HX:=aYl hx;clear hcf hx
     by_cases hlt:j<L1.length
     ·obtain ⟨b1,o1,A2,d2,rfl,-,hv1,hgc⟩:=(HEN.out.ext HX.out).get hlt
      have HD1:=aYl (show iU (j+1) (if (L1.getD j default).fresh then m else j) (L1.drop (j+1))=nU L1 by rw [<- HCF.out,aG default hlt];rfl);generalize L1.getD j default=y at *;have g0:=hgc 0 _ rfl;have g1:=hgc 1 _ rfl;have g2:=hgc 2 _ rfl;have g3:=hgc 3 _ rfl;have g4:=hgc 4 _ rfl;have g5:=hgc 5 _ rfl;rw [Nat.add_zero] at g0;clear hgc hv1;generalize y.fresh=yf at *
      cases yf with
      | false =>
       go_wp2_with fail;go_roundw
       case rel=>exact ⟨j+1,j,by go_num,rfl,U,U,by simpa using HD1.out,HX.out.alloc' _⟩
       case measure=>simp [intOf];omega
      | true =>
       go_wp2_with fail;go_roundw
       case rel=>exact ⟨j+1,m,by go_num,rfl,U,U,by simpa using HD1.out,HX.out.alloc' _⟩
       case measure=>simp [intOf];omega
     ·have hjl:j=L1.length:=by omega
      have HCA:=aYl (show m=nU L1 by rw [<- HCF.out,drop_nil U];rfl);have HDC:=aYl (aHr m hm (HC2.out.ext HX.out));have c3r:=aA HX.out c3c;clear hjl;go_wp2_with fail;refine HDC.out.mono ?_;rintro e w4 ⟨A4,n4,c4,rfl,q3,q4,hob4,hF4,hC4⟩
      have hn4:n4=(L1.eraseIdx m).length:=by
       obtain ⟨A8,c8,e8,-,-⟩:=Lst.form hC4.ens;injection e8
      subst hn4;have HC4:=aYl hC4;have HF4:=aYl hF4;have HO4:=aYl hob4;clear hob4 hF4 hC4 c3r;go_wp2_with fail;go_roundw
      case rel =>
       refine ⟨L1.eraseIdx m,A4,c4,HC4.out,HO4.out.trans HOB.out,(HF2.out.trans (Fr.of_ext HX.out)).trans (HF4.out.mono (fun k hk=>hk.elim .inl (fun h=>.inr (by rw [h,HOB.out])))),?_⟩;rw [HCA.out,<- xB (by rw [HSS.out];exact HCC.out) hpos];exact HCU.out
      case measure =>
       rw [HL0.out];unfold pK;rw [HC4.out.cell3,List.length_eraseIdx,if_pos hm]
       show L1.length - 1<L1.length
       omega
   ·have hd:(decide (b<s) || decide (256<L1.length))=false:=by
     cases hh:(decide (b<s) || decide (256<L1.length))
     ·rfl
     ·exact absurd (HD.out.2 hh) hcc
    rw [hd]
    have HR:=aYl (show aJc t vn b L g P ve w (.returned (.tuple #[])) wc from ⟨rfl,_,by
     rw [<- HCU.out];unfold uF;rw [aA4 (by rw [HSS.out];exact hcc)];exact HC2.out,HOB.out,HF2.out⟩)
    clear hd hcc;go_wp2_with fail;exact bodyPost_ret (v:=.tuple #[]) (by simp [results,Tryz.results49,go_sem]) rfl HR.out
abbrev aAg (k a c:Int):Value:=.agg #[↑k,↑a,↑c,.slice none 0 0,.slice none 0 0,.int .i64 0]
def mkE (path:List Int)(k a c:Int)(f:Bool):GE:=⟨path,k,a,c,f,1⟩
def aQy (t:List GN)(vn:Value)(b:Int)(L:List GE)(x:GE)(g:CA)(P:Nat->Prop)(ve:Value)(w:World)(e:Ending)(w':World):Prop :=
 e=.returned (.tuple #[.bool (uV (aO t) b L x),.int .i64 (aBd (aO t) x)])∧iL t vn b (qE (aO t) b L x) g P ve w w'
section
variable {t:List GN}{vn:Value}{b:Int}{L L':List GE}{g:CA}{P:Nat->Prop}{ve:Value}{w w1 w2:World}
theorem iL.of_ext (hx:Ext w w1)(h:iL t vn b L' g P ve w1 w2):iL t vn b L' g P ve w w2:=by
 obtain ⟨P',v',h1,h2,h3,h4⟩:=h;have hs:=hx.size;refine ⟨P',v',h1,fun k hk=>(h2 k hk).elim .inl (fun h=>.inr U),(Fr.of_ext hx).trans h3,h4.elim .inl (fun ⟨k,h5,h6⟩=>.inr ⟨k,h5,U⟩)⟩
theorem iL.none (h:dO t vn b L g P ve w)(hx:Ext w w1):iL t vn b L g P ve w w1:=⟨P,ve,h.ext hx,fun _ h=>.inl h,Fr.of_ext hx,.inl rfl⟩
end
theorem aFi (t:List GN)(vn:Value)(b:Int)(L:List GE)(g:CA)(P Pp:Nat->Prop)(ve vp:Value)(path:List Int)(k a c:Int)(f:Bool)(w:World)(h:dO t vn b L g P ve w)(hp:aU w Pp vp path)(hPp:∀ i,Pp i->¬ g.M ve i)
  (hk:I64 k)(ha:I64 a)(hc:I64 c)(hfew:L.length+1<=100000)(hpl:path.length<=1000) :
  Calls Tryz.prog 12 #[.pointer (some ⟨g.c,0,none⟩),vp,aAg k a c,.bool f] w (aQy t vn b L (mkE path k a c f) g P ve w):=by
 obtain ⟨Ap,cp,ep,hp1,hp2⟩:=hp.form;subst ep;have H:=aYl h;have HP:=aYl hp;have HPP:=aYl hPp;have HE1:=aYl (show EAt w Pp (mkE path k a c f) Ap cp from ⟨hp,hk,ha,hc,by simp [mkE,I64]⟩);have HAE:=aYl (show qE (aO t) b L (mkE path k a c f)=if aO t path then (if fT path L then dN L (mkE path k a c f) else uF b (dN L (mkE path k a c f))) else L from rfl);have HAB:=aYl (show uV (aO t) b L (mkE path k a c f)=if aO t path then (if fT path L then false else fT path (uF b (dN L (mkE path k a c f)))) else false from rfl);have HAI:=aYl (show aBd (aO t) (mkE path k a c f)=if aO t path then 0 else 11 from rfl);clear h hp hPp;go_enter Tryz.func12,Tryz.ntmps12;go_upto_region 1 with fail;have HE:=aYl ((Ext.refl w).alloc' (.cells #[↑k,↑a,↑c,.slice none 0 0,.slice none 0 0,.int .i64 0] 46));have HB:=aYl (Blk.new w 46 #[↑k,↑a,↑c,.slice none 0 0,.slice none 0 0,.int .i64 0]);generalize w.alloc (.cells #[↑k,↑a,↑c,.slice none 0 0,.slice none 0 0,.int .i64 0] 46)=W at *;have c1:W.cell? ⟨g.c,1,none⟩=some (.pointer (some ⟨g.w,0,none⟩)):=(H.out.ext HE.out).box.cell' 1 rfl;have HW:=aYl (aC6 t path vn (.slice Ap path.length cp) g.w g.s g.l g.f P Pp W (H.out.ext HE.out).walk (HP.out.ext HE.out) H.out.good U)
 generalize hwb:aO t path=wb at *;have HWB:=aYl hwb;clear hwb;go_upto_region 2 with (go_at_call 47;refine HW.out.mono ?_;rintro e w1 ⟨y,A1,d1,rfl,hx1⟩);have HX2:=aYl (show Ext w (w1.alloc (.cells #[↑y.kind,↑y.n,.string y.s,.slice A1 y.kids.length d1] 85)) from (HE.out.trans' hx1).alloc' _);have HB2:=aYl ((HB.out.ext hx1).alloc (.cells #[↑y.kind,↑y.n,.string y.s,.slice A1 y.kids.length d1] 85));clear hx1 c1;generalize w1.alloc (.cells #[↑y.kind,↑y.n,.string y.s,.slice A1 y.kids.length d1] 85)=W2 at *
 cases wb with
 | false =>
  go_wp2_with fail;go_ret2;refine ⟨?_,?_⟩
  ·rw [HAB.out,HAI.out];rfl
  ·rw [HAE.out];exact iL.none H.out HX2.out
 | true =>
  obtain ⟨x0,x1,x2,x3,x4,x5⟩:=bY HB2.out;generalize hhe:fT path L=he at *;have HHE:=aYl hhe;clear hhe
  have HJ:=aYl (show Calls Tryz.prog 48 #[.pointer (some ⟨g.c,0,none⟩),.agg #[.slice Ap path.length cp,↑k,↑a,↑c,.bool f,.int .i64 1]] W2 (fun e w'=>e=.returned (.bool (!he))∧iL t vn b (dN L (mkE path k a c f)) g P ve W2 w') from by
   have h:=aG8 t vn b L g P Pp ve (mkE path k a c f) Ap cp W2 (H.out.ext HX2.out) (HE1.out.ext HX2.out) hfew hpl;unfold aFp at h;rw [show fT (mkE path k a c f).path L=he from HHE.out] at h;exact h)
  cases he with
  | true =>
   go_wp2_with fail;refine HJ.out.mono ?_;rintro e w3 ⟨rfl,hA3⟩;have HA3:=aYl (iL.of_ext HX2.out hA3);clear hA3;simp only [Bool.not_true];go_wp2_with fail;go_ret2;refine ⟨?_,?_⟩
   ·rw [HAB.out,HAI.out];rfl
   ·rw [HAE.out];exact HA3.out
  | false =>
   go_wp2_with fail;refine HJ.out.mono ?_;rintro e w3 ⟨rfl,hA3⟩;have HA3:=aYl (iL.of_ext HX2.out hA3);clear hA3;simp only [Bool.not_false];obtain ⟨P',v',h1,h2,h3,h4⟩:=HA3.out;have hpw:aU w3 (fun i=>Pp i∧i<w.heap.size) (.slice Ap path.length cp) path:=HP.out.carry (fun i hi hp=>h3.block i hi (HPP.out i hp)) (fun i hi hp=>⟨hp,hi⟩);have HC:=aYl (aLm t vn b _ g P' v' w3 h1)
   have hM:∀ i,i<w.heap.size->g.M v' i->g.M ve i:=fun i hi hm=>by
    rcases hm with hm | hm
    ·exact .inl hm
    ·rcases h4 with h4 | ⟨j,h4,h5⟩
     ·exact .inr (by rw [hm,h4])
     ·rw [h4] at hm;injection hm with hm;omega
   have HM:=aYl hM;have HPW:=aYl hpw;have H2:=aYl h2;have H3:=aYl h3;have H4:=aYl h4;clear h1 h2 h3 h4 hpw hM HA3 x0 x1 x2 x3 x4 x5;go_wp2_with fail;refine HC.out.mono ?_;rintro e w4 ⟨rfl,v4,hc4,hob4,hf4⟩;have HF4:=aYl (show Fr (g.M ve) w w4 from ⟨hf4.os.trans H3.out.os,hf4.tape.trans H3.out.tape,hf4.output.trans H3.out.output,Nat.le_trans H3.out.size hf4.size,fun i hi hn=>(hf4.block i (Nat.lt_of_lt_of_le hi H3.out.size) (fun hm=>hn (HM.out i hi hm))).trans (H3.out.block i hi hn)⟩);have HPW4:=aYl (HPW.out.carry (Q:=fun _=>True) (fun i hi hp=>hf4.block i hi (fun hm=>HPP.out i hp.1 (HM.out i hp.2 hm))) (fun _ _ _=>trivial));have HC4:=aYl hc4;have HO4:=aYl hob4;clear hc4 hob4 hf4;go_wp2_with fail;refine (zB t vn b _ g P' _ v4 _ path w4 HC4.out HPW4.out).mono ?_;rintro e w5 ⟨rfl,hx5⟩;have HA5:=aYl (show iL t vn b (uF b (dN L (mkE path k a c f))) g P ve w w5 from ⟨P',v4,HC4.out.ext hx5,H2.out,HF4.out.trans (Fr.of_ext hx5),by rw [HO4.out];exact H4.out⟩);clear hx5;go_wp2_with fail;go_ret2;refine ⟨?_,?_⟩
   ·rw [HAB.out,HAI.out];rfl
   ·rw [HAE.out];exact HA5.out
structure oL (t:List GN)(vn:Value)(b:Int)(L:List GE)(g:CA)(P:Nat->Prop)(v:Value)(B:Nat)(w:World):Prop where
 cor:dO t vn b L g P v w
 lo:∀ k,P k∨g.M v k->B<=k∧k<w.heap.size
section
variable {t:List GN}{vn vn':Value}{b b':Int}{L L':List GE}{g g':CA}{P P':Nat->Prop}{v v':Value}{B:Nat}{w w':World}
theorem dO.mlt (h:dO t vn b L g P v w){k:Nat}(hk:g.M v k):k<w.heap.size:=by
 rcases hk with rfl | hk
 ·exact h.box.lt
 ·obtain ⟨xs,h1,-⟩:=h.own
  exact aG0 h1 hk.symm
theorem oL.ext (h:oL t vn b L g P v B w)(hx:Ext w w'):oL t vn b L g P v B w':=⟨h.cor.ext hx,fun k hk=>⟨(h.lo k hk).1,Nat.lt_of_lt_of_le (h.lo k hk).2 hx.size⟩⟩
theorem oL.after (h:oL t vn b L g P v B w)(ha:iL t vn b L' g P v w w'):∃ P' v',oL t vn b L' g P' v' B w'∧Fr (fun k=>B<=k) w w'∧Fr (g.M v) w w'∧(∀ k,P' k->P k∨w.heap.size<=k)∧∀ k,g.M v' k->g.M v k∨w.heap.size<=k:=by
 obtain ⟨P1,v1,h1,h2,h3,h4⟩:=ha;have hBw:B<=w.heap.size:=by have:=h.lo g.c (.inr (.inl rfl));omega
 have hM:∀ k,g.M v1 k->g.M v k∨w.heap.size<=k:=by
  intro k hk;rcases hk with hk | hk
  ·exact .inl (.inl hk)
  ·rcases h4 with h4 | ⟨k',h4,h5⟩
   ·exact .inl (.inr (by rw [hk,h4]))
   ·rw [h4] at hk;injection hk with hk;subst hk;exact .inr h5
 have hc:=h1.carry (Q:=fun k=>P1 k∧k<w'.heap.size) (fun _ _ _=>rfl) (fun k hk hp=>⟨hp,hk⟩) (fun k hk=>h1.excl k hk.1);refine ⟨fun k=>P1 k∧k<w'.heap.size,v1,⟨hc,?_⟩,h3.mono (fun k hk=>(h.lo k (.inr hk)).1),h3,fun k hk=>h2 k hk.1,hM⟩;intro k hk;rcases hk with ⟨hk,hlt⟩ | hk
 ·refine ⟨?_,hlt⟩
  rcases h2 k hk with h5 | h5
  ·exact (h.lo k (.inl h5)).1
  ·omega
 ·refine ⟨?_,hc.mlt hk⟩
  rcases hM k hk with h5 | h5
  ·exact (h.lo k (.inr h5)).1
  ·omega
def aCy (g:CA)(P:Nat->Prop)(v:Value)(g':CA)(P':Nat->Prop)(v':Value):Prop:=(∀ k,P k∨g.M v k->¬ g'.M v' k)∧∀ k,P' k∨g'.M v' k->¬ g.M v k
theorem aCy.swap (h:aCy g P v g' P' v'):aCy g' P' v' g P v:=⟨h.2,h.1⟩
theorem oL.other (h:oL t vn b L g P v B w)(h':oL t vn' b' L' g' P' v' B w)(ha:aCy g P v g' P' v'){L1:List GE}(hA:iL t vn b L1 g P v w w') :
  ∃ P1 v1,oL t vn b L1 g P1 v1 B w'∧oL t vn' b' L' g' P' v' B w'∧aCy g P1 v1 g' P' v'∧Fr (fun k=>B<=k) w w':=by
 obtain ⟨P1,v1,h1,h2,h3,h4,h5⟩:=h.after hA;refine ⟨P1,v1,h1,⟨h'.cor.carry (fun k hk hp=>h3.block k hk (ha.2 k hp)) (fun _ _ h=>h) h'.cor.excl,fun k hk=>⟨(h'.lo k hk).1,Nat.lt_of_lt_of_le (h'.lo k hk).2 h2.size⟩⟩,⟨?_,?_⟩,h2⟩
 ·intro k hk hm
  have hlt:=(h'.lo k (.inr hm)).2;rcases hk with hk | hk
  ·rcases h4 k hk with h6 | h6
   ·exact ha.1 k (.inl h6) hm
   ·omega
  ·rcases h5 k hk with h6 | h6
   ·exact ha.1 k (.inr h6) hm
   ·omega
 ·intro k hk hm
  have hlt:=(h'.lo k hk).2;rcases h5 k hm with h6 | h6
  ·exact ha.2 k hk h6
  ·omega
end
def aX5 (gs:List (List Int))(a i:Nat):List (List Int):=(List.range i).map (fun j=>gs.getD ((a+gs.length - 1 - j) % gs.length) [])
def aL5 (t:List GN)(b:Int)(w:World)(e:Ending)(w':World):Prop :=
 ∃ g P' vn',e=.returned (.tuple #[.pointer (some ⟨g.c,0,none⟩),.int .i64 0])∧oL t vn' b [] g P' (.slice none 0 0) w.heap.size w'∧Ext w w'
theorem aMx {t:List GN}(h:∀ x ∈ t,jG x):qI t:=fun x hx=>(h x hx).2.2.2.2.1
theorem aPi {t:List GN}{vn:Value}{b:Int}{B0 gw gs gl gf:Nat}{P:Nat->Prop}{w5:World}(hW:jY t vn gw gs gl gf P w5)(hP:∀ k,k<w5.heap.size->P k->B0<=k)(hB:B0<=w5.heap.size)(hb:0<=b∧b<=1099511627776)(hg:bD t t.length) :
  oL t vn b [] ⟨w5.heap.size,gw,gs,gl,gf⟩ (fun k=>B0<=k∧k<w5.heap.size) (.slice none 0 0) B0 (w5.alloc (.cells #[vn,.pointer (some ⟨gw,0,none⟩),↑b,.slice none 0 0] 95)):=by
 have hx:Ext w5 (w5.alloc (.cells #[vn,.pointer (some ⟨gw,0,none⟩),↑b,.slice none 0 0] 95)):=(Ext.refl _).alloc' _;refine ⟨⟨Blk.new _ _ _,hW.carry (aB.of_ext hx) (fun k hk hp=>⟨hP k hk hp,hk⟩),⟨[],aN _ _ _ _,ey⟩,?_,dg,List.Pairwise.nil,hb,Y,Y,hg⟩,?_⟩
 ·intro k hk
  exact ⟨by show k ≠ w5.heap.size;omega,dg⟩
 ·intro k hk
  rcases hk with hk | hk | hk
  ·simp;omega
  ·simp only at hk;subst hk;simp;omega
  ·simp [Value.ownBlock] at hk
theorem pH (t:List GN)(P:Nat->Prop)(vn:Value)(b:Int)(w:World)(hP:∀ k,P k->k<w.heap.size)(ht:Nds w P vn t)(hsm:∀ x ∈ t,jG x)(hv:cC t=0)(hb:0<=b∧b<=1099511627776) :
  Calls Tryz.prog 10 #[.agg #[vn],↑b] w (aL5 t b w):=by
 have hg:=fI.1 hv;have HV:=aYl (fun (W:World) (hx:Ext w W)=>sO t P vn W (fun k hk=>Nat.lt_of_lt_of_le (hP k hk) hx.size) (ht.ext hx) (aMx hsm));rw [hv] at HV;have HCL:=aYl (fun (W:World) (hx:Ext w W)=>uI t hsm P vn W (fun k hk=>Nat.lt_of_lt_of_le (hP k hk) hx.size) (ht.ext hx) (by have:=hg.2.1;omega));have HG:=aYl hg;obtain ⟨A,c,e,h1,h2⟩:=ht.form;subst e;have hd:decide (b<0)=false:=aYp U;have hd2:decide (1099511627776<b)=false:=aYp U;have HB:=aYl hb;clear hP ht hsm hv hg hb;go_enter Tryz.func10,Tryz.ntmps10;go_wp2_with fail;have HE:=aYl ((Ext.refl w).alloc' (.cells #[.slice A t.length c] 25));have HB0:=aYl (Blk.new w 25 #[.slice A t.length c]);have hsz:w.heap.size+1<=(w.alloc (.cells #[.slice A t.length c] 25)).heap.size:=by simp
 generalize w.alloc (.cells #[.slice A t.length c] 25)=W at *;refine (HV.out _ HE.out).mono ?_;rintro e w1 ⟨rfl,hx1⟩;have HX1:=aYl (HE.out.trans' hx1);have HB1:=aYl (HB0.out.ext hx1);have hs1:=hx1.size;have b1:=HB1.out.cell' (u:=.slice A t.length c) 0 rfl;clear hx1;go_wp2_with fail;refine (HCL.out _ HX1.out).mono ?_;rintro e w2 ⟨A2,c2,rfl,hN,hx2⟩;have HX2:=aYl (HX1.out.trans' hx2);have HB2:=aYl (HB1.out.ext hx2);have b2:=HB2.out.cell' (u:=.slice A t.length c) 0 rfl;have f2:=HB2.out.frozen 0;have HN:=aYl hN;clear hx2 b1 hN;go_upto_region 7 with fail;have HX3:=aYl (show Ext w (w2.setCell ⟨w.heap.size,0,none⟩ (.slice A2 t.length c2)) from HX2.out.setCell' (p:=⟨w.heap.size,0,none⟩) (Nat.le_refl _) _);have HB3:=aYl (HB2.out.set_ 0 (.slice A2 t.length c2));have HN3:=aYl (show Nds (w2.setCell ⟨w.heap.size,0,none⟩ (.slice A2 t.length c2)) (fun k=>w1.heap.size<=k∧k<w2.heap.size) (.slice A2 t.length c2) t from HN.out.carry (aB.set (fun _ _ _=>rfl) _ (by show ¬ w1.heap.size<=w.heap.size;omega)) (fun k hk h=>⟨h,hk⟩));have hs3:w2.heap.size<=(w2.setCell ⟨w.heap.size,0,none⟩ (.slice A2 t.length c2)).heap.size:=by simp [World.setCell]
 generalize w2.setCell ⟨w.heap.size,0,none⟩ (.slice A2 t.length c2)=W3 at *;have b3:=HB3.out.cell' (u:=.slice A2 t.length c2) 0 rfl;have l3:=HB3.out.lt;clear b2 f2
 go_region_held3 (fun w'=>w'.cell? ⟨w.heap.size,0,none⟩=some (.slice A2 t.length c2))
  (first
   | exact aA hx5 ‹_›
   | go_keep)
  (first
   | (go_at_call 44;refine (xY t (fun k=>w1.heap.size<=k∧k<w2.heap.size) _ W3.drew (fun k hk=>by show k<W3.heap.size;omega) (HN3.out.ext (Ext.refl _).drew') HG.out).mono ?_;rintro e w5 ⟨gw,gs,gl,gf,rfl,hW5,hx5,-,-,-,-⟩))
 have HX5:=aYl ((HX3.out.drew').trans' hx5);have hs5:=hx5.size;have HW5:=aYl hW5;clear hW5 hx5 b3;have hs5':W3.heap.size<=w5.heap.size:=hs5
 have HM:=aYl (aPi (B0:=w.heap.size) HW5.out (fun k hk hp=>by
  rcases hp with hp | hp
  ·omega
  ·have hp':W3.heap.size<=k:=hp
   omega) U HB.out HG.out)
 have HXF:=aYl (HX5.out.alloc' (.cells #[.slice A2 t.length c2,.pointer (some ⟨gw,0,none⟩),↑b,.slice none 0 0] 95));go_wp2_with fail;go_ret2;exact ⟨_,_,_,rfl,HM.out,HXF.out⟩
def aFs (L:List GE)(w:World)(e:Ending)(w':World):Prop:=∃ A c,e=.returned (.slice A L.length c)∧Ens w' (fun b=>w.heap.size<=b) (.slice A L.length c) L∧Ext w w'
theorem nW (l:List GE)(P:Nat->Prop)(v:Value)(w:World)(hl:Ens w P v l)(hlen:l.length<=100000)(hF:∀ x ∈ l,x.path.length<=1000):Calls Tryz.prog 106 #[v,.func (.func 103) #[] #[]] w (aFs l w):=by
 have HF:=aYl hF;have HV:=aYl hl;obtain ⟨A,c,e,h1,h2⟩:=Lst.form hl;subst e;clear hl hF
 by_cases h0:l.length=0
 ·have t0:((l.length:Int) == 0)=true:=aYn U
  have hnil:l=[]:=List.eq_nil_of_length_eq_zero h0;subst hnil;clear h0;go_enter Tryz.func106,Tryz.ntmps106;go_wp2_with fail;go_ret;exact ⟨none,0,rfl,⟨none,0,[],rfl,Nat.le_refl _,Y,⟨rfl,fun h=>by simp at h⟩,ey⟩,Ext.refl _⟩
 ·have t0:((l.length:Int) == 0)=false:=aYm U
  clear h0;obtain ⟨i0,hi,hz0,hz1,hz2⟩:=info_parts Tryz.info102
  have hmk:∀ W:World,(Instr.makeSlice 93 (.int .i64 (l.length:Int)) (.int .i64 (l.length:Int))).run Tryz.prog W=.ok (.slice (some ⟨W.heap.size,0,none⟩) l.length l.length) (W.alloc (.cells (madeCells #[.slice none 0 0,.int .i64 0,.int .i64 0,.int .i64 0,.bool false,.int .i64 0] (l.length*6)) 102)):=by
   intro W;have h:=run_make (P:=Tryz.prog) W 93 102 i0 _ Tryz.underlying93 hi hz0 .i64 .i64 (l.length:Int) (l.length:Int) U (Int.le_refl _) cu U;rw [hz1] at h;rw [h]
   rfl
  have hsz:=size_madeCells #[.slice none 0 0,.int .i64 0,.int .i64 0,.int .i64 0,.bool false,.int .i64 0] (l.length*6);generalize madeCells #[.slice none 0 0,.int .i64 0,.int .i64 0,.int .i64 0,.bool false,.int .i64 0] (l.length*6)=mc at *;have HSZ:=aYl hsz;clear hsz hi hz0 hz1 hz2 i0;go_enter Tryz.func106,Tryz.ntmps106;go_wp2_with fail;go_loopw [15] (fun i wr=>aF2 6 REn l w.heap.size 102 w i wr) (fun i _=>l.length - (intOf i).toNat)
  case atStart=>exact uK mc HSZ.out
  case round =>
   obtain ⟨k,cs,hk,rfl,hB,hcl,hR,hx⟩:=hrel;have HB:=aYl hB;have HCL:=aYl hcl;have HR:=aYl hR;have HX:=aYl hx;clear hB hcl hR hx
   by_cases hlt:k<l.length
   ·obtain ⟨b1,o1,A1,d1,rfl,-,hv1,hgc⟩:=(HV.out.ext HX.out).get hlt
    have hsm:=HF.out _ (aF (d:=default) hlt);obtain ⟨x,hgx⟩:∃ x,x=l.getD k default:=⟨_,rfl⟩;have HG:=aYl hgx;rw [<- hgx] at hv1 hgc hsm;have HCX:=aYl (rV x A1 d1 P wr hv1 U);have hkk:(k:Int)<(l.length:Int):=by omega
    have n0:=hgc 0 _ rfl;have n1:=hgc 1 _ rfl;have n2:=hgc 2 _ rfl;have n3:=hgc 3 _ rfl;have n4:=hgc 4 _ rfl;have n5:=hgc 5 _ rfl;rw [Nat.add_zero] at n0;clear hv1 hgx hgc hsm;go_wp2_with fail;refine (HCX.out).mono ?_;rintro e w1 ⟨A2,d2,rfl,hv2,hx2⟩;have hBB:=HB.out.ext hx2;have hcl:=HCL.out;obtain ⟨y0,q0⟩:=hBB.some_ (i:=k*6) U;obtain ⟨y1,q1⟩:=hBB.some_ (i:=k*6+1) U;obtain ⟨y2,q2⟩:=hBB.some_ (i:=k*6+2) U;obtain ⟨y3,q3⟩:=hBB.some_ (i:=k*6+3) U;obtain ⟨y4,q4⟩:=hBB.some_ (i:=k*6+4) U;obtain ⟨y5,q5⟩:=hBB.some_ (i:=k*6+5) U;have f0:=hBB.frozen (k*6);have f1:=hBB.frozen (k*6+1);have f2:=hBB.frozen (k*6+2);have f3:=hBB.frozen (k*6+3);have f4:=hBB.frozen (k*6+4);have f5:=hBB.frozen (k*6+5);have HV2:=aYl hv2;have HX2:=aYl hx2;clear hv2 hx2 hBB hcl n0 n1 n2 n3 n4 n5;go_wp2_with fail;go_roundw
    case rel =>
     have:=HG.out;subst this;exact zJ (w1:=w1) fP default (Nat.le_refl _) hlt HB.out HCL.out HR.out HX.out HX2.out (us:=cD _ A2 d2) ⟨A2,d2,rfl,HV2.out⟩
    case measure=>simp [intOf];omega
   ·obtain rfl:k=l.length:=by omega
    go_wp2_with fail;go_ret;exact ⟨_,_,rfl,aE9 fP (Nat.le_refl _) U HB.out HCL.out HR.out,HX.out⟩
theorem uE (t:List GN)(vn:Value)(b:Int)(L:List GE)(g:CA)(P:Nat->Prop)(ve:Value)(w:World)(h:dO t vn b L g P ve w):Calls Tryz.prog 54 #[.pointer (some ⟨g.c,0,none⟩)] w (aFs L w):=by
 have HC:=aYl (nW L _ ve w h.ens h.few h.short);have c3:=h.cell3;obtain ⟨Al,cl,el,h1,h2⟩:=Lst.form h.ens;subst el;clear h;go_enter Tryz.func54,Tryz.ntmps54;go_wp2_with fail;refine HC.out.mono ?_;rintro e w1 ⟨A1,c1,rfl,hE,hx⟩;have HE:=aYl hE;have HX:=aYl hx;clear hE hx;go_wp2_with fail;go_ret;exact ⟨A1,c1,rfl,HE.out,HX.out⟩
theorem Tryz.info60:(Tryz.prog.info? 60).map (fun i=>(i.zero,i.size,i.bytes))=some (some (.agg #[.slice none 0 0,.int .i64 0,.int .i64 0,.int .i64 0,.bool false,.int .i64 0]),6,64):=aa
def aVi (L:List GE)(B:Nat)(W:World)(v i:Value)(wr:World):Prop :=
 ∃ (k:Nat) (xs:List Value),k<=L.length∧i=↑k∧wr.ownsRow W.heap.size 60 6 v k xs∧RL (REn wr (fun b=>B<=b∧b<W.heap.size)) (L.take k) xs∧Ext W wr
def gP (t:List GN)(n1 n2:Value)(b1 b2:Int)(L1 L2:List GE)(g1 g2:CA)(B:Nat)(w:World):Prop :=
 ∃ P1 v1 P2 v2,oL t n1 b1 L1 g1 P1 v1 B w∧oL t n2 b2 L2 g2 P2 v2 B w∧aCy g1 P1 v1 g2 P2 v2
section
variable {t:List GN}{n1 n2:Value}{b1 b2:Int}{L1 L2:List GE}{g1 g2:CA}{B:Nat}{w w0 w1:World}
theorem gP.swap (h:gP t n1 n2 b1 b2 L1 L2 g1 g2 B w):gP t n2 n1 b2 b1 L2 L1 g2 g1 B w:=by
 obtain ⟨P1,v1,P2,v2,h1,h2,h3⟩:=h;exact ⟨P2,v2,P1,v1,h2,h1,h3.swap⟩
theorem gP.ext (h:gP t n1 n2 b1 b2 L1 L2 g1 g2 B w)(hx:Ext w w1):gP t n1 n2 b1 b2 L1 L2 g1 g2 B w1:=by
 obtain ⟨P1,v1,P2,v2,h1,h2,h3⟩:=h;exact ⟨P1,v1,P2,v2,h1.ext hx,h2.ext hx,h3⟩
theorem gP.two {P1 P2:Nat->Prop}{v1 v2:Value}{C:Nat}(h1:oL t n1 b1 L1 g1 P1 v1 B w0)(hC:w0.heap.size<=C)(hx:Ext w0 w)(h2:oL t n2 b2 L2 g2 P2 v2 C w):gP t n1 n2 b1 b2 L1 L2 g1 g2 B w:=by
 have hBC:B<=C:=by have:=h1.lo g1.c (.inr (.inl rfl));omega
 refine ⟨P1,v1,P2,v2,h1.ext hx,⟨h2.cor,fun k hk=>⟨Nat.le_trans hBC (h2.lo k hk).1,(h2.lo k hk).2⟩⟩,?_,?_⟩
 ·intro k hk hm
  have:=h1.lo k hk;have:=h2.lo k (.inr hm);omega
 ·intro k hk hm
  have:=h1.lo k (.inr hm);have:=h2.lo k hk;omega
def aMb (t:List GN)(n1 n2:Value)(b1 b2:Int)(L1 L2:List GE)(x:GE)(g1 g2:CA)(B:Nat)(w:World)(e:Ending)(w':World):Prop :=
 e=.returned (.tuple #[.bool (uV (aO t) b1 L1 x),.int .i64 (aBd (aO t) x)])∧gP t n1 n2 b1 b2 (qE (aO t) b1 L1 x) L2 g1 g2 B w'∧Fr (fun k=>B<=k) w w'
theorem gP.add (h:gP t n1 n2 b1 b2 L1 L2 g1 g2 B w0)(hx:Ext w0 w){Pp:Nat->Prop}{vp:Value}{path:List Int}(hp:aU w Pp vp path)(hPp:∀ i,Pp i->i<B∨w0.heap.size<=i)(k a c:Int)(f:Bool)
  (hk:I64 k)(ha:I64 a)(hc:I64 c)(hfew:L1.length+1<=100000)(hpl:path.length<=1000) :
  Calls Tryz.prog 12 #[.pointer (some ⟨g1.c,0,none⟩),vp,aAg k a c,.bool f] w (aMb t n1 n2 b1 b2 L1 L2 (mkE path k a c f) g1 g2 B w):=by
 obtain ⟨P1,v1,P2,v2,h1,h2,h3⟩:=h;refine (aFi t n1 b1 L1 g1 P1 Pp v1 vp path k a c f w (h1.ext hx).cor hp (fun i hi hm=>?_) hk ha hc hfew hpl).mono ?_
 ·have:=h1.lo i (.inr hm)
  have:=hPp i hi;omega
 ·rintro e w' ⟨rfl,hA⟩
  obtain ⟨Q1,u1,m1,m2,m3,m4⟩:=(h1.ext hx).other (h2.ext hx) h3 hA;exact ⟨rfl,⟨Q1,u1,P2,v2,m1,m2,m3⟩,m4⟩
theorem gP.bytes (h:gP t n1 n2 b1 b2 L1 L2 g1 g2 B w):Calls Tryz.prog 15 #[.pointer (some ⟨g1.c,0,none⟩)] w (dV (.int .i64 (dF L1)) w):=by
 obtain ⟨P1,v1,P2,v2,h1,h2,h3⟩:=h;exact xF t n1 b1 L1 g1 P1 v1 w h1.cor
theorem gP.has (h:gP t n1 n2 b1 b2 L1 L2 g1 g2 B w){Pp:Nat->Prop}{vp:Value}{path:List Int}(hp:aU w Pp vp path):Calls Tryz.prog 19 #[.pointer (some ⟨g1.c,0,none⟩),vp] w (dV (.bool (fT path L1)) w):=by
 obtain ⟨P1,v1,P2,v2,h1,h2,h3⟩:=h;exact zB t n1 b1 L1 g1 P1 Pp v1 vp path w h1.cor hp
theorem gP.entriesOf (h:gP t n1 n2 b1 b2 L1 L2 g1 g2 B w):Calls Tryz.prog 54 #[.pointer (some ⟨g1.c,0,none⟩)] w (aFs L1 w):=by
 obtain ⟨P1,v1,P2,v2,h1,h2,h3⟩:=h;exact uE t n1 b1 L1 g1 P1 v1 w h1.cor
end
end Go.Proofs.YtkoeecdjijfjnaaGreat
