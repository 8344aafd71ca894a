/- The contract of Add. Conditions: none. Before it: The contract of join. Conditions: none. One entry of a corpus is cut. Conditions: none. The contract of cut. Conditions: none. -/
import Derived.BigRegion
import Derived.Deep.RegionHeld3
import Derived.Test.YtkoeecdjijfjnaaGreatQ1
import Derived.Test.YtkoeecdjijfjnaaGreatK6
namespace Go.Proofs.YtkoeecdjijfjnaaGreat
open Go.RowKit
def RetJoin (t:List GN)(vn:Value)(b:Int)(L:List GE)(x:GE)(g:CA)(P:Nat→Prop)(ve:Value)(w:World)(e:Ending)(w':World):Prop :=
 e=.returned (.bool (!hasE x.path L))∧After t vn b (joinE L x) g P ve w w'
theorem own_ext {w w':World}{ve:Value}{n:Nat}{xs:List Value}(h:w.ownsRow 0 102 6 ve n xs)(hx:Ext w w'):w'.ownsRow 0 102 6 ve n xs:=by
 refine ⟨h.1,?_⟩
 rcases h.2 with h3 | ⟨G,cap,cur,h4,h5,h6,h7⟩
 ·exact .inl h3
 ·exact .inr ⟨G,cap,cur,h4,h5,(hx.block G (Blk.lt (t:=102) h6)).trans h6,h7⟩
theorem own_form {w:World}{ve:Value}{n:Nat}{xs:List Value}(h:w.ownsRow 0 102 6 ve n xs):∃ A m c,ve=.slice A m c:=by
 rcases h.2 with ⟨h3,_⟩ | ⟨G,cap,cur,h4,_⟩
 ·exact ⟨_,_,_,h3⟩
 ·exact ⟨_,_,_,h4⟩
theorem ins_call {t:List GN}{vn:Value}{b:Int}{L:List GE}{g:CA}{P:Nat→Prop}{ve:Value}{w w2 w3:World}(x:GE)(h:CorAt t vn b L g P ve w)(hno:hasE x.path L=false)(hX2:Ext w w2)(hX3:Ext w w3)(A3:Option Addr)(d3:Nat)(hE3:EAt w3 (fun k=>w2.heap.size≤k) x A3 d3)
  (hfew:L.length+1≤100000)(hpl:x.path.length≤1000) :
  Calls Tryz.prog 102 #[ve,.int .i64 (findE x.path L),.slice (some ⟨w3.heap.size,0,none⟩) 1 1] (w3.alloc (.cells #[.slice A3 x.path.length d3,.int .i64 x.kind,.int .i64 x.at_,.int .i64 x.code,.bool x.fresh,.int .i64 x.hits] 102))
   (fun e w4=>∃ A4 n4 c4,e=.returned (.slice A4 n4 c4)∧w4.cell? ⟨g.c,3,none⟩=some ve∧w4.frozen? ⟨g.c,3,none⟩=false∧After t vn b (joinE L x) g P ve w (w4.setCell ⟨g.c,3,none⟩ (.slice A4 n4 c4))):=by
 obtain ⟨xs,ho,hr,h1⟩:=h.one
 have hx1:Ext w (w3.alloc (.cells #[.slice A3 x.path.length d3,.int .i64 x.kind,.int .i64 x.at_,.int .i64 x.code,.bool x.fresh,.int .i64 x.hits] 102)):=hX3.alloc' _
 have hV:=Blk.new w3 102 (ecells x A3 d3).toArray
 refine (insert_any ve L.length (findE x.path L) w3.heap.size 1 102 xs (ecells x A3 d3) _ (own_ext ho hx1) hV (fun e=>by have:=ownLt ho e.symm;have:=hX3.size;omega) rfl (findE_le _ _) (by omega) h1 (by
  intro u hu
  simp only [ecells,List.mem_cons,List.not_mem_nil,or_false] at hu
  rcases hu with rfl | rfl | rfl | rfl | rfl | rfl <;> rfl)).mono ?_
 rintro e w4 ⟨v4,rfl,ho4,hF4,hb4⟩
 obtain ⟨A4,n4,c4,rfl⟩:=own_form ho4
 have hlt:=h.box.lt
 have hbox:Blk w4 g.c 95 #[vn,.pointer (some ⟨g.w,0,none⟩),.int .i64 b,ve]:=(hF4.block _ (Nat.lt_of_lt_of_le hlt hx1.size) h.ne).trans ((hx1.block _ hlt).trans h.box)
 refine ⟨A4,n4,c4,rfl,hbox.cell' 3 rfl,hbox.frozen 3,?_⟩
 exact CorAt.inserted x h hno hx1 A3 d3 ((hE3.ext ((Ext.refl w3).alloc' _)).carry (fun _ _ _=>rfl) (fun k _ hk=>Nat.le_trans hX2.size hk)) xs ho hr _ ho4 hF4 hb4 hfew hpl
set_option maxRecDepth 100000 in
set_option maxHeartbeats 4000000 in
theorem join_any (t:List GN)(vn:Value)(b:Int)(L:List GE)(g:CA)(P Q:Nat→Prop)(ve:Value)(x:GE)(A:Option Addr)(c:Nat)(w:World)(h:CorAt t vn b L g P ve w)(hx:EAt w Q x A c)(hfew:L.length+1≤100000)(hpl:x.path.length≤1000) :
  Calls Tryz.prog 48 #[.pointer (some ⟨g.c,0,none⟩),eagg x A c] w (RetJoin t vn b L x g P ve w):=by
 have HC:=Lib.hid (fun (W:World) (hE:Ext w W)=>place_any L x A c _ Q ve W (h.ext hE).ens (hx.ext hE) h.inc (by omega))
 have H:=Lib.hid h
 have HX:=Lib.hid hx
 have HFL:=Lib.hid (findE_le x.path L)
 clear h hx
 generalize hfe:findE x.path L=f at *
 generalize hhe:hasE x.path L=hb at *
 have HFE:=Lib.hid hfe
 have HHE:=Lib.hid hhe
 clear hfe hhe
 go_enter Tryz.func48,Tryz.ntmps48
 go_upto_region 1 with fail
 have HE:=Lib.hid ((Ext.refl w).alloc' (.cells #[.slice A x.path.length c,.int .i64 x.kind,.int .i64 x.at_,.int .i64 x.code,.bool x.fresh,.int .i64 x.hits] 102))
 have HB:=Lib.hid (Blk.new w 102 #[.slice A x.path.length c,.int .i64 x.kind,.int .i64 x.at_,.int .i64 x.code,.bool x.fresh,.int .i64 x.hits])
 generalize w.alloc (.cells #[.slice A x.path.length c,.int .i64 x.kind,.int .i64 x.at_,.int .i64 x.code,.bool x.fresh,.int .i64 x.hits] 102)=W at *
 have c3:=(H.out.ext HE.out).cell3
 obtain ⟨x0,x1,x2,x3,x4,x5⟩:=cells_of_blk6 HB.out
 go_region_held3 (fun w'=>w'.cell? ⟨g.c,3,none⟩=some ve∧w'.cell? ⟨w.heap.size,0,none⟩=some (.slice A x.path.length c)∧w'.cell? ⟨w.heap.size,1,none⟩=some (.int .i64 x.kind)∧w'.cell? ⟨w.heap.size,2,none⟩=some (.int .i64 x.at_)∧w'.cell? ⟨w.heap.size,3,none⟩=some (.int .i64 x.code)∧w'.cell? ⟨w.heap.size,4,none⟩=some (.bool x.fresh)∧w'.cell? ⟨w.heap.size,5,none⟩=some (.int .i64 x.hits))
  (first
   | go_keep
   | (go_split_ands
      exact ⟨cell_ext hx2 ‹_›,cell_ext hx2 ‹_›,cell_ext hx2 ‹_›,cell_ext hx2 ‹_›,cell_ext hx2 ‹_›,cell_ext hx2 ‹_›,cell_ext hx2 ‹_›⟩))
  (first
   | (go_at_call 55;refine (HC.out _ HE.out.drew').mono ?_;rintro e w2 ⟨rfl,hx2⟩))
 have HX2:=Lib.hid (HE.out.drew'.trans' hx2)
 have HB2:=Lib.hid (HB.out.drew.ext hx2)
 clear hx2 c3 x0 x1 x2 x3 x4 x5
 cases hb with
 | true =>
  obtain ⟨G,cap,rfl,hc1,hc2,hf,A1,d1,hE1,hcell,hfz,hCor⟩:=CorAt.touch x HHE.out (H.out.ext HX2.out) (wrap_I64 _)
  rw [HFE.out] at hf hE1 hcell hCor
  have c3:=(H.out.ext HX2.out).cell3
  obtain ⟨x0,x1,x2,x3,x4,x5⟩:=cells_of_blk6 HB2.out
  generalize L.getD f default=y at *
  have g4:=hcell 4 _ rfl
  have g5:=hcell 5 _ rfl
  have z4:=hfz (f*6+4)
  have z5:=hfz (f*6+5)
  have HT:=Lib.hid hCor
  have hGw:G<w.heap.size:=by have:=H.out.own;obtain ⟨xs,h1,-⟩:=this;exact ownLt h1 rfl
  have hGc:g.c ≠ G:=fun e=>H.out.ne (by rw [e];rfl)
  have hcw:=H.out.box.lt
  have hn1:¬ w.heap.size=G:=by omega
  have hn2:¬ G=w.heap.size:=by omega
  have hn3:¬ G=g.c:=fun e=>hGc e.symm
  clear hcell hfz hCor hE1
  go_wp2_with fail
  go_region
  have HT3:=Lib.hid (show CorAt t vn b (joinE L x) g P (.slice (some ⟨G,0,none⟩) L.length cap) (((w2.setCell ⟨G,f*6+5,none⟩ (.int .i64 (wrap64 (y.hits+x.hits)))).drew).setCell ⟨G,f*6+4,none⟩ (.bool (y.fresh || x.fresh))) from HT.out.ext (Ext.refl _).drew')
  have HF3:=Lib.hid (show Fr (g.M (.slice (some ⟨G,0,none⟩) L.length cap)) w ((w2.setCell ⟨G,f*6+5,none⟩ (.int .i64 (wrap64 (y.hits+x.hits)))).drew) from ((Fr.of_ext HX2.out).setCell (p:=⟨G,f*6+5,none⟩) (.inl (.inr rfl)) _).drew)
  have d3:((w2.setCell ⟨G,f*6+5,none⟩ (.int .i64 (wrap64 (y.hits+x.hits)))).drew).cell? ⟨g.c,3,none⟩=some (.slice (some ⟨G,0,none⟩) L.length cap):=(World.cell?_setCell_far w2 ⟨G,f*6+5,none⟩ ⟨g.c,3,none⟩ _ hn3).trans c3
  have e4:((w2.setCell ⟨G,f*6+5,none⟩ (.int .i64 (wrap64 (y.hits+x.hits)))).drew).cell? ⟨w.heap.size,4,none⟩=some (.bool x.fresh):=(World.cell?_setCell_far w2 ⟨G,f*6+5,none⟩ ⟨w.heap.size,4,none⟩ _ hn2).trans x4
  have f4:((w2.setCell ⟨G,f*6+5,none⟩ (.int .i64 (wrap64 (y.hits+x.hits)))).drew).cell? ⟨G,f*6+4,none⟩=some (.bool y.fresh):=(World.cell?_setCell_other w2 ⟨G,f*6+5,none⟩ ⟨G,f*6+4,none⟩ _ (fun e=>by have:=congrArg Addr.off e;simp at this)).trans g4
  have q4:((w2.setCell ⟨G,f*6+5,none⟩ (.int .i64 (wrap64 (y.hits+x.hits)))).drew).frozen? ⟨G,f*6+4,none⟩=false:=by simpa using z4
  generalize (w2.setCell ⟨G,f*6+5,none⟩ (.int .i64 (wrap64 (y.hits+x.hits)))).drew=W3 at *
  clear c3 x0 x1 x2 x3 x4 x5 g4 g5 z4 z5 HT
  generalize y.fresh=yf at *
  cases yf with
  | false =>
   simp only [Bool.false_or] at HT3
   go_wp2_with fail
   go_region
   have HR:=Lib.hid (show After t vn b (joinE L x) g P (.slice (some ⟨G,0,none⟩) L.length cap) w (W3.setCell ⟨G,f*6+4,none⟩ (.bool x.fresh)).drew from ⟨P,_,HT3.out.ext (Ext.refl _).drew',fun k hk=>.inl hk,(HF3.out.setCell (p:=⟨G,f*6+4,none⟩) (.inl (.inr rfl)) _).drew,.inl rfl⟩)
   generalize (W3.setCell ⟨G,f*6+4,none⟩ (.bool x.fresh)).drew=W4 at *
   go_wp2_with fail
   go_ret
   exact ⟨by rw [HHE.out];rfl,HR.out⟩
  | true =>
   simp only [Bool.true_or] at HT3
   go_wp2_with fail
   go_region
   have HR:=Lib.hid (show After t vn b (joinE L x) g P (.slice (some ⟨G,0,none⟩) L.length cap) w (W3.setCell ⟨G,f*6+4,none⟩ (.bool true)).drew from ⟨P,_,HT3.out.ext (Ext.refl _).drew',fun k hk=>.inl hk,(HF3.out.setCell (p:=⟨G,f*6+4,none⟩) (.inl (.inr rfl)) _).drew,.inl rfl⟩)
   generalize (W3.setCell ⟨G,f*6+4,none⟩ (.bool true)).drew=W4 at *
   go_wp2_with fail
   go_ret
   exact ⟨by rw [HHE.out];rfl,HR.out⟩
 | false =>
  have HIN:=Lib.hid (fun (w3:World) A3 d3 hX3 hE3=>ins_call (w2:=w2.drew) (w3:=w3) x H.out HHE.out HX2.out.drew' hX3 A3 d3 hE3 hfew hpl)
  rw [HFE.out] at HIN
  have HCP:=Lib.hid (fun (W:World) (hE:Ext w W)=>copied_any x A c Q W (HX.out.ext hE) (by omega))
  have c3:=(H.out.ext HX2.out).cell3
  obtain ⟨x0,x1,x2,x3,x4,x5⟩:=cells_of_blk6 HB2.out
  have hcw:=H.out.box.lt
  have hfl:=HFL.out
  obtain ⟨Av,n0,cv,rfl⟩:∃ Av n0 cv,ve=.slice Av n0 cv:=by
   obtain ⟨xs,ho,-,-⟩:=H.out.one
   exact own_form ho
  go_wp2_with fail
  go_region_with (first
   | (go_at_call 103;refine (HCP.out _ HX2.out.drew').mono ?_;rintro e w3 ⟨A3,d3,rfl,hE3,hx3⟩;have k3:=cell_ext hx3 c3;have lk:=lt_of_cell k3;have HE3:=Lib.hid hE3;have HX3:=Lib.hid (HX2.out.drew'.trans' hx3);clear hE3 hx3)
   | (go_at_call 102;refine (HIN.out w3 A3 d3 HX3.out HE3.out).mono ?_;rintro e w4 ⟨A4,n4,c4,rfl,k4,q4,hA4⟩;have HA4:=Lib.hid hA4;clear hA4))
  all_goals
   generalize w4.setCell ⟨g.c,3,none⟩ (.slice A4 n4 c4)=W5 at *
   go_wp2_with fail
   go_ret
   exact ⟨by rw [HHE.out];rfl,HA4.out⟩
theorem del_call {t:List GN}{vn:Value}{b:Int}{L:List GE}{g:CA}{P:Nat→Prop}{ve:Value}{w:World}(i:Nat)(hi:i<L.length)(h:CorAt t vn b L g P ve w) :
  Calls Tryz.prog 104 #[ve,.int .i64 i,.int .i64 ((i:Int)+1)] w
   (fun e w4=>∃ A4 n4 c4,e=.returned (.slice A4 n4 c4)∧w4.cell? ⟨g.c,3,none⟩=some ve∧w4.frozen? ⟨g.c,3,none⟩=false∧(Value.slice A4 n4 c4).ownBlock=ve.ownBlock ∧
    Fr (g.M ve) w (w4.setCell ⟨g.c,3,none⟩ (.slice A4 n4 c4))∧CorAt t vn b (L.eraseIdx i) g P (.slice A4 n4 c4) (w4.setCell ⟨g.c,3,none⟩ (.slice A4 n4 c4))):=by
 obtain ⟨xs,ho,hr,h1⟩:=h.one
 have hfew:=h.few
 rcases ho with ⟨hxl,⟨h2,h3⟩ | ⟨G,cap,cur,rfl,-,h3,h4,h5,h6,h7⟩⟩
 ·omega
 have hB:Blk w G 102 cur.toList.toArray:=by unfold Blk;simpa using h3
 have hcl:cur.toList.length=cap*6:=by simpa using h6
 have h63:cap≤9223372036854775807:=by unfold maxLen at h5;omega
 refine (delete_any G L.length cap i cur.toList w hB hcl h4 hi hfew h63 (by rw [h7];exact h1)).mono ?_
 rintro e w4 ⟨rfl,cur',hB',hl',ht',hF⟩
 have hlt:=h.box.lt
 have hgG:g.c ≠ G:=fun e=>h.ne (by rw [e];rfl)
 have hbox:Blk w4 g.c 95 #[vn,.pointer (some ⟨g.w,0,none⟩),.int .i64 b,.slice (some ⟨G,0,none⟩) L.length cap]:=(hF.block _ hlt hgG).trans h.box
 have hB3:=hbox.set_ 3 (.slice (some ⟨G,0,none⟩) (L.length - 1) cap)
 have hfr:∀ k,k ≠ g.c→(w4.setCell ⟨g.c,3,none⟩ (.slice (some ⟨G,0,none⟩) (L.length - 1) cap)).heap[k]?=w4.heap[k]?:=fun k hk=>Below.heap_setCell _ _ _ _ (fun e=>hk e)
 have hFF:Fr (g.M (.slice (some ⟨G,0,none⟩) L.length cap)) w (w4.setCell ⟨g.c,3,none⟩ (.slice (some ⟨G,0,none⟩) (L.length - 1) cap)):=by
  have h1:Fr (g.M (.slice (some ⟨G,0,none⟩) L.length cap)) w w4:=⟨hF.os,hF.tape,hF.output,hF.size,fun k hk hm=>hF.block k hk (fun e=>hm (.inr (by rw [e];rfl)))⟩
  exact h1.setCell (p:=⟨g.c,3,none⟩) (.inl (.inl rfl)) _
 refine ⟨_,_,_,rfl,hbox.cell' 3 rfl,hbox.frozen 3,rfl,hFF,?_⟩
 have hB4:Blk (w4.setCell ⟨g.c,3,none⟩ (.slice (some ⟨G,0,none⟩) (L.length - 1) cap)) G 102 cur'.toArray:=(hfr G (fun e=>hgG e.symm)).trans hB'
 generalize w4.setCell ⟨g.c,3,none⟩ (.slice (some ⟨G,0,none⟩) (L.length - 1) cap)=W at *
 have hkP:Keeps P w W:=fun k hk hp=>hFF.block k hk (fun hm=>by
  rcases hm with hm | hm
  ·exact (h.excl k hp).1 hm
  ·exact (h.excl k hp).2 hm)
 have hle:(L.eraseIdx i).length=L.length - 1:=by rw [List.length_eraseIdx,if_pos hi]
 have hsub:(L.eraseIdx i).Sublist L:=List.eraseIdx_sublist L i
 have ht2:cur'.take ((L.length - 1)*6)=xs.take (i*6) ++ xs.drop ((i+1)*6):=by
  rw [ht',h7,← h7,List.take_take,Nat.min_eq_left (by omega)]
 refine ⟨hB3,h.walk.carry hkP (fun _ _ h=>h),⟨_,⟨?_,.inr ⟨G,cap,cur'.toArray,by rw [hle],Nat.zero_le _,hB4,by omega,h5,by simpa using hl',rfl⟩⟩,?_⟩,h.excl,h.ne,?_,h.bI,by omega,fun e he=>h.short e (hsub.subset he),h.good⟩
 ·simp only [List.length_take,hle]
  omega
 ·rw [hle]
  show RL (REn W P) (L.eraseIdx i) (cur'.take ((L.length - 1)*6))
  rw [ht2,List.eraseIdx_eq_take_drop_succ]
  have hr':=hr.move elemE hkP (fun _ _ h=>h)
  exact (hr'.take (elemE.len W P) i).append (hr'.drop (elemE.len W P) (i+1))
 ·exact List.Pairwise.sublist (hsub.map GE.path) h.inc
def lenAt (w:World)(a:Addr):Nat:=match w.cell? a with
 | some (.slice _ n _)=>n
 | _=>0
theorem cutF_end {b:Int}{L:List GE}(h:¬ (b<bytesE L∨256<L.length)):∀ n,cutF b n L=L
 | 0=>rfl
 | n+1=>by simp only [cutF];rw [if_neg h]
theorem cutE_step {b:Int}{L:List GE}(h:b<bytesE L∨256<L.length)(h0:0<L.length):cutE b L=cutE b (L.eraseIdx (cutAt L)):=by
 unfold cutE
 have h1:(L.eraseIdx (cutAt L)).length=L.length - 1:=by rw [List.length_eraseIdx,if_pos (cutAt_lt h0)]
 rw [h1]
 generalize hn:L.length - 1=n at *
 rw [show L.length=n+1 by omega]
 simp only [cutF]
 rw [if_pos h]
def CutInv (t:List GN)(vn:Value)(b:Int)(L:List GE)(g:CA)(P:Nat→Prop)(ve:Value)(w wr:World):Prop :=
 ∃ L' A' c',CorAt t vn b L' g P (.slice A' L'.length c') wr∧(Value.slice A' L'.length c').ownBlock=ve.ownBlock∧Fr (g.M ve) w wr∧cutE b L'=cutE b L
def CutIn (L:List GE)(W:World)(k i:Value)(wr:World):Prop:=∃ j m:Nat,i=.int .i64 j∧k=.int .i64 m∧j≤L.length∧m<L.length∧cutFrom j m (L.drop j)=cutAt L∧Ext W wr
def RetCut (t:List GN)(vn:Value)(b:Int)(L:List GE)(g:CA)(P:Nat→Prop)(ve:Value)(w:World)(e:Ending)(w':World):Prop :=
 e=.returned (.tuple #[])∧∃ v',CorAt t vn b (cutE b L) g P v' w'∧v'.ownBlock=ve.ownBlock∧Fr (g.M ve) w w'
set_option maxRecDepth 100000 in
set_option maxHeartbeats 4000000 in
theorem cut_any (t:List GN)(vn:Value)(b:Int)(L:List GE)(g:CA)(P:Nat→Prop)(ve:Value)(w:World)(h:CorAt t vn b L g P ve w) :
  Calls Tryz.prog 49 #[.pointer (some ⟨g.c,0,none⟩)] w (RetCut t vn b L g P ve w):=by
 have HS:Hid (CutInv t vn b L g P ve w w):=Lib.hid (by
  obtain ⟨xs,ho,-⟩:=h.own
  rcases ho.2 with ⟨e,e2⟩ | ⟨G,cap,cur,e,-⟩
  ·refine ⟨L,none,0,?_,by rw [e];rfl,Fr.refl _ w,rfl⟩
   rw [e2,← e];exact h
  ·refine ⟨L,_,cap,by rw [← e];exact h,by rw [← e],Fr.refl _ w,rfl⟩)
 clear h
 go_enter Tryz.func49,Tryz.ntmps49
 go_wp2_with fail
 go_loopw [] (fun wr=>CutInv t vn b L g P ve w wr) (fun wr=>lenAt wr ⟨g.c,3,none⟩)
 case atStart=>exact HS.out
 case round =>
  obtain ⟨L1,A1,d1,hC,hob,hF,hcut⟩:=hrel
  have HC:=Lib.hid hC
  have HOB:=Lib.hid hob
  have HF:=Lib.hid hF
  have HCU:=Lib.hid hcut
  have HBY:=Lib.hid (fun (W:World) (hE:Ext wr W)=>bytes_any t vn b L1 g P _ W (hC.ext hE))
  have c3:=hC.cell3
  have c2:wr.cell? ⟨g.c,2,none⟩=some (.int .i64 b):=hC.box.cell' 2 rfl
  have hfew:=hC.few
  have hbI:=hC.bI
  clear hC hob hF hcut
  have HD:=Lib.hid (show (b<bytesE L1∨256<L1.length) ↔ (decide (b<bytesE L1) || decide (256<L1.length))=true by simp)
  generalize hs:bytesE L1=s at *
  have HSS:=Lib.hid hs
  clear hs
  have HL0:=Lib.hid (show lenAt wr ⟨g.c,3,none⟩=L1.length by unfold lenAt;rw [c3])
  have k2:=ExtW.cell c2
  have k3:=ExtW.cell c3
  go_upto_region 0 with fail
  go_cut [19] from 5 to 51 (fun s1 wx=>s1=.bool (decide (b<s) || decide (256<L1.length))∧Ext wr wx)
  case first =>
   by_cases hb:b<s
   ·have hd:decide (b<s)=true:=decide_eq_true hb
    refine wp_region_ext (by kernel_rfl) (by kernel_rfl) ?_
    repeat (go_big_quiet_step (exact ext_of (HBY.out _ (ExtW.h _))))
    refine wpQuiet_nil ?_
    intro _ hw'
    obtain ⟨⟨wq,hq⟩,rfl⟩:=hw'
    go_wp2_with fail
    go_meet
    exact ⟨by simp [hd],hq⟩
   ·have hd:decide (b<s)=false:=decide_eq_false hb
    refine wp_region_ext (by kernel_rfl) (by kernel_rfl) ?_
    repeat (go_big_quiet_step (exact ext_of (HBY.out _ (ExtW.h _))))
    refine wpQuiet_nil ?_
    intro _ hw'
    obtain ⟨⟨wq,hq⟩,rfl⟩:=hw'
    go_wp2_with fail
    go_meet
    exact ⟨by rw [hd,Bool.false_or];exact congrArg Value.bool (decide_eq_decide.2 (by omega)),hq⟩
  case rest =>
   obtain ⟨rfl,hxc⟩:=hcut
   have HC2:=Lib.hid (HC.out.ext hxc)
   have HF2:=Lib.hid (HF.out.trans (Fr.of_ext hxc))
   have c3c:=cell_ext hxc c3
   clear hxc c2 c3 k2 k3 HC HF HBY
   by_cases hcc:b<s∨256<L1.length
   ·have HCC:=Lib.hid hcc
    have hd:(decide (b<s) || decide (256<L1.length))=true:=HD.out.1 hcc
    rw [hd]
    have hpos:0<L1.length:=by
     rcases hcc with h | h
     ·cases L1 with
      | nil=>have:=HSS.out;simp [bytesE] at this;omega
      | cons _ _=>simp
     ·omega
    clear hd hcc
    have hle:=(Lst.form HC2.out.ens)
    obtain ⟨A9,c9,e9,h91,h92⟩:=hle
    injection e9 with e91 _ e92
    subst e91 e92
    have HEN:=Lib.hid HC2.out.ens
    go_wp2_with fail
    go_loopw [2,31] (fun k i wx=>CutIn L1 wc k i wx) (fun _ i _=>L1.length - (intOf i).toNat)
    case atStart=>exact ⟨0,L1.length - 1,rfl,by go_num,Nat.zero_le _,by omega,rfl,Ext.refl _⟩
    case round =>
     obtain ⟨j,m,rfl,rfl,hj,hm,hcf,hx⟩:=hrel
     have HCF:=Lib.hid hcf
     have HX:=Lib.hid hx
     clear hcf hx
     by_cases hlt:j<L1.length
     ·obtain ⟨b1,o1,A2,d2,rfl,-,hv1,hgc⟩:=(HEN.out.ext HX.out).get hlt
      have HD1:=Lib.hid (show cutFrom (j+1) (if (L1.getD j default).fresh then m else j) (L1.drop (j+1))=cutAt L1 by rw [← HCF.out,drop_getD default hlt];rfl)
      generalize L1.getD j default=y at *
      have g0:=hgc 0 _ rfl
      have g1:=hgc 1 _ rfl
      have g2:=hgc 2 _ rfl
      have g3:=hgc 3 _ rfl
      have g4:=hgc 4 _ rfl
      have g5:=hgc 5 _ rfl
      rw [Nat.add_zero] at g0
      clear hgc hv1
      generalize y.fresh=yf at *
      cases yf with
      | false =>
       go_wp2_with fail
       go_roundw
       case rel=>exact ⟨j+1,j,by go_num,rfl,by omega,by omega,by simpa using HD1.out,HX.out.alloc' _⟩
       case measure=>simp [intOf];omega
      | true =>
       go_wp2_with fail
       go_roundw
       case rel=>exact ⟨j+1,m,by go_num,rfl,by omega,by omega,by simpa using HD1.out,HX.out.alloc' _⟩
       case measure=>simp [intOf];omega
     ·have hjl:j=L1.length:=by omega
      have HCA:=Lib.hid (show m=cutAt L1 by rw [← HCF.out,drop_nil (by omega)];rfl)
      have HDC:=Lib.hid (del_call m hm (HC2.out.ext HX.out))
      have c3r:=cell_ext HX.out c3c
      clear hjl
      go_wp2_with fail
      refine HDC.out.mono ?_
      rintro e w4 ⟨A4,n4,c4,rfl,q3,q4,hob4,hF4,hC4⟩
      have hn4:n4=(L1.eraseIdx m).length:=by
       obtain ⟨A8,c8,e8,-,-⟩:=Lst.form hC4.ens
       injection e8
      subst hn4
      have HC4:=Lib.hid hC4
      have HF4:=Lib.hid hF4
      have HO4:=Lib.hid hob4
      clear hob4 hF4 hC4 c3r
      go_wp2_with fail
      go_roundw
      case rel =>
       refine ⟨L1.eraseIdx m,A4,c4,HC4.out,HO4.out.trans HOB.out,(HF2.out.trans (Fr.of_ext HX.out)).trans (HF4.out.mono (fun k hk=>hk.elim .inl (fun h=>.inr (by rw [h,HOB.out])))),?_⟩
       rw [HCA.out,← cutE_step (by rw [HSS.out];exact HCC.out) hpos]
       exact HCU.out
      case measure =>
       rw [HL0.out]
       unfold lenAt
       rw [HC4.out.cell3,List.length_eraseIdx,if_pos hm]
       show L1.length - 1<L1.length
       omega
   ·have hd:(decide (b<s) || decide (256<L1.length))=false:=by
     cases hh:(decide (b<s) || decide (256<L1.length))
     ·rfl
     ·exact absurd (HD.out.2 hh) hcc
    rw [hd]
    have HR:=Lib.hid (show RetCut t vn b L g P ve w (.returned (.tuple #[])) wc from ⟨rfl,_,by
     rw [← HCU.out]
     unfold cutE
     rw [cutF_end (by rw [HSS.out];exact hcc)]
     exact HC2.out,HOB.out,HF2.out⟩)
    clear hd hcc
    go_wp2_with fail
    exact bodyPost_ret (v:=.tuple #[]) (by simp [results,Tryz.results49,go_sem]) rfl HR.out
abbrev ragg (k a c:Int):Value:=.agg #[.int .i64 k,.int .i64 a,.int .i64 c,.slice none 0 0,.slice none 0 0,.int .i64 0]
def mkE (path:List Int)(k a c:Int)(f:Bool):GE:=⟨path,k,a,c,f,1⟩
def RetAdd (t:List GN)(vn:Value)(b:Int)(L:List GE)(x:GE)(g:CA)(P:Nat→Prop)(ve:Value)(w:World)(e:Ending)(w':World):Prop :=
 e=.returned (.tuple #[.bool (addB (wholeB t) b L x),.int .i64 (addI (wholeB t) x)])∧After t vn b (addE (wholeB t) b L x) g P ve w w'
section
variable {t:List GN}{vn:Value}{b:Int}{L L':List GE}{g:CA}{P:Nat→Prop}{ve:Value}{w w1 w2:World}
theorem After.of_ext (hx:Ext w w1)(h:After t vn b L' g P ve w1 w2):After t vn b L' g P ve w w2:=by
 obtain ⟨P',v',h1,h2,h3,h4⟩:=h
 have hs:=hx.size
 refine ⟨P',v',h1,fun k hk=>(h2 k hk).elim .inl (fun h=>.inr (by omega)),(Fr.of_ext hx).trans h3,h4.elim .inl (fun ⟨k,h5,h6⟩=>.inr ⟨k,h5,by omega⟩)⟩
theorem After.ext (h:After t vn b L' g P ve w w1)(hx:Ext w1 w2):After t vn b L' g P ve w w2:=by
 obtain ⟨P',v',h1,h2,h3,h4⟩:=h
 exact ⟨P',v',h1.ext hx,h2,h3.trans (Fr.of_ext hx),h4⟩
theorem After.none (h:CorAt t vn b L g P ve w)(hx:Ext w w1):After t vn b L g P ve w w1:=⟨P,ve,h.ext hx,fun _ h=>.inl h,Fr.of_ext hx,.inl rfl⟩
end
set_option maxRecDepth 100000 in
set_option maxHeartbeats 2000000 in
theorem add_any (t:List GN)(vn:Value)(b:Int)(L:List GE)(g:CA)(P Pp:Nat→Prop)(ve vp:Value)(path:List Int)(k a c:Int)(f:Bool)(w:World)(h:CorAt t vn b L g P ve w)(hp:Ints w Pp vp path)(hPp:∀ i,Pp i→¬ g.M ve i)
  (hk:I64 k)(ha:I64 a)(hc:I64 c)(hfew:L.length+1≤100000)(hpl:path.length≤1000) :
  Calls Tryz.prog 12 #[.pointer (some ⟨g.c,0,none⟩),vp,ragg k a c,.bool f] w (RetAdd t vn b L (mkE path k a c f) g P ve w):=by
 obtain ⟨Ap,cp,ep,hp1,hp2⟩:=hp.form
 subst ep
 have H:=Lib.hid h
 have HP:=Lib.hid hp
 have HPP:=Lib.hid hPp
 have hlt:=h.box.lt
 have HE1:=Lib.hid (show EAt w Pp (mkE path k a c f) Ap cp from ⟨hp,hk,ha,hc,by simp [mkE,I64]⟩)
 have HEQ:=Lib.hid (show (mkE path k a c f).path=path from rfl)
 have HAE:=Lib.hid (show addE (wholeB t) b L (mkE path k a c f)=if wholeB t path then (if hasE path L then joinE L (mkE path k a c f) else cutE b (joinE L (mkE path k a c f))) else L from rfl)
 have HAB:=Lib.hid (show addB (wholeB t) b L (mkE path k a c f)=if wholeB t path then (if hasE path L then false else hasE path (cutE b (joinE L (mkE path k a c f)))) else false from rfl)
 have HAI:=Lib.hid (show addI (wholeB t) (mkE path k a c f)=if wholeB t path then 0 else 11 from rfl)
 clear h hp hPp
 go_enter Tryz.func12,Tryz.ntmps12
 go_upto_region 1 with fail
 have HE:=Lib.hid ((Ext.refl w).alloc' (.cells #[.int .i64 k,.int .i64 a,.int .i64 c,.slice none 0 0,.slice none 0 0,.int .i64 0] 46))
 have HB:=Lib.hid (Blk.new w 46 #[.int .i64 k,.int .i64 a,.int .i64 c,.slice none 0 0,.slice none 0 0,.int .i64 0])
 generalize w.alloc (.cells #[.int .i64 k,.int .i64 a,.int .i64 c,.slice none 0 0,.slice none 0 0,.int .i64 0] 46)=W at *
 have c1:W.cell? ⟨g.c,1,none⟩=some (.pointer (some ⟨g.w,0,none⟩)):=(H.out.ext HE.out).box.cell' 1 rfl
 have HW:=Lib.hid (whole_any t path vn (.slice Ap path.length cp) g.w g.s g.l g.f P Pp W (H.out.ext HE.out).walk (HP.out.ext HE.out) H.out.good (by omega))
 generalize hwb:wholeB t path=wb at *
 have HWB:=Lib.hid hwb
 clear hwb
 go_upto_region 2 with (go_at_call 47;refine HW.out.mono ?_;rintro e w1 ⟨y,A1,d1,rfl,hx1⟩)
 have HX2:=Lib.hid (show Ext w (w1.alloc (.cells #[.int .i64 y.kind,.int .i64 y.n,.string y.s,.slice A1 y.kids.length d1] 85)) from (HE.out.trans' hx1).alloc' _)
 have HB2:=Lib.hid ((HB.out.ext hx1).alloc (.cells #[.int .i64 y.kind,.int .i64 y.n,.string y.s,.slice A1 y.kids.length d1] 85))
 clear hx1 c1
 generalize w1.alloc (.cells #[.int .i64 y.kind,.int .i64 y.n,.string y.s,.slice A1 y.kids.length d1] 85)=W2 at *
 cases wb with
 | false =>
  go_wp2_with fail
  go_ret2
  refine ⟨?_,?_⟩
  ·rw [HAB.out,HAI.out];rfl
  ·rw [HAE.out];exact After.none H.out HX2.out
 | true =>
  obtain ⟨x0,x1,x2,x3,x4,x5⟩:=cells_of_blk6 HB2.out
  generalize hhe:hasE path L=he at *
  have HHE:=Lib.hid hhe
  clear hhe
  have HJ:=Lib.hid (show Calls Tryz.prog 48 #[.pointer (some ⟨g.c,0,none⟩),.agg #[.slice Ap path.length cp,.int .i64 k,.int .i64 a,.int .i64 c,.bool f,.int .i64 1]] W2 (fun e w'=>e=.returned (.bool (!he))∧After t vn b (joinE L (mkE path k a c f)) g P ve W2 w') from by
   have h:=join_any t vn b L g P Pp ve (mkE path k a c f) Ap cp W2 (H.out.ext HX2.out) (HE1.out.ext HX2.out) hfew hpl
   unfold RetJoin at h
   rw [show hasE (mkE path k a c f).path L=he from HHE.out] at h
   exact h)
  cases he with
  | true =>
   go_wp2_with fail
   refine HJ.out.mono ?_
   rintro e w3 ⟨rfl,hA3⟩
   have HA3:=Lib.hid (After.of_ext HX2.out hA3)
   clear hA3
   simp only [Bool.not_true]
   go_wp2_with fail
   go_ret2
   refine ⟨?_,?_⟩
   ·rw [HAB.out,HAI.out];rfl
   ·rw [HAE.out];exact HA3.out
  | false =>
   go_wp2_with fail
   refine HJ.out.mono ?_
   rintro e w3 ⟨rfl,hA3⟩
   have HA3:=Lib.hid (After.of_ext HX2.out hA3)
   clear hA3
   simp only [Bool.not_false]
   obtain ⟨P',v',h1,h2,h3,h4⟩:=HA3.out
   have hpw:Ints w3 (fun i=>Pp i∧i<w.heap.size) (.slice Ap path.length cp) path:=HP.out.carry (fun i hi hp=>h3.block i hi (HPP.out i hp)) (fun i hi hp=>⟨hp,hi⟩)
   have HC:=Lib.hid (cut_any t vn b _ g P' v' w3 h1)
   have hM:∀ i,i<w.heap.size→g.M v' i→g.M ve i:=fun i hi hm=>by
    rcases hm with hm | hm
    ·exact .inl hm
    ·rcases h4 with h4 | ⟨j,h4,h5⟩
     ·exact .inr (by rw [hm,h4])
     ·rw [h4] at hm;injection hm with hm;omega
   have HM:=Lib.hid hM
   have HPW:=Lib.hid hpw
   have H1:=Lib.hid h1
   have H2:=Lib.hid h2
   have H3:=Lib.hid h3
   have H4:=Lib.hid h4
   clear h1 h2 h3 h4 hpw hM HA3 x0 x1 x2 x3 x4 x5
   go_wp2_with fail
   refine HC.out.mono ?_
   rintro e w4 ⟨rfl,v4,hc4,hob4,hf4⟩
   have HF4:=Lib.hid (show Fr (g.M ve) w w4 from ⟨hf4.os.trans H3.out.os,hf4.tape.trans H3.out.tape,hf4.output.trans H3.out.output,Nat.le_trans H3.out.size hf4.size,fun i hi hn=>(hf4.block i (Nat.lt_of_lt_of_le hi H3.out.size) (fun hm=>hn (HM.out i hi hm))).trans (H3.out.block i hi hn)⟩)
   have HPW4:=Lib.hid (HPW.out.carry (Q:=fun _=>True) (fun i hi hp=>hf4.block i hi (fun hm=>HPP.out i hp.1 (HM.out i hp.2 hm))) (fun _ _ _=>trivial))
   have HC4:=Lib.hid hc4
   have HO4:=Lib.hid hob4
   clear hc4 hob4 hf4
   go_wp2_with fail
   refine (has_any t vn b _ g P' _ v4 _ path w4 HC4.out HPW4.out).mono ?_
   rintro e w5 ⟨rfl,hx5⟩
   have HA5:=Lib.hid (show After t vn b (cutE b (joinE L (mkE path k a c f))) g P ve w w5 from ⟨P',v4,HC4.out.ext hx5,H2.out,HF4.out.trans (Fr.of_ext hx5),by rw [HO4.out];exact H4.out⟩)
   clear hx5
   go_wp2_with fail
   go_ret2
   refine ⟨?_,?_⟩
   ·rw [HAB.out,HAI.out];rfl
   ·rw [HAE.out];exact HA5.out
end Go.Proofs.YtkoeecdjijfjnaaGreat
