/- Contracts of functions, plain laws. Conditions: none. -/
import Derived.BigRegion
import Derived.Deep.RegionHeld3
import Derived.Test.YtkoeecdjijfjnaaGreatLW
import Derived.Test.YtkoeecdjijfjnaaGreatK6
set_option maxRecDepth 100000
set_option maxHeartbeats 8000000
namespace Go.Proofs.YtkoeecdjijfjnaaGreat
open Go.RowKit
def aFi (t:List GN)(vn:Value)(b:Int)(L:List GE)(x:GE)(g:CA)(P:Nat->Prop)(ve:Value)(w:World)(e:Ending)(w':World):Prop :=
 e=.returned (.bool (!gX x.path L))∧jN t vn b (dX L x) g P ve w w'
theorem aNe {w w':World}{ve:Value}{n:Nat}{xs:List Value}(h:w.ownsRow 0 102 6 ve n xs)(hx:Ext w w'):w'.ownsRow 0 102 6 ve n xs:=by
 refine ⟨h.1,?_⟩;rcases h.2 with h3 | ⟨G,cap,cur,h4,h5,h6,h7⟩
 ·exact .inl h3
 ·exact .inr ⟨G,cap,cur,h4,h5,(hx.block G (Blk.lt (t:=102) h6)).trans h6,h7⟩
theorem zK {w:World}{ve:Value}{n:Nat}{xs:List Value}(h:w.ownsRow 0 102 6 ve n xs):∃ A m c,ve=.slice A m c:=by
 rcases h.2 with ⟨h3,_⟩ | ⟨G,cap,cur,h4,_⟩
 ·exact ⟨_,_,_,h3⟩
 ·exact ⟨_,_,_,h4⟩
theorem aHt {t:List GN}{vn:Value}{b:Int}{L:List GE}{g:CA}{P:Nat->Prop}{ve:Value}{w w2 w3:World}(x:GE)(h:dU t vn b L g P ve w)(hno:gX x.path L=false)(hX2:Ext w w2)(hX3:Ext w w3)(A3:Option Addr)(d3:Nat)(hE3:EAt w3 (fun k=>w2.heap.size<=k) x A3 d3)
  (hfew:L.length+1<=100000)(hpl:x.path.length<=1000) :
  Calls Tryz.prog 102 #[ve,.int .i64 (bK x.path L),.slice (some ⟨w3.heap.size,0,none⟩) 1 1] (w3.alloc (.cells #[.slice A3 x.path.length d3,.int .i64 x.kind,.int .i64 x.at_,.int .i64 x.code,.bool x.fresh,.int .i64 x.hits] 102))
   (fun e w4=>∃ A4 n4 c4,e=.returned (.slice A4 n4 c4)∧w4.cell? ⟨g.c,3,none⟩=some ve∧w4.frozen? ⟨g.c,3,none⟩=false∧jN t vn b (dX L x) g P ve w (w4.setCell ⟨g.c,3,none⟩ (.slice A4 n4 c4))):=by
 obtain ⟨xs,ho,hr,h1⟩:=h.one;have hx1:Ext w (w3.alloc (.cells #[.slice A3 x.path.length d3,.int .i64 x.kind,.int .i64 x.at_,.int .i64 x.code,.bool x.fresh,.int .i64 x.hits] 102)):=hX3.alloc' _;have hV:=Blk.new w3 102 (cG x A3 d3).toArray
 refine (aBq ve L.length (bK x.path L) w3.heap.size 1 102 xs (cG x A3 d3) _ (aNe ho hx1) hV (fun e=>by have:=aHi ho e.symm;have:=hX3.size;omega) rfl (kR _ _) (by omega) h1 (by
  intro u hu;simp only [cG,List.mem_cons,List.not_mem_nil,or_false] at hu;rcases hu with rfl | rfl | rfl | rfl | rfl | rfl <;> rfl)).mono ?_
 rintro e w4 ⟨v4,rfl,ho4,hF4,hb4⟩;obtain ⟨A4,n4,c4,rfl⟩:=zK ho4;have hlt:=h.box.lt;have hbox:Blk w4 g.c 95 #[vn,.pointer (some ⟨g.w,0,none⟩),.int .i64 b,ve]:=(hF4.block _ (Nat.lt_of_lt_of_le hlt hx1.size) h.ne).trans ((hx1.block _ hlt).trans h.box);refine ⟨A4,n4,c4,rfl,hbox.cell' 3 rfl,hbox.frozen 3,?_⟩;exact dU.inserted x h hno hx1 A3 d3 ((hE3.ext ((Ext.refl w3).alloc' _)).carry (fun _ _ _=>rfl) (fun k _ hk=>Nat.le_trans hX2.size hk)) xs ho hr _ ho4 hF4 hb4 hfew hpl
theorem aHr (t:List GN)(vn:Value)(b:Int)(L:List GE)(g:CA)(P Q:Nat->Prop)(ve:Value)(x:GE)(A:Option Addr)(c:Nat)(w:World)(h:dU t vn b L g P ve w)(hx:EAt w Q x A c)(hfew:L.length+1<=100000)(hpl:x.path.length<=1000) :
  Calls Tryz.prog 48 #[.pointer (some ⟨g.c,0,none⟩),aEs x A c] w (aFi t vn b L x g P ve w):=by
 have HC:=aV4 (fun (W:World) (hE:Ext w W)=>vZ L x A c _ Q ve W (h.ext hE).ens (hx.ext hE) h.inc (by omega));have H:=aV4 h;have HX:=aV4 hx;have HFL:=aV4 (kR x.path L);clear h hx;generalize hfe:bK x.path L=f at *;generalize hhe:gX x.path L=hb at *;have HFE:=aV4 hfe;have HHE:=aV4 hhe;clear hfe hhe;go_enter Tryz.func48,Tryz.ntmps48;go_upto_region 1 with fail;have HE:=aV4 ((Ext.refl w).alloc' (.cells #[.slice A x.path.length c,.int .i64 x.kind,.int .i64 x.at_,.int .i64 x.code,.bool x.fresh,.int .i64 x.hits] 102));have HB:=aV4 (Blk.new w 102 #[.slice A x.path.length c,.int .i64 x.kind,.int .i64 x.at_,.int .i64 x.code,.bool x.fresh,.int .i64 x.hits]);generalize w.alloc (.cells #[.slice A x.path.length c,.int .i64 x.kind,.int .i64 x.at_,.int .i64 x.code,.bool x.fresh,.int .i64 x.hits] 102)=W at *;have c3:=(H.out.ext HE.out).cell3;obtain ⟨x0,x1,x2,x3,x4,x5⟩:=cH HB.out
 go_region_held3 (fun w'=>w'.cell? ⟨g.c,3,none⟩=some ve∧w'.cell? ⟨w.heap.size,0,none⟩=some (.slice A x.path.length c)∧w'.cell? ⟨w.heap.size,1,none⟩=some (.int .i64 x.kind)∧w'.cell? ⟨w.heap.size,2,none⟩=some (.int .i64 x.at_)∧w'.cell? ⟨w.heap.size,3,none⟩=some (.int .i64 x.code)∧w'.cell? ⟨w.heap.size,4,none⟩=some (.bool x.fresh)∧w'.cell? ⟨w.heap.size,5,none⟩=some (.int .i64 x.hits))
  (first
   | go_keep
   | (go_split_ands
      exact ⟨aB hx2 ‹_›,aB hx2 ‹_›,aB hx2 ‹_›,aB hx2 ‹_›,aB hx2 ‹_›,aB hx2 ‹_›,aB hx2 ‹_›⟩))
  (first
   | (go_at_call 55;refine (HC.out _ HE.out.drew').mono ?_;rintro e w2 ⟨rfl,hx2⟩))
 have HX2:=aV4 (HE.out.drew'.trans' hx2);have HB2:=aV4 (HB.out.drew.ext hx2);clear hx2 c3 x0 x1 x2 x3 x4 x5
 cases hb with
 | true =>
  obtain ⟨G,cap,rfl,hc1,hc2,hf,A1,d1,hE1,hcell,hfz,hCor⟩:=dU.touch x HHE.out (H.out.ext HX2.out) (oD _);rw [HFE.out] at hf hE1 hcell hCor;have c3:=(H.out.ext HX2.out).cell3;obtain ⟨x0,x1,x2,x3,x4,x5⟩:=cH HB2.out;generalize L.getD f default=y at *;have g4:=hcell 4 _ rfl;have g5:=hcell 5 _ rfl;have z4:=hfz (f*6+4);have z5:=hfz (f*6+5);have HT:=aV4 hCor;have hGw:G<w.heap.size:=by have:=H.out.own;obtain ⟨xs,h1,-⟩:=this;exact aHi h1 rfl
  have hGc:g.c ≠ G:=fun e=>H.out.ne (by rw [e];rfl)
  have hcw:=H.out.box.lt;have hn1:¬ w.heap.size=G:=by omega
  have hn2:¬ G=w.heap.size:=by omega
  have hn3:¬ G=g.c:=fun e=>hGc e.symm
  clear hcell hfz hCor hE1;go_wp2_with fail;go_region;have HT3:=aV4 (show dU t vn b (dX L x) g P (.slice (some ⟨G,0,none⟩) L.length cap) (((w2.setCell ⟨G,f*6+5,none⟩ (.int .i64 (wrap64 (y.hits+x.hits)))).drew).setCell ⟨G,f*6+4,none⟩ (.bool (y.fresh || x.fresh))) from HT.out.ext (Ext.refl _).drew');have HF3:=aV4 (show Fr (g.M (.slice (some ⟨G,0,none⟩) L.length cap)) w ((w2.setCell ⟨G,f*6+5,none⟩ (.int .i64 (wrap64 (y.hits+x.hits)))).drew) from ((Fr.of_ext HX2.out).setCell (p:=⟨G,f*6+5,none⟩) (.inl (.inr rfl)) _).drew);have d3:((w2.setCell ⟨G,f*6+5,none⟩ (.int .i64 (wrap64 (y.hits+x.hits)))).drew).cell? ⟨g.c,3,none⟩=some (.slice (some ⟨G,0,none⟩) L.length cap):=(World.cell?_setCell_far w2 ⟨G,f*6+5,none⟩ ⟨g.c,3,none⟩ _ hn3).trans c3;have e4:((w2.setCell ⟨G,f*6+5,none⟩ (.int .i64 (wrap64 (y.hits+x.hits)))).drew).cell? ⟨w.heap.size,4,none⟩=some (.bool x.fresh):=(World.cell?_setCell_far w2 ⟨G,f*6+5,none⟩ ⟨w.heap.size,4,none⟩ _ hn2).trans x4;have f4:((w2.setCell ⟨G,f*6+5,none⟩ (.int .i64 (wrap64 (y.hits+x.hits)))).drew).cell? ⟨G,f*6+4,none⟩=some (.bool y.fresh):=(World.cell?_setCell_other w2 ⟨G,f*6+5,none⟩ ⟨G,f*6+4,none⟩ _ (fun e=>by have:=congrArg Addr.off e;simp at this)).trans g4;have q4:((w2.setCell ⟨G,f*6+5,none⟩ (.int .i64 (wrap64 (y.hits+x.hits)))).drew).frozen? ⟨G,f*6+4,none⟩=false:=by simpa using z4
  generalize (w2.setCell ⟨G,f*6+5,none⟩ (.int .i64 (wrap64 (y.hits+x.hits)))).drew=W3 at *;clear c3 x0 x1 x2 x3 x4 x5 g4 g5 z4 z5 HT;generalize y.fresh=yf at *
  cases yf with
  | false =>
   simp only [Bool.false_or] at HT3;go_wp2_with fail;go_region;have HR:=aV4 (show jN t vn b (dX L x) g P (.slice (some ⟨G,0,none⟩) L.length cap) w (W3.setCell ⟨G,f*6+4,none⟩ (.bool x.fresh)).drew from ⟨P,_,HT3.out.ext (Ext.refl _).drew',fun k hk=>.inl hk,(HF3.out.setCell (p:=⟨G,f*6+4,none⟩) (.inl (.inr rfl)) _).drew,.inl rfl⟩);generalize (W3.setCell ⟨G,f*6+4,none⟩ (.bool x.fresh)).drew=W4 at *;go_wp2_with fail;go_ret;exact ⟨by rw [HHE.out];rfl,HR.out⟩
  | true =>
   simp only [Bool.true_or] at HT3;go_wp2_with fail;go_region;have HR:=aV4 (show jN t vn b (dX L x) g P (.slice (some ⟨G,0,none⟩) L.length cap) w (W3.setCell ⟨G,f*6+4,none⟩ (.bool true)).drew from ⟨P,_,HT3.out.ext (Ext.refl _).drew',fun k hk=>.inl hk,(HF3.out.setCell (p:=⟨G,f*6+4,none⟩) (.inl (.inr rfl)) _).drew,.inl rfl⟩);generalize (W3.setCell ⟨G,f*6+4,none⟩ (.bool true)).drew=W4 at *;go_wp2_with fail;go_ret;exact ⟨by rw [HHE.out];rfl,HR.out⟩
 | false =>
  have HIN:=aV4 (fun (w3:World) A3 d3 hX3 hE3=>aHt (w2:=w2.drew) (w3:=w3) x H.out HHE.out HX2.out.drew' hX3 A3 d3 hE3 hfew hpl);rw [HFE.out] at HIN;have HCP:=aV4 (fun (W:World) (hE:Ext w W)=>sD x A c Q W (HX.out.ext hE) (by omega));have c3:=(H.out.ext HX2.out).cell3;obtain ⟨x0,x1,x2,x3,x4,x5⟩:=cH HB2.out;have hcw:=H.out.box.lt;have hfl:=HFL.out
  obtain ⟨Av,n0,cv,rfl⟩:∃ Av n0 cv,ve=.slice Av n0 cv:=by
   obtain ⟨xs,ho,-,-⟩:=H.out.one;exact zK ho
  go_wp2_with fail
  go_region_with (first
   | (go_at_call 103;refine (HCP.out _ HX2.out.drew').mono ?_;rintro e w3 ⟨A3,d3,rfl,hE3,hx3⟩;have k3:=aB hx3 c3;have lk:=aP k3;have HE3:=aV4 hE3;have HX3:=aV4 (HX2.out.drew'.trans' hx3);clear hE3 hx3)
   | (go_at_call 102;refine (HIN.out w3 A3 d3 HX3.out HE3.out).mono ?_;rintro e w4 ⟨A4,n4,c4,rfl,k4,q4,hA4⟩;have HA4:=aV4 hA4;clear hA4))
  all_goals
   generalize w4.setCell ⟨g.c,3,none⟩ (.slice A4 n4 c4)=W5 at *;go_wp2_with fail;go_ret;exact ⟨by rw [HHE.out];rfl,HA4.out⟩
theorem aH7 {t:List GN}{vn:Value}{b:Int}{L:List GE}{g:CA}{P:Nat->Prop}{ve:Value}{w:World}(i:Nat)(hi:i<L.length)(h:dU t vn b L g P ve w) :
  Calls Tryz.prog 104 #[ve,.int .i64 i,.int .i64 ((i:Int)+1)] w
   (fun e w4=>∃ A4 n4 c4,e=.returned (.slice A4 n4 c4)∧w4.cell? ⟨g.c,3,none⟩=some ve∧w4.frozen? ⟨g.c,3,none⟩=false∧(Value.slice A4 n4 c4).ownBlock=ve.ownBlock ∧
    Fr (g.M ve) w (w4.setCell ⟨g.c,3,none⟩ (.slice A4 n4 c4))∧dU t vn b (L.eraseIdx i) g P (.slice A4 n4 c4) (w4.setCell ⟨g.c,3,none⟩ (.slice A4 n4 c4))):=by
 obtain ⟨xs,ho,hr,h1⟩:=h.one;have hfew:=h.few;rcases ho with ⟨hxl,⟨h2,h3⟩ | ⟨G,cap,cur,rfl,-,h3,h4,h5,h6,h7⟩⟩
 ·omega
 have hB:Blk w G 102 cur.toList.toArray:=by unfold Blk;simpa using h3
 have hcl:cur.toList.length=cap*6:=by simpa using h6
 have h63:cap<=9223372036854775807:=by unfold maxLen at h5;omega
 refine (aBw G L.length cap i cur.toList w hB hcl h4 hi hfew h63 (by rw [h7];exact h1)).mono ?_;rintro e w4 ⟨rfl,cur',hB',hl',ht',hF⟩;have hlt:=h.box.lt;have hgG:g.c ≠ G:=fun e=>h.ne (by rw [e];rfl)
 have hbox:Blk w4 g.c 95 #[vn,.pointer (some ⟨g.w,0,none⟩),.int .i64 b,.slice (some ⟨G,0,none⟩) L.length cap]:=(hF.block _ hlt hgG).trans h.box;have hB3:=hbox.set_ 3 (.slice (some ⟨G,0,none⟩) (L.length - 1) cap);have hfr:∀ k,k ≠ g.c->(w4.setCell ⟨g.c,3,none⟩ (.slice (some ⟨G,0,none⟩) (L.length - 1) cap)).heap[k]?=w4.heap[k]?:=fun k hk=>Below.heap_setCell _ _ _ _ (fun e=>hk e)
 have hFF:Fr (g.M (.slice (some ⟨G,0,none⟩) L.length cap)) w (w4.setCell ⟨g.c,3,none⟩ (.slice (some ⟨G,0,none⟩) (L.length - 1) cap)):=by
  have h1:Fr (g.M (.slice (some ⟨G,0,none⟩) L.length cap)) w w4:=⟨hF.os,hF.tape,hF.output,hF.size,fun k hk hm=>hF.block k hk (fun e=>hm (.inr (by rw [e];rfl)))⟩;exact h1.setCell (p:=⟨g.c,3,none⟩) (.inl (.inl rfl)) _
 refine ⟨_,_,_,rfl,hbox.cell' 3 rfl,hbox.frozen 3,rfl,hFF,?_⟩;have hB4:Blk (w4.setCell ⟨g.c,3,none⟩ (.slice (some ⟨G,0,none⟩) (L.length - 1) cap)) G 102 cur'.toArray:=(hfr G (fun e=>hgG e.symm)).trans hB';generalize w4.setCell ⟨g.c,3,none⟩ (.slice (some ⟨G,0,none⟩) (L.length - 1) cap)=W at *
 have hkP:aD P w W:=fun k hk hp=>hFF.block k hk (fun hm=>by
  rcases hm with hm | hm
  ·exact (h.excl k hp).1 hm
  ·exact (h.excl k hp).2 hm)
 have hle:(L.eraseIdx i).length=L.length - 1:=by rw [List.length_eraseIdx,if_pos hi]
 have hsub:(L.eraseIdx i).Sublist L:=List.eraseIdx_sublist L i
 have ht2:cur'.take ((L.length - 1)*6)=xs.take (i*6) ++ xs.drop ((i+1)*6):=by
  rw [ht',h7,<- h7,List.take_take,Nat.min_eq_left (by omega)]
 refine ⟨hB3,h.walk.carry hkP (fun _ _ h=>h),⟨_,⟨?_,.inr ⟨G,cap,cur'.toArray,by rw [hle],Nat.zero_le _,hB4,by omega,h5,by simpa using hl',rfl⟩⟩,?_⟩,h.excl,h.ne,?_,h.bI,by omega,fun e he=>h.short e (hsub.subset he),h.good⟩
 ·simp only [List.length_take,hle]
  omega
 ·rw [hle]
  show RL (REn W P) (L.eraseIdx i) (cur'.take ((L.length - 1)*6))
  rw [ht2,List.eraseIdx_eq_take_drop_succ];have hr':=hr.move fM hkP (fun _ _ h=>h);exact (hr'.take (fM.len W P) i).append (hr'.drop (fM.len W P) (i+1))
 ·exact List.Pairwise.sublist (hsub.map GE.path) h.inc
def pR (w:World)(a:Addr):Nat:=match w.cell? a with
 | some (.slice _ n _)=>n
 | _=>0
theorem aAb {b:Int}{L:List GE}(h:¬ (b<dE L∨256<L.length)):∀ n,aNt b n L=L
 | 0=>rfl
 | n+1=>by simp only [aNt];rw [if_neg h]
theorem wT {b:Int}{L:List GE}(h:b<dE L∨256<L.length)(h0:0<L.length):uW b L=uW b (L.eraseIdx (nV L)):=by
 unfold uW;have h1:(L.eraseIdx (nV L)).length=L.length - 1:=by rw [List.length_eraseIdx,if_pos (aAc h0)]
 rw [h1];generalize hn:L.length - 1=n at *;rw [show L.length=n+1 by omega];simp only [aNt];rw [if_pos h]
def aJ4 (t:List GN)(vn:Value)(b:Int)(L:List GE)(g:CA)(P:Nat->Prop)(ve:Value)(w wr:World):Prop :=
 ∃ L' A' c',dU t vn b L' g P (.slice A' L'.length c') wr∧(Value.slice A' L'.length c').ownBlock=ve.ownBlock∧Fr (g.M ve) w wr∧uW b L'=uW b L
def aUr (L:List GE)(W:World)(k i:Value)(wr:World):Prop:=∃ j m:Nat,i=.int .i64 j∧k=.int .i64 m∧j<=L.length∧m<L.length∧jB j m (L.drop j)=nV L∧Ext W wr
def aJz (t:List GN)(vn:Value)(b:Int)(L:List GE)(g:CA)(P:Nat->Prop)(ve:Value)(w:World)(e:Ending)(w':World):Prop :=
 e=.returned (.tuple #[])∧∃ v',dU t vn b (uW b L) g P v' w'∧v'.ownBlock=ve.ownBlock∧Fr (g.M ve) w w'
theorem aNs (t:List GN)(vn:Value)(b:Int)(L:List GE)(g:CA)(P:Nat->Prop)(ve:Value)(w:World)(h:dU t vn b L g P ve w) :
  Calls Tryz.prog 49 #[.pointer (some ⟨g.c,0,none⟩)] w (aJz t vn b L g P ve w):=by
 have HS:Hid (aJ4 t vn b L g P ve w w):=aV4 (by
  obtain ⟨xs,ho,-⟩:=h.own;rcases ho.2 with ⟨e,e2⟩ | ⟨G,cap,cur,e,-⟩
  ·refine ⟨L,none,0,?_,by rw [e];rfl,Fr.refl _ w,rfl⟩
   rw [e2,<- e];exact h
  ·refine ⟨L,_,cap,by rw [<- e];exact h,by rw [<- e],Fr.refl _ w,rfl⟩)
 clear h;go_enter Tryz.func49,Tryz.ntmps49;go_wp2_with fail;go_loopw [] (fun wr=>aJ4 t vn b L g P ve w wr) (fun wr=>pR wr ⟨g.c,3,none⟩)
 case atStart=>exact HS.out
 case round =>
  obtain ⟨L1,A1,d1,hC,hob,hF,hcut⟩:=hrel;have HC:=aV4 hC;have HOB:=aV4 hob;have HF:=aV4 hF;have HCU:=aV4 hcut;have HBY:=aV4 (fun (W:World) (hE:Ext wr W)=>qL t vn b L1 g P _ W (hC.ext hE));have c3:=hC.cell3;have c2:wr.cell? ⟨g.c,2,none⟩=some (.int .i64 b):=hC.box.cell' 2 rfl;have hfew:=hC.few;have hbI:=hC.bI;clear hC hob hF hcut;have HD:=aV4 (show (b<dE L1∨256<L1.length) ↔ (decide (b<dE L1) || decide (256<L1.length))=true by simp);generalize hs:dE L1=s at *;have HSS:=aV4 hs;clear hs;have HL0:=aV4 (show pR wr ⟨g.c,3,none⟩=L1.length by unfold pR;rw [c3]);have k2:=aCb.cell c2;have k3:=aCb.cell c3;go_upto_region 0 with fail;go_cut [19] from 5 to 51 (fun s1 wx=>s1=.bool (decide (b<s) || decide (256<L1.length))∧Ext wr wx)
  case first =>
   by_cases hb:b<s
   ·have hd:decide (b<s)=true:=aV7 hb
    refine lM (by kernel_rfl) (by kernel_rfl) ?_
    repeat (go_big_quiet_step (exact aJh (HBY.out _ (aCb.h _))))
    refine wpQuiet_nil ?_;intro _ hw';obtain ⟨⟨wq,hq⟩,rfl⟩:=hw';go_wp2_with fail;go_meet;exact ⟨by simp [hd],hq⟩
   ·have hd:decide (b<s)=false:=aV8 hb
    refine lM (by kernel_rfl) (by kernel_rfl) ?_
    repeat (go_big_quiet_step (exact aJh (HBY.out _ (aCb.h _))))
    refine wpQuiet_nil ?_;intro _ hw';obtain ⟨⟨wq,hq⟩,rfl⟩:=hw';go_wp2_with fail;go_meet;exact ⟨by rw [hd,Bool.false_or];exact congrArg Value.bool (decide_eq_decide.2 (by omega)),hq⟩
  case rest =>
   obtain ⟨rfl,hxc⟩:=hcut;have HC2:=aV4 (HC.out.ext hxc);have HF2:=aV4 (HF.out.trans (Fr.of_ext hxc));have c3c:=aB hxc c3;clear hxc c2 c3 k2 k3 HC HF HBY
   by_cases hcc:b<s∨256<L1.length
   ·have HCC:=aV4 hcc
    have hd:(decide (b<s) || decide (256<L1.length))=true:=HD.out.1 hcc;rw [hd]
    have hpos:0<L1.length:=by
     rcases hcc with h | h
     ·cases L1 with
      | nil=>have:=HSS.out;simp [dE] at this;omega
      | cons _ _=>simp
     ·omega
    clear hd hcc;have hle:=(Lst.form HC2.out.ens);obtain ⟨A9,c9,e9,h91,h92⟩:=hle;injection e9 with e91 _ e92;subst e91 e92;have HEN:=aV4 HC2.out.ens;go_wp2_with fail;go_loopw [2,31] (fun k i wx=>aUr L1 wc k i wx) (fun _ i _=>L1.length - (intOf i).toNat)
    case atStart=>exact ⟨0,L1.length - 1,rfl,by go_num,Nat.zero_le _,by omega,rfl,Ext.refl _⟩
    case round =>
     obtain ⟨j,m,rfl,rfl,hj,hm,hcf,hx⟩:=hrel;have HCF:=aV4 hcf;have HX:=aV4 hx;clear hcf hx
     by_cases hlt:j<L1.length
     ·obtain ⟨b1,o1,A2,d2,rfl,-,hv1,hgc⟩:=(HEN.out.ext HX.out).get hlt
      have HD1:=aV4 (show jB (j+1) (if (L1.getD j default).fresh then m else j) (L1.drop (j+1))=nV L1 by rw [<- HCF.out,aH default hlt];rfl);generalize L1.getD j default=y at *;have g0:=hgc 0 _ rfl;have g1:=hgc 1 _ rfl;have g2:=hgc 2 _ rfl;have g3:=hgc 3 _ rfl;have g4:=hgc 4 _ rfl;have g5:=hgc 5 _ rfl;rw [Nat.add_zero] at g0;clear hgc hv1;generalize y.fresh=yf at *
      cases yf with
      | false =>
       go_wp2_with fail;go_roundw
       case rel=>exact ⟨j+1,j,by go_num,rfl,by omega,by omega,by simpa using HD1.out,HX.out.alloc' _⟩
       case measure=>simp [intOf];omega
      | true =>
       go_wp2_with fail;go_roundw
       case rel=>exact ⟨j+1,m,by go_num,rfl,by omega,by omega,by simpa using HD1.out,HX.out.alloc' _⟩
       case measure=>simp [intOf];omega
     ·have hjl:j=L1.length:=by omega
      have HCA:=aV4 (show m=nV L1 by rw [<- HCF.out,drop_nil (by omega)];rfl);have HDC:=aV4 (aH7 m hm (HC2.out.ext HX.out));have c3r:=aB HX.out c3c;clear hjl;go_wp2_with fail;refine HDC.out.mono ?_;rintro e w4 ⟨A4,n4,c4,rfl,q3,q4,hob4,hF4,hC4⟩
      have hn4:n4=(L1.eraseIdx m).length:=by
       obtain ⟨A8,c8,e8,-,-⟩:=Lst.form hC4.ens;injection e8
      subst hn4;have HC4:=aV4 hC4;have HF4:=aV4 hF4;have HO4:=aV4 hob4;clear hob4 hF4 hC4 c3r;go_wp2_with fail;go_roundw
      case rel =>
       refine ⟨L1.eraseIdx m,A4,c4,HC4.out,HO4.out.trans HOB.out,(HF2.out.trans (Fr.of_ext HX.out)).trans (HF4.out.mono (fun k hk=>hk.elim .inl (fun h=>.inr (by rw [h,HOB.out])))),?_⟩;rw [HCA.out,<- wT (by rw [HSS.out];exact HCC.out) hpos];exact HCU.out
      case measure =>
       rw [HL0.out];unfold pR;rw [HC4.out.cell3,List.length_eraseIdx,if_pos hm]
       show L1.length - 1<L1.length
       omega
   ·have hd:(decide (b<s) || decide (256<L1.length))=false:=by
     cases hh:(decide (b<s) || decide (256<L1.length))
     ·rfl
     ·exact absurd (HD.out.2 hh) hcc
    rw [hd]
    have HR:=aV4 (show aJz t vn b L g P ve w (.returned (.tuple #[])) wc from ⟨rfl,_,by
     rw [<- HCU.out];unfold uW;rw [aAb (by rw [HSS.out];exact hcc)];exact HC2.out,HOB.out,HF2.out⟩)
    clear hd hcc;go_wp2_with fail;exact bodyPost_ret (v:=.tuple #[]) (by simp [results,Tryz.results49,go_sem]) rfl HR.out
abbrev jL (k a c:Int):Value:=.agg #[.int .i64 k,.int .i64 a,.int .i64 c,.slice none 0 0,.slice none 0 0,.int .i64 0]
def mkE (path:List Int)(k a c:Int)(f:Bool):GE:=⟨path,k,a,c,f,1⟩
def aSl (t:List GN)(vn:Value)(b:Int)(L:List GE)(x:GE)(g:CA)(P:Nat->Prop)(ve:Value)(w:World)(e:Ending)(w':World):Prop :=
 e=.returned (.tuple #[.bool (sN (aU t) b L x),.int .i64 (xG (aU t) x)])∧jN t vn b (nY (aU t) b L x) g P ve w w'
section
variable {t:List GN}{vn:Value}{b:Int}{L L':List GE}{g:CA}{P:Nat->Prop}{ve:Value}{w w1 w2:World}
theorem jN.of_ext (hx:Ext w w1)(h:jN t vn b L' g P ve w1 w2):jN t vn b L' g P ve w w2:=by
 obtain ⟨P',v',h1,h2,h3,h4⟩:=h;have hs:=hx.size;refine ⟨P',v',h1,fun k hk=>(h2 k hk).elim .inl (fun h=>.inr (by omega)),(Fr.of_ext hx).trans h3,h4.elim .inl (fun ⟨k,h5,h6⟩=>.inr ⟨k,h5,by omega⟩)⟩
theorem jN.none (h:dU t vn b L g P ve w)(hx:Ext w w1):jN t vn b L g P ve w w1:=⟨P,ve,h.ext hx,fun _ h=>.inl h,Fr.of_ext hx,.inl rfl⟩
end
theorem aFc (t:List GN)(vn:Value)(b:Int)(L:List GE)(g:CA)(P Pp:Nat->Prop)(ve vp:Value)(path:List Int)(k a c:Int)(f:Bool)(w:World)(h:dU t vn b L g P ve w)(hp:bT w Pp vp path)(hPp:∀ i,Pp i->¬ g.M ve i)
  (hk:I64 k)(ha:I64 a)(hc:I64 c)(hfew:L.length+1<=100000)(hpl:path.length<=1000) :
  Calls Tryz.prog 12 #[.pointer (some ⟨g.c,0,none⟩),vp,jL k a c,.bool f] w (aSl t vn b L (mkE path k a c f) g P ve w):=by
 obtain ⟨Ap,cp,ep,hp1,hp2⟩:=hp.form;subst ep;have H:=aV4 h;have HP:=aV4 hp;have HPP:=aV4 hPp;have hlt:=h.box.lt;have HE1:=aV4 (show EAt w Pp (mkE path k a c f) Ap cp from ⟨hp,hk,ha,hc,by simp [mkE,I64]⟩);have HEQ:=aV4 (show (mkE path k a c f).path=path from rfl);have HAE:=aV4 (show nY (aU t) b L (mkE path k a c f)=if aU t path then (if gX path L then dX L (mkE path k a c f) else uW b (dX L (mkE path k a c f))) else L from rfl);have HAB:=aV4 (show sN (aU t) b L (mkE path k a c f)=if aU t path then (if gX path L then false else gX path (uW b (dX L (mkE path k a c f)))) else false from rfl);have HAI:=aV4 (show xG (aU t) (mkE path k a c f)=if aU t path then 0 else 11 from rfl);clear h hp hPp;go_enter Tryz.func12,Tryz.ntmps12;go_upto_region 1 with fail;have HE:=aV4 ((Ext.refl w).alloc' (.cells #[.int .i64 k,.int .i64 a,.int .i64 c,.slice none 0 0,.slice none 0 0,.int .i64 0] 46));have HB:=aV4 (Blk.new w 46 #[.int .i64 k,.int .i64 a,.int .i64 c,.slice none 0 0,.slice none 0 0,.int .i64 0]);generalize w.alloc (.cells #[.int .i64 k,.int .i64 a,.int .i64 c,.slice none 0 0,.slice none 0 0,.int .i64 0] 46)=W at *;have c1:W.cell? ⟨g.c,1,none⟩=some (.pointer (some ⟨g.w,0,none⟩)):=(H.out.ext HE.out).box.cell' 1 rfl
 have HW:=aV4 (aCk t path vn (.slice Ap path.length cp) g.w g.s g.l g.f P Pp W (H.out.ext HE.out).walk (HP.out.ext HE.out) H.out.good (by omega));generalize hwb:aU t path=wb at *;have HWB:=aV4 hwb;clear hwb;go_upto_region 2 with (go_at_call 47;refine HW.out.mono ?_;rintro e w1 ⟨y,A1,d1,rfl,hx1⟩);have HX2:=aV4 (show Ext w (w1.alloc (.cells #[.int .i64 y.kind,.int .i64 y.n,.string y.s,.slice A1 y.kids.length d1] 85)) from (HE.out.trans' hx1).alloc' _);have HB2:=aV4 ((HB.out.ext hx1).alloc (.cells #[.int .i64 y.kind,.int .i64 y.n,.string y.s,.slice A1 y.kids.length d1] 85));clear hx1 c1;generalize w1.alloc (.cells #[.int .i64 y.kind,.int .i64 y.n,.string y.s,.slice A1 y.kids.length d1] 85)=W2 at *
 cases wb with
 | false =>
  go_wp2_with fail;go_ret2;refine ⟨?_,?_⟩
  ·rw [HAB.out,HAI.out];rfl
  ·rw [HAE.out];exact jN.none H.out HX2.out
 | true =>
  obtain ⟨x0,x1,x2,x3,x4,x5⟩:=cH HB2.out;generalize hhe:gX path L=he at *;have HHE:=aV4 hhe;clear hhe
  have HJ:=aV4 (show Calls Tryz.prog 48 #[.pointer (some ⟨g.c,0,none⟩),.agg #[.slice Ap path.length cp,.int .i64 k,.int .i64 a,.int .i64 c,.bool f,.int .i64 1]] W2 (fun e w'=>e=.returned (.bool (!he))∧jN t vn b (dX L (mkE path k a c f)) g P ve W2 w') from by
   have h:=aHr t vn b L g P Pp ve (mkE path k a c f) Ap cp W2 (H.out.ext HX2.out) (HE1.out.ext HX2.out) hfew hpl;unfold aFi at h;rw [show gX (mkE path k a c f).path L=he from HHE.out] at h;exact h)
  cases he with
  | true =>
   go_wp2_with fail;refine HJ.out.mono ?_;rintro e w3 ⟨rfl,hA3⟩;have HA3:=aV4 (jN.of_ext HX2.out hA3);clear hA3;simp only [Bool.not_true];go_wp2_with fail;go_ret2;refine ⟨?_,?_⟩
   ·rw [HAB.out,HAI.out];rfl
   ·rw [HAE.out];exact HA3.out
  | false =>
   go_wp2_with fail;refine HJ.out.mono ?_;rintro e w3 ⟨rfl,hA3⟩;have HA3:=aV4 (jN.of_ext HX2.out hA3);clear hA3;simp only [Bool.not_false];obtain ⟨P',v',h1,h2,h3,h4⟩:=HA3.out;have hpw:bT w3 (fun i=>Pp i∧i<w.heap.size) (.slice Ap path.length cp) path:=HP.out.carry (fun i hi hp=>h3.block i hi (HPP.out i hp)) (fun i hi hp=>⟨hp,hi⟩);have HC:=aV4 (aNs t vn b _ g P' v' w3 h1)
   have hM:∀ i,i<w.heap.size->g.M v' i->g.M ve i:=fun i hi hm=>by
    rcases hm with hm | hm
    ·exact .inl hm
    ·rcases h4 with h4 | ⟨j,h4,h5⟩
     ·exact .inr (by rw [hm,h4])
     ·rw [h4] at hm;injection hm with hm;omega
   have HM:=aV4 hM;have HPW:=aV4 hpw;have H1:=aV4 h1;have H2:=aV4 h2;have H3:=aV4 h3;have H4:=aV4 h4;clear h1 h2 h3 h4 hpw hM HA3 x0 x1 x2 x3 x4 x5;go_wp2_with fail;refine HC.out.mono ?_;rintro e w4 ⟨rfl,v4,hc4,hob4,hf4⟩;have HF4:=aV4 (show Fr (g.M ve) w w4 from ⟨hf4.os.trans H3.out.os,hf4.tape.trans H3.out.tape,hf4.output.trans H3.out.output,Nat.le_trans H3.out.size hf4.size,fun i hi hn=>(hf4.block i (Nat.lt_of_lt_of_le hi H3.out.size) (fun hm=>hn (HM.out i hi hm))).trans (H3.out.block i hi hn)⟩);have HPW4:=aV4 (HPW.out.carry (Q:=fun _=>True) (fun i hi hp=>hf4.block i hi (fun hm=>HPP.out i hp.1 (HM.out i hp.2 hm))) (fun _ _ _=>trivial));have HC4:=aV4 hc4;have HO4:=aV4 hob4;clear hc4 hob4 hf4;go_wp2_with fail;refine (yI t vn b _ g P' _ v4 _ path w4 HC4.out HPW4.out).mono ?_;rintro e w5 ⟨rfl,hx5⟩;have HA5:=aV4 (show jN t vn b (uW b (dX L (mkE path k a c f))) g P ve w w5 from ⟨P',v4,HC4.out.ext hx5,H2.out,HF4.out.trans (Fr.of_ext hx5),by rw [HO4.out];exact H4.out⟩);clear hx5;go_wp2_with fail;go_ret2;refine ⟨?_,?_⟩
   ·rw [HAB.out,HAI.out];rfl
   ·rw [HAE.out];exact HA5.out
structure rJ (t:List GN)(vn:Value)(b:Int)(L:List GE)(g:CA)(P:Nat->Prop)(v:Value)(B:Nat)(w:World):Prop where
 cor:dU t vn b L g P v w
 lo:∀ k,P k∨g.M v k->B<=k∧k<w.heap.size
section
variable {t:List GN}{vn vn':Value}{b b':Int}{L L':List GE}{g g':CA}{P P':Nat->Prop}{v v':Value}{B:Nat}{w w':World}
theorem dU.mlt (h:dU t vn b L g P v w){k:Nat}(hk:g.M v k):k<w.heap.size:=by
 rcases hk with rfl | hk
 ·exact h.box.lt
 ·obtain ⟨xs,h1,-⟩:=h.own
  exact aHi h1 hk.symm
theorem rJ.ext (h:rJ t vn b L g P v B w)(hx:Ext w w'):rJ t vn b L g P v B w':=⟨h.cor.ext hx,fun k hk=>⟨(h.lo k hk).1,Nat.lt_of_lt_of_le (h.lo k hk).2 hx.size⟩⟩
theorem rJ.after (h:rJ t vn b L g P v B w)(ha:jN t vn b L' g P v w w'):∃ P' v',rJ t vn b L' g P' v' B w'∧Fr (fun k=>B<=k) w w'∧Fr (g.M v) w w'∧(∀ k,P' k->P k∨w.heap.size<=k)∧∀ k,g.M v' k->g.M v k∨w.heap.size<=k:=by
 obtain ⟨P1,v1,h1,h2,h3,h4⟩:=ha;have hBw:B<=w.heap.size:=by have:=h.lo g.c (.inr (.inl rfl));omega
 have hM:∀ k,g.M v1 k->g.M v k∨w.heap.size<=k:=by
  intro k hk;rcases hk with hk | hk
  ·exact .inl (.inl hk)
  ·rcases h4 with h4 | ⟨k',h4,h5⟩
   ·exact .inl (.inr (by rw [hk,h4]))
   ·rw [h4] at hk;injection hk with hk;subst hk;exact .inr h5
 have hc:=h1.carry (Q:=fun k=>P1 k∧k<w'.heap.size) (fun _ _ _=>rfl) (fun k hk hp=>⟨hp,hk⟩) (fun k hk=>h1.excl k hk.1);refine ⟨fun k=>P1 k∧k<w'.heap.size,v1,⟨hc,?_⟩,h3.mono (fun k hk=>(h.lo k (.inr hk)).1),h3,fun k hk=>h2 k hk.1,hM⟩;intro k hk;rcases hk with ⟨hk,hlt⟩ | hk
 ·refine ⟨?_,hlt⟩
  rcases h2 k hk with h5 | h5
  ·exact (h.lo k (.inl h5)).1
  ·omega
 ·refine ⟨?_,hc.mlt hk⟩
  rcases hM k hk with h5 | h5
  ·exact (h.lo k (.inr h5)).1
  ·omega
def aB9 (g:CA)(P:Nat->Prop)(v:Value)(g':CA)(P':Nat->Prop)(v':Value):Prop:=(∀ k,P k∨g.M v k->¬ g'.M v' k)∧∀ k,P' k∨g'.M v' k->¬ g.M v k
theorem aB9.swap (h:aB9 g P v g' P' v'):aB9 g' P' v' g P v:=⟨h.2,h.1⟩
theorem rJ.other (h:rJ t vn b L g P v B w)(h':rJ t vn' b' L' g' P' v' B w)(ha:aB9 g P v g' P' v'){L1:List GE}(hA:jN t vn b L1 g P v w w') :
  ∃ P1 v1,rJ t vn b L1 g P1 v1 B w'∧rJ t vn' b' L' g' P' v' B w'∧aB9 g P1 v1 g' P' v'∧Fr (fun k=>B<=k) w w':=by
 obtain ⟨P1,v1,h1,h2,h3,h4,h5⟩:=h.after hA;refine ⟨P1,v1,h1,⟨h'.cor.carry (fun k hk hp=>h3.block k hk (ha.2 k hp)) (fun _ _ h=>h) h'.cor.excl,fun k hk=>⟨(h'.lo k hk).1,Nat.lt_of_lt_of_le (h'.lo k hk).2 h2.size⟩⟩,⟨?_,?_⟩,h2⟩
 ·intro k hk hm
  have hlt:=(h'.lo k (.inr hm)).2;rcases hk with hk | hk
  ·rcases h4 k hk with h6 | h6
   ·exact ha.1 k (.inl h6) hm
   ·omega
  ·rcases h5 k hk with h6 | h6
   ·exact ha.1 k (.inr h6) hm
   ·omega
 ·intro k hk hm
  have hlt:=(h'.lo k hk).2;rcases h5 k hm with h6 | h6
  ·exact ha.2 k hk h6
  ·omega
end
def aV1 (gs:List (List Int))(a i:Nat):List (List Int):=(List.range i).map (fun j=>gs.getD ((a+gs.length - 1 - j) % gs.length) [])
def yP (t:List GN)(b:Int)(w:World)(e:Ending)(w':World):Prop :=
 ∃ g P' vn',e=.returned (.tuple #[.pointer (some ⟨g.c,0,none⟩),.int .i64 0])∧rJ t vn' b [] g P' (.slice none 0 0) w.heap.size w'∧Ext w w'
theorem aCu {t:List GN}(h:∀ x ∈ t,dL x):oA t:=fun x hx=>(h x hx).2.2.2.2.1
theorem aBj (t:List GN)(P:Nat->Prop)(vn:Value)(b:Int)(w:World)(hP:∀ k,P k->k<w.heap.size)(ht:Nds w P vn t)(hsm:oA t)(hv:¬ bW t=0) :
  Calls Tryz.prog 10 #[.agg #[vn],.int .i64 b] w (yQ (.pointer none) (.int .i64 (bW t)) w):=by
 have HV:=aV4 (fun (W:World) (hx:Ext w W)=>iY t P vn W (fun k hk=>Nat.lt_of_lt_of_le (hP k hk) hx.size) (ht.ext hx) hsm);obtain ⟨A,c,e,h1,h2⟩:=ht.form;subst e;have hd:(bW t == 0)=false:=aV5 hv;clear hP ht hsm;generalize bW t=vt at *;go_enter Tryz.func10,Tryz.ntmps10;go_wp2_with fail;refine (HV.out _ ((Ext.refl w).alloc' _)).mono ?_;rintro e w1 ⟨rfl,hx1⟩;have HX1:=aV4 (((Ext.refl w).alloc' _).trans' hx1);clear hx1;go_wp2_with fail;go_ret2;exact ⟨rfl,HX1.out⟩
theorem aBk (t:List GN)(P:Nat->Prop)(vn:Value)(b:Int)(w:World)(hP:∀ k,P k->k<w.heap.size)(ht:Nds w P vn t)(hsm:oA t)(hv:bW t=0)(hb:b<0∨1099511627776<b) :
  Calls Tryz.prog 10 #[.agg #[vn],.int .i64 b] w (yQ (.pointer none) (.int .i64 1) w):=by
 have HV:=aV4 (fun (W:World) (hx:Ext w W)=>iY t P vn W (fun k hk=>Nat.lt_of_lt_of_le (hP k hk) hx.size) (ht.ext hx) hsm);rw [hv] at HV;obtain ⟨A,c,e,h1,h2⟩:=ht.form;subst e;clear hP ht hsm hv
 by_cases h0:b<0
 ·have hd:decide (b<0)=true:=aV7 h0
  clear hb;go_enter Tryz.func10,Tryz.ntmps10;go_wp2_with fail;refine (HV.out _ ((Ext.refl w).alloc' _)).mono ?_;rintro e w1 ⟨rfl,hx1⟩;have HX1:=aV4 (((Ext.refl w).alloc' _).trans' hx1);clear hx1;go_wp2_with fail;go_ret2;exact ⟨rfl,HX1.out⟩
 ·have hd:decide (b<0)=false:=aV8 h0
  have h3:1099511627776<b:=by omega
  have hd2:decide (1099511627776<b)=true:=aV7 h3;clear hb;go_enter Tryz.func10,Tryz.ntmps10;go_wp2_with fail;refine (HV.out _ ((Ext.refl w).alloc' _)).mono ?_;rintro e w1 ⟨rfl,hx1⟩;have HX1:=aV4 (((Ext.refl w).alloc' _).trans' hx1);clear hx1;go_wp2_with fail;go_ret2;exact ⟨rfl,HX1.out⟩
theorem aRg {t:List GN}{vn:Value}{b:Int}{B0 gw gs gl gf:Nat}{P:Nat->Prop}{w5:World}(hW:kG t vn gw gs gl gf P w5)(hP:∀ k,k<w5.heap.size->P k->B0<=k)(hB:B0<=w5.heap.size)(hb:0<=b∧b<=1099511627776)(hg:bJ t t.length) :
  rJ t vn b [] ⟨w5.heap.size,gw,gs,gl,gf⟩ (fun k=>B0<=k∧k<w5.heap.size) (.slice none 0 0) B0 (w5.alloc (.cells #[vn,.pointer (some ⟨gw,0,none⟩),.int .i64 b,.slice none 0 0] 95)):=by
 have hx:Ext w5 (w5.alloc (.cells #[vn,.pointer (some ⟨gw,0,none⟩),.int .i64 b,.slice none 0 0] 95)):=(Ext.refl _).alloc' _;refine ⟨⟨Blk.new _ _ _,hW.carry (aD.of_ext hx) (fun k hk hp=>⟨hP k hk hp,hk⟩),⟨[],aX _ _ _ _,by simp [RL]⟩,?_,by simp [Value.ownBlock],List.Pairwise.nil,hb,by simp,by simp,hg⟩,?_⟩
 ·intro k hk
  exact ⟨by show k ≠ w5.heap.size;omega,by simp [Value.ownBlock]⟩
 ·intro k hk
  rcases hk with hk | hk | hk
  ·simp;omega
  ·simp only at hk;subst hk;simp;omega
  ·simp [Value.ownBlock] at hk
theorem lZ (t:List GN)(P:Nat->Prop)(vn:Value)(b:Int)(w:World)(hP:∀ k,P k->k<w.heap.size)(ht:Nds w P vn t)(hsm:∀ x ∈ t,dL x)(hv:bW t=0)(hb:0<=b∧b<=1099511627776) :
  Calls Tryz.prog 10 #[.agg #[vn],.int .i64 b] w (yP t b w):=by
 have hg:=eX.1 hv;have HV:=aV4 (fun (W:World) (hx:Ext w W)=>iY t P vn W (fun k hk=>Nat.lt_of_lt_of_le (hP k hk) hx.size) (ht.ext hx) (aCu hsm));rw [hv] at HV;have HCL:=aV4 (fun (W:World) (hx:Ext w W)=>uM t hsm P vn W (fun k hk=>Nat.lt_of_lt_of_le (hP k hk) hx.size) (ht.ext hx) (by have:=hg.2.1;omega));have HG:=aV4 hg;obtain ⟨A,c,e,h1,h2⟩:=ht.form;subst e;have hd:decide (b<0)=false:=aV8 (by omega);have hd2:decide (1099511627776<b)=false:=aV8 (by omega);have HB:=aV4 hb;clear hP ht hsm hv hg hb;go_enter Tryz.func10,Tryz.ntmps10;go_wp2_with fail;have HE:=aV4 ((Ext.refl w).alloc' (.cells #[.slice A t.length c] 25));have HB0:=aV4 (Blk.new w 25 #[.slice A t.length c]);have hsz:w.heap.size+1<=(w.alloc (.cells #[.slice A t.length c] 25)).heap.size:=by simp
 generalize w.alloc (.cells #[.slice A t.length c] 25)=W at *;refine (HV.out _ HE.out).mono ?_;rintro e w1 ⟨rfl,hx1⟩;have HX1:=aV4 (HE.out.trans' hx1);have HB1:=aV4 (HB0.out.ext hx1);have hs1:=hx1.size;have b1:=HB1.out.cell' (u:=.slice A t.length c) 0 rfl;clear hx1;go_wp2_with fail;refine (HCL.out _ HX1.out).mono ?_;rintro e w2 ⟨A2,c2,rfl,hN,hx2⟩;have HX2:=aV4 (HX1.out.trans' hx2);have HB2:=aV4 (HB1.out.ext hx2);have hs2:=hx2.size;have b2:=HB2.out.cell' (u:=.slice A t.length c) 0 rfl;have f2:=HB2.out.frozen 0;have HN:=aV4 hN;clear hx2 b1 hN;go_upto_region 7 with fail;have HX3:=aV4 (show Ext w (w2.setCell ⟨w.heap.size,0,none⟩ (.slice A2 t.length c2)) from HX2.out.setCell' (p:=⟨w.heap.size,0,none⟩) (Nat.le_refl _) _);have HB3:=aV4 (HB2.out.set_ 0 (.slice A2 t.length c2));have HN3:=aV4 (show Nds (w2.setCell ⟨w.heap.size,0,none⟩ (.slice A2 t.length c2)) (fun k=>w1.heap.size<=k∧k<w2.heap.size) (.slice A2 t.length c2) t from HN.out.carry (aD.set (fun _ _ _=>rfl) _ (by show ¬ w1.heap.size<=w.heap.size;omega)) (fun k hk h=>⟨h,hk⟩));have hs3:w2.heap.size<=(w2.setCell ⟨w.heap.size,0,none⟩ (.slice A2 t.length c2)).heap.size:=by simp [World.setCell]
 generalize w2.setCell ⟨w.heap.size,0,none⟩ (.slice A2 t.length c2)=W3 at *;have b3:=HB3.out.cell' (u:=.slice A2 t.length c2) 0 rfl;have l3:=HB3.out.lt;clear b2 f2
 go_region_held3 (fun w'=>w'.cell? ⟨w.heap.size,0,none⟩=some (.slice A2 t.length c2))
  (first
   | exact aB hx5 ‹_›
   | go_keep)
  (first
   | (go_at_call 44;refine (xK t (fun k=>w1.heap.size<=k∧k<w2.heap.size) _ W3.drew (fun k hk=>by show k<W3.heap.size;omega) (HN3.out.ext (Ext.refl _).drew') HG.out).mono ?_;rintro e w5 ⟨gw,gs,gl,gf,rfl,hW5,hx5,-,-,-,-⟩))
 have HX5:=aV4 ((HX3.out.drew').trans' hx5);have hs5:=hx5.size;have HW5:=aV4 hW5;clear hW5 hx5 b3;have hs5':W3.heap.size<=w5.heap.size:=hs5
 have HM:=aV4 (aRg (B0:=w.heap.size) HW5.out (fun k hk hp=>by
  rcases hp with hp | hp
  ·omega
  ·have hp':W3.heap.size<=k:=hp
   omega) (by omega) HB.out HG.out)
 have HXF:=aV4 (HX5.out.alloc' (.cells #[.slice A2 t.length c2,.pointer (some ⟨gw,0,none⟩),.int .i64 b,.slice none 0 0] 95));go_wp2_with fail;go_ret2;exact ⟨_,_,_,rfl,HM.out,HXF.out⟩
def nO (L:List GE)(w:World)(e:Ending)(w':World):Prop:=∃ A c,e=.returned (.slice A L.length c)∧Ens w' (fun b=>w.heap.size<=b) (.slice A L.length c) L∧Ext w w'
theorem nX (l:List GE)(P:Nat->Prop)(v:Value)(w:World)(hl:Ens w P v l)(hlen:l.length<=100000)(hF:∀ x ∈ l,x.path.length<=1000):Calls Tryz.prog 106 #[v,.func (.func 103) #[] #[]] w (nO l w):=by
 have HF:=aV4 hF;have HV:=aV4 hl;obtain ⟨A,c,e,h1,h2⟩:=Lst.form hl;subst e;clear hl hF
 by_cases h0:l.length=0
 ·have t0:((l.length:Int) == 0)=true:=aV6 (by omega)
  have hnil:l=[]:=List.eq_nil_of_length_eq_zero h0;subst hnil;clear h0;go_enter Tryz.func106,Tryz.ntmps106;go_wp2_with fail;go_ret;exact ⟨none,0,rfl,⟨none,0,[],rfl,Nat.le_refl _,by simp,⟨rfl,fun h=>by simp at h⟩,by simp [RL]⟩,Ext.refl _⟩
 ·have t0:((l.length:Int) == 0)=false:=aV5 (by omega)
  clear h0;obtain ⟨i0,hi,hz0,hz1,hz2⟩:=info_parts Tryz.info102
  have hmk:∀ W:World,(Instr.makeSlice 93 (.int .i64 (l.length:Int)) (.int .i64 (l.length:Int))).run Tryz.prog W=.ok (.slice (some ⟨W.heap.size,0,none⟩) l.length l.length) (W.alloc (.cells (madeCells #[.slice none 0 0,.int .i64 0,.int .i64 0,.int .i64 0,.bool false,.int .i64 0] (l.length*6)) 102)):=by
   intro W;have h:=run_make (P:=Tryz.prog) W 93 102 i0 _ Tryz.underlying93 hi hz0 .i64 .i64 (l.length:Int) (l.length:Int) (by omega) (Int.le_refl _) (by rw [hz2];omega) (by omega);rw [hz1] at h;rw [h]
   rfl
  have hsz:=size_madeCells #[.slice none 0 0,.int .i64 0,.int .i64 0,.int .i64 0,.bool false,.int .i64 0] (l.length*6);generalize madeCells #[.slice none 0 0,.int .i64 0,.int .i64 0,.int .i64 0,.bool false,.int .i64 0] (l.length*6)=mc at *;have HSZ:=aV4 hsz;clear hsz hi hz0 hz1 hz2 i0;go_enter Tryz.func106,Tryz.ntmps106;go_wp2_with fail;go_loopw [15] (fun i wr=>aFs 6 REn l w.heap.size 102 w i wr) (fun i _=>l.length - (intOf i).toNat)
  case atStart=>exact uO mc HSZ.out
  case round =>
   obtain ⟨k,cs,hk,rfl,hB,hcl,hR,hx⟩:=hrel;have HB:=aV4 hB;have HCL:=aV4 hcl;have HR:=aV4 hR;have HX:=aV4 hx;clear hB hcl hR hx
   by_cases hlt:k<l.length
   ·obtain ⟨b1,o1,A1,d1,rfl,-,hv1,hgc⟩:=(HV.out.ext HX.out).get hlt
    have hsm:=HF.out _ (aG (d:=default) hlt);obtain ⟨x,hgx⟩:∃ x,x=l.getD k default:=⟨_,rfl⟩;have HG:=aV4 hgx;rw [<- hgx] at hv1 hgc hsm;have HCX:=aV4 (sD x A1 d1 P wr hv1 (by omega));have hkk:(k:Int)<(l.length:Int):=by omega
    have n0:=hgc 0 _ rfl;have n1:=hgc 1 _ rfl;have n2:=hgc 2 _ rfl;have n3:=hgc 3 _ rfl;have n4:=hgc 4 _ rfl;have n5:=hgc 5 _ rfl;rw [Nat.add_zero] at n0;clear hv1 hgx hgc hsm;go_wp2_with fail;refine (HCX.out).mono ?_;rintro e w1 ⟨A2,d2,rfl,hv2,hx2⟩;have hBB:=HB.out.ext hx2;have hcl:=HCL.out;obtain ⟨y0,q0⟩:=hBB.some_ (i:=k*6) (by omega);obtain ⟨y1,q1⟩:=hBB.some_ (i:=k*6+1) (by omega);obtain ⟨y2,q2⟩:=hBB.some_ (i:=k*6+2) (by omega);obtain ⟨y3,q3⟩:=hBB.some_ (i:=k*6+3) (by omega);obtain ⟨y4,q4⟩:=hBB.some_ (i:=k*6+4) (by omega);obtain ⟨y5,q5⟩:=hBB.some_ (i:=k*6+5) (by omega);have f0:=hBB.frozen (k*6);have f1:=hBB.frozen (k*6+1);have f2:=hBB.frozen (k*6+2);have f3:=hBB.frozen (k*6+3);have f4:=hBB.frozen (k*6+4);have f5:=hBB.frozen (k*6+5);have HV2:=aV4 hv2;have HX2:=aV4 hx2;clear hv2 hx2 hBB hcl n0 n1 n2 n3 n4 n5;go_wp2_with fail;go_roundw
    case rel =>
     have:=HG.out;subst this;exact yN (w1:=w1) fM default (Nat.le_refl _) hlt HB.out HCL.out HR.out HX.out HX2.out (us:=cG _ A2 d2) ⟨A2,d2,rfl,HV2.out⟩
    case measure=>simp [intOf];omega
   ·obtain rfl:k=l.length:=by omega
    go_wp2_with fail;go_ret;exact ⟨_,_,rfl,aE3 fM (Nat.le_refl _) (by omega) HB.out HCL.out HR.out,HX.out⟩
theorem mE (t:List GN)(vn:Value)(b:Int)(L:List GE)(g:CA)(P:Nat->Prop)(ve:Value)(w:World)(h:dU t vn b L g P ve w):Calls Tryz.prog 54 #[.pointer (some ⟨g.c,0,none⟩)] w (nO L w):=by
 have HC:=aV4 (nX L _ ve w h.ens h.few h.short);have c3:=h.cell3;obtain ⟨Al,cl,el,h1,h2⟩:=Lst.form h.ens;subst el;clear h;go_enter Tryz.func54,Tryz.ntmps54;go_wp2_with fail;refine HC.out.mono ?_;rintro e w1 ⟨A1,c1,rfl,hE,hx⟩;have HE:=aV4 hE;have HX:=aV4 hx;clear hE hx;go_wp2_with fail;go_ret;exact ⟨A1,c1,rfl,HE.out,HX.out⟩
theorem Tryz.info60:(Tryz.prog.info? 60).map (fun i=>(i.zero,i.size,i.bytes))=some (some (.agg #[.slice none 0 0,.int .i64 0,.int .i64 0,.int .i64 0,.bool false,.int .i64 0]),6,64):=by kernel_rfl
def aSt (L:List GE)(B:Nat)(W:World)(v i:Value)(wr:World):Prop :=
 ∃ (k:Nat) (xs:List Value),k<=L.length∧i=.int .i64 k∧wr.ownsRow W.heap.size 60 6 v k xs∧RL (REn wr (fun b=>B<=b∧b<W.heap.size)) (L.take k) xs∧Ext W wr
theorem yK (t:List GN)(vn:Value)(b:Int)(L:List GE)(g:CA)(P:Nat->Prop)(ve:Value)(w:World)(h:dU t vn b L g P ve w):Calls Tryz.prog 18 #[.pointer (some ⟨g.c,0,none⟩)] w (nO L w):=by
 have HC:=aV4 (mE t vn b L g P ve w h);have hfew:=h.few;clear h;obtain ⟨i0,hi,hz0,hz1,hz2⟩:=info_parts Tryz.info60;have HI:=aV4 hi;clear hi;go_enter Tryz.func18,Tryz.ntmps18;go_wp2_with fail;refine HC.out.mono ?_;rintro e W ⟨A4,c4,rfl,hE,hx⟩;have hwW:=hx.size;have HE:=aV4 (hE.carry (Q:=fun b=>w.heap.size<=b∧b<W.heap.size) (fun _ _ _=>rfl) (fun b hb h=>⟨h,hb⟩));have HX:=aV4 hx;have hle:=(Lst.form hE);obtain ⟨A9,c9,e9,h1,h2⟩:=hle;injection e9 with e91 _ e92;subst e91 e92;clear hE hx;go_wp2_with fail;go_loopw [3,5] (fun v i wr=>aSt L w.heap.size W v i wr) (fun _ i _=>L.length - (intOf i).toNat)
 case atStart=>exact ⟨0,[],Nat.zero_le _,rfl,aX _ _ _ _,by simp [RL],Ext.refl _⟩
 case round =>
  obtain ⟨k,xs,hk,rfl,hown,hr,hx⟩:=hrel;obtain ⟨A3,c3,e3,-,-,-⟩:=Sl.of_own hown;subst e3;have HOWN:=aV4 hown;have HR:=aV4 hr;have HXR:=aV4 hx;have hsz:=hx.size;clear hown hr hx
  by_cases hlt:k<L.length
  ·obtain ⟨b1,o1,A1,d1,rfl,hb1,hv1,hgc⟩:=(HE.out.ext HXR.out).get hlt
   obtain ⟨y,hy⟩:∃ y,y=L.getD k default:=⟨_,rfl⟩;have HY:=aV4 hy;rw [<- hy] at hv1 hgc;have HV1:=aV4 hv1;have n0:=hgc 0 _ rfl;have n1:=hgc 1 _ rfl;have n2:=hgc 2 _ rfl;have n3:=hgc 3 _ rfl;have n4:=hgc 4 _ rfl;have n5:=hgc 5 _ rfl;rw [Nat.add_zero] at n0;have lb1:b1<wr.heap.size:=by omega
   have hma:¬ some b1=(Value.slice A3 k c3).ownBlock:=fun e=>by have:=HOWN.out.block_ge e.symm;omega
   have hk0:(0:Int)<=(k:Int):=by omega
   have hk1:(k:Int)<(L.length:Int):=by omega
   clear hv1 hgc hy hb1;go_upto_region 6 with fail
   go_region_held3 (fun w'=>w'.cell? ⟨b1,o1+k*6,none⟩=some (.slice A1 y.path.length d1)∧w'.cell? ⟨b1,o1+k*6+1,none⟩=some (.int .i64 y.kind)∧w'.cell? ⟨b1,o1+k*6+2,none⟩=some (.int .i64 y.at_)∧w'.cell? ⟨b1,o1+k*6+3,none⟩=some (.int .i64 y.code)∧w'.cell? ⟨b1,o1+k*6+4,none⟩=some (.bool y.fresh)∧w'.cell? ⟨b1,o1+k*6+5,none⟩=some (.int .i64 y.hits))
    (first
     | (go_split_ands
        with_reducible exact ⟨eP hf5 hma ‹_›,eP hf5 hma ‹_›,eP hf5 hma ‹_›,eP hf5 hma ‹_›,eP hf5 hma ‹_›,eP hf5 hma ‹_›⟩)
     | go_keep)
    (first
     | (refine dQ _ (by rfl) (.tmp 14) (.tmp 36) 33 (by rfl) W.heap.size 60 i0 _ 6 64 Tryz.underlying33 HI.out hz0 hz1 hz2 rfl (by omega) (.slice A3 k c3) k xs (by rfl) ((HOWN.out.ext_ (Ext.refl _).drew').alloc _) (fun _=>True) (some ⟨wr.heap.size,0,none⟩) 1 1 (cG y A1 d1) (by rfl) (Sl.new wr.drew _ _ _ _ rfl) (by simp [cG,Value.oneCell']) (by omega) (by omega) (by simp;omega) ?_;intro v5 w5 ho5 hf5 hb5))
   have HO5:=aV4 ho5;have HF5:=aV4 hf5;clear ho5 hf5 n0 n1 n2 n3 n4 n5;go_wp2_with fail;go_roundw
   case rel =>
    have hff:Fr (fun k'=>some k'=(Value.slice A3 k c3).ownBlock) wr w5:=((Fr.of_ext ((Ext.refl wr).drew'.alloc' _)).trans HF5.out);have hkp:aD (fun b=>w.heap.size<=b∧b<W.heap.size) wr w5:=fun b hb hq=>hff.block b hb (fun e=>by have:=HOWN.out.block_ge e.symm;omega)
    refine ⟨k+1,_,by omega,by go_num,HO5.out,?_,?_⟩
    ·rw [aZ default hlt,<- HY.out]
     exact (HR.out.move fM hkp (fun _ _ h=>h)).append (RL.one ⟨A1,d1,rfl,HV1.out.carry hkp (fun _ _ h=>h)⟩)
    ·exact Fr.new_ext ((Fr.of_ext HXR.out).trans hff) (fun b hb=>HOWN.out.block_ge hb.symm)
   case measure=>simp [intOf];omega
  ·obtain rfl:k=L.length:=by omega
   have HF:=aV4 (show Ens wr (fun b=>w.heap.size<=b) (.slice A3 L.length c3) L from Lst.of_own HOWN.out (by
    have h:=HR.out;rw [List.take_length] at h;exact h.move fM (fun _ _ _=>rfl) (fun _ _ h=>h.1)) (by omega) (fun b hb=>by have:=HOWN.out.block_ge hb;omega))
   go_wp2_with fail;go_ret;exact ⟨A3,c3,rfl,HF.out,HX.out.trans' HXR.out⟩
def hY (t:List GN)(n1 n2:Value)(b1 b2:Int)(L1 L2:List GE)(g1 g2:CA)(B:Nat)(w:World):Prop :=
 ∃ P1 v1 P2 v2,rJ t n1 b1 L1 g1 P1 v1 B w∧rJ t n2 b2 L2 g2 P2 v2 B w∧aB9 g1 P1 v1 g2 P2 v2
section
variable {t:List GN}{n1 n2:Value}{b1 b2:Int}{L1 L2:List GE}{g1 g2:CA}{B:Nat}{w w0 w1:World}
theorem hY.swap (h:hY t n1 n2 b1 b2 L1 L2 g1 g2 B w):hY t n2 n1 b2 b1 L2 L1 g2 g1 B w:=by
 obtain ⟨P1,v1,P2,v2,h1,h2,h3⟩:=h;exact ⟨P2,v2,P1,v1,h2,h1,h3.swap⟩
theorem hY.ext (h:hY t n1 n2 b1 b2 L1 L2 g1 g2 B w)(hx:Ext w w1):hY t n1 n2 b1 b2 L1 L2 g1 g2 B w1:=by
 obtain ⟨P1,v1,P2,v2,h1,h2,h3⟩:=h;exact ⟨P1,v1,P2,v2,h1.ext hx,h2.ext hx,h3⟩
theorem hY.two {P1 P2:Nat->Prop}{v1 v2:Value}{C:Nat}(h1:rJ t n1 b1 L1 g1 P1 v1 B w0)(hC:w0.heap.size<=C)(hx:Ext w0 w)(h2:rJ t n2 b2 L2 g2 P2 v2 C w):hY t n1 n2 b1 b2 L1 L2 g1 g2 B w:=by
 have hBC:B<=C:=by have:=h1.lo g1.c (.inr (.inl rfl));omega
 refine ⟨P1,v1,P2,v2,h1.ext hx,⟨h2.cor,fun k hk=>⟨Nat.le_trans hBC (h2.lo k hk).1,(h2.lo k hk).2⟩⟩,?_,?_⟩
 ·intro k hk hm
  have:=h1.lo k hk;have:=h2.lo k (.inr hm);omega
 ·intro k hk hm
  have:=h1.lo k (.inr hm);have:=h2.lo k hk;omega
def aOb (t:List GN)(n1 n2:Value)(b1 b2:Int)(L1 L2:List GE)(x:GE)(g1 g2:CA)(B:Nat)(w:World)(e:Ending)(w':World):Prop :=
 e=.returned (.tuple #[.bool (sN (aU t) b1 L1 x),.int .i64 (xG (aU t) x)])∧hY t n1 n2 b1 b2 (nY (aU t) b1 L1 x) L2 g1 g2 B w'∧Fr (fun k=>B<=k) w w'
theorem hY.add (h:hY t n1 n2 b1 b2 L1 L2 g1 g2 B w0)(hx:Ext w0 w){Pp:Nat->Prop}{vp:Value}{path:List Int}(hp:bT w Pp vp path)(hPp:∀ i,Pp i->i<B∨w0.heap.size<=i)(k a c:Int)(f:Bool)
  (hk:I64 k)(ha:I64 a)(hc:I64 c)(hfew:L1.length+1<=100000)(hpl:path.length<=1000) :
  Calls Tryz.prog 12 #[.pointer (some ⟨g1.c,0,none⟩),vp,jL k a c,.bool f] w (aOb t n1 n2 b1 b2 L1 L2 (mkE path k a c f) g1 g2 B w):=by
 obtain ⟨P1,v1,P2,v2,h1,h2,h3⟩:=h;refine (aFc t n1 b1 L1 g1 P1 Pp v1 vp path k a c f w (h1.ext hx).cor hp (fun i hi hm=>?_) hk ha hc hfew hpl).mono ?_
 ·have:=h1.lo i (.inr hm)
  have:=hPp i hi;omega
 ·rintro e w' ⟨rfl,hA⟩
  obtain ⟨Q1,u1,m1,m2,m3,m4⟩:=(h1.ext hx).other (h2.ext hx) h3 hA;exact ⟨rfl,⟨Q1,u1,P2,v2,m1,m2,m3⟩,m4⟩
theorem hY.bytes (h:hY t n1 n2 b1 b2 L1 L2 g1 g2 B w):Calls Tryz.prog 15 #[.pointer (some ⟨g1.c,0,none⟩)] w (dC (.int .i64 (dE L1)) w):=by
 obtain ⟨P1,v1,P2,v2,h1,h2,h3⟩:=h;exact qL t n1 b1 L1 g1 P1 v1 w h1.cor
theorem hY.has (h:hY t n1 n2 b1 b2 L1 L2 g1 g2 B w){Pp:Nat->Prop}{vp:Value}{path:List Int}(hp:bT w Pp vp path):Calls Tryz.prog 19 #[.pointer (some ⟨g1.c,0,none⟩),vp] w (dC (.bool (gX path L1)) w):=by
 obtain ⟨P1,v1,P2,v2,h1,h2,h3⟩:=h;exact yI t n1 b1 L1 g1 P1 Pp v1 vp path w h1.cor hp
theorem hY.entriesOf (h:hY t n1 n2 b1 b2 L1 L2 g1 g2 B w):Calls Tryz.prog 54 #[.pointer (some ⟨g1.c,0,none⟩)] w (nO L1 w):=by
 obtain ⟨P1,v1,P2,v2,h1,h2,h3⟩:=h;exact mE t n1 b1 L1 g1 P1 v1 w h1.cor
end
section
variable {ρ:Operand->Value}{o:Oper}{w:World}
theorem aCd {A:Addr}(x:Operand)(ho:o.op=.binOp .eql 28 x (.const (.pointer none)) 28)(hx:ρ x=.pointer (some A))(hc:∀ v,ρ (.const v)=v):(execOp ρ o).run Tryz.prog w=.ok (.value (.bool false)) w:=by
 simp [execOp,ho,hx,hc,go_sem]
theorem yV {a b:Int}{c:Bool}(hd:(a != b)=c)(T:TypeId)(hT:T=3∨T=29)(x y:Operand)(ho:o.op=.binOp .neq T x y T)(hx:ρ x=.int .i64 a)(hy:ρ y=.int .i64 b):(execOp ρ o).run Tryz.prog w=.ok (.value (.bool c)) w:=by
 subst hd;rcases hT with rfl | rfl <;> simp [execOp,ho,hx,hy,go_sem,bne]
theorem aIs {a b:Int}{c:Bool}(hd:(a == b)=c)(T:TypeId)(hT:T=3∨T=29)(x y:Operand)(ho:o.op=.binOp .eql T x y T)(hx:ρ x=.int .i64 a)(hy:ρ y=.int .i64 b):(execOp ρ o).run Tryz.prog w=.ok (.value (.bool c)) w:=by
 subst hd;exact uZ T hT x y ho hx hy
theorem uY {u v:Value}(x:Operand)(ho:o.op=.extract x 0)(hx:ρ x=.tuple #[u,v]):(execOp ρ o).run Tryz.prog w=.ok (.value u) w:=by
 simp [execOp,ho,hx,go_sem]
theorem uX {u v:Value}(x:Operand)(ho:o.op=.extract x 1)(hx:ρ x=.tuple #[u,v]):(execOp ρ o).run Tryz.prog w=.ok (.value v) w:=by
 simp [execOp,ho,hx,go_sem]
theorem aCc {b c:Bool}(hd:(!b)=c)(x:Operand)(ho:o.op=.unOp .not 4 x)(hx:ρ x=.bool b):(execOp ρ o).run Tryz.prog w=.ok (.value (.bool c)) w:=by
 subst hd;simp [execOp,ho,hx,go_sem]
theorem aOo {A:Option Addr}{n c:Nat}(T:TypeId)(hT:T=36∨T=33∨T=93)(x:Operand)(ho:o.op=.call { callee:=.builtin .len,args:=#[x],argTypes:=#[T] })(hx:ρ x=.slice A n c):(execOp ρ o).run Tryz.prog w=.ok (.value (.int .i64 (n:Int))) w:=by
 rcases hT with rfl | rfl | rfl <;> simp [execOp,ho,hx,go_sem]
theorem gJ (ho:o.op=.build 46 #[]):(execOp ρ o).run Tryz.prog w=.ok (.value (jL 0 0 0)) w:=by
 simp [execOp,ho,go_sem]
theorem aCf {b off n c k:Nat}(x y:Operand)(ho:o.op=.indexAddr 93 x y)(hx:ρ x=.slice (some ⟨b,off,none⟩) n c)(hy:ρ y=.int .i64 (k:Int))(h1:k<n):(execOp ρ o).run Tryz.prog w=.ok (.value (.pointer (some ⟨b,off+k*6,none⟩))) w:=by
 have h2:(k:Int)<(n:Int):=by omega
 simp [execOp,ho,hx,hy,go_sem,h2]
theorem aFz {g f:Nat}(x:Operand)(ho:o.op=.fieldAddr 102 x 3)(hx:ρ x=.pointer (some ⟨g,f,none⟩)):(execOp ρ o).run Tryz.prog w=.ok (.value (.pointer (some ⟨g,f+5,none⟩))) w:=by
 simp [execOp,ho,hx,go_sem]
theorem aAs {x y:Int}(ho:o.op=.build 87 #[(0,.const (.int .i64 x)),(3,.const (.int .i64 y))])(hc:∀ v,ρ (.const v)=v):(execOp ρ o).run Tryz.prog w=.ok (.value (.agg #[.int .i64 x,.string ⟨#[]⟩,.int .i64 0,.int .i64 y,.slice none 0 0,.slice none 0 0,.slice none 0 0,.slice none 0 0,.int .i64 0,.int .i64 0,.string ⟨#[]⟩,.slice none 0 0])) w:=by
 simp [execOp,ho,hc,go_sem]
theorem aAt {A:Option Addr}{n c:Nat}(x:Operand)(ho:o.op=.build 25 #[(0,x)])(hx:ρ x=.slice A n c):(execOp ρ o).run Tryz.prog w=.ok (.value (.agg #[.slice A n c])) w:=by
 simp [execOp,ho,hx,go_sem]
end
theorem vC {P:Program}{o:Oper}{a:Act}{w:World}{K:Act->World->Prop}{Q:Exit->Act->World->Prop}(f:FuncId)(xs:Array Operand)(ats:Array TypeId)
  (hop:o.op=Op.call { callee:=Callee.value (Operand.func f),args:=xs,argTypes:=ats })(fn:Func)(hf:P.funcs[f]?=some fn)(hn:(fn.name == "runtime.NumGoroutine")=false) (hb:fn.body.isNone=false) (vs:Array Value) (hv:xs.map a.eval=vs) (h:Calls P f vs w fun e w'=>∃ v,e=.returned v∧K (a.put o.dst v) w') :
  Oper.wp P o a w K Q:=by
 unfold Oper.wp;obtain ⟨dst,op,ty,pos,after,guard⟩:=o;simp only at hop;subst hop;rw [execOp_call_go,hv];subst hv;have hp:Sem.run P program w=.ok P w:=rfl;simp only [callFunc,Array.append_empty,Array.empty_append,Sem.run_bind,hp,Result.andThen_ok,hf,hn,hb,Bool.false_eq_true,if_false,Sem.run_pure,Oper.upon];refine h.mono ?_;rintro e w' ⟨v,rfl,hk⟩;exact hk
section
variable {ops:Array Oper}{Q:Exit->Act->World->Prop}{a:Act}{w w1:World}{rest:List Oper}{o:Oper}
theorem mY (d gd:Nat){j:Nat}{want b:Bool}(hg:o.guard=some (j,want))(hj:(ops[j]?).bind (fun x=>x.dst)=some gd)(hs:gd<a.tmps.size)(he:a.eval (.tmp gd)=.bool b)(hbw:(b == want)=true)(hd:o.dst=some d)(f:FuncId)(xs:Array Operand)(ats:Array TypeId)(hop:o.op=Op.call { callee:=Callee.value (Operand.func f),args:=xs,argTypes:=ats })(fn:Func)(hf:Tryz.prog.funcs[f]?=some fn)(hn:(fn.name == "runtime.NumGoroutine")=false) (hb:fn.body.isNone=false) (vs:Array Value) (hv:xs.map a.eval=vs)
  (h:Calls Tryz.prog f vs w fun e w'=>∃ v,e=.returned v∧WL ops Q rest (a.put (some d) v) w'):WL ops Q (o :: rest) a w:=by
 have hw:Region.wanted o (yielded ops a.tmps)=true:=by rw [eV hg hj hs he,hbw]
 refine ⟨wpList_step (fun K hK=>?_)⟩;rw [if_pos hw];refine vC f xs ats hop fn hf hn hb vs hv (h.mono ?_);rintro e w' ⟨v,rfl,h2⟩;exact ⟨v,rfl,by rw [hd];exact hK _ _ h2.out⟩
end
end Go.Proofs.YtkoeecdjijfjnaaGreat
