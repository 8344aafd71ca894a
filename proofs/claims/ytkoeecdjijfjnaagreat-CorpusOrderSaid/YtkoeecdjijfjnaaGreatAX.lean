/- More single operations against a frame that is a variable. Conditions: none. Before it: Two corpora in memory; paths in another order. Conditions: none. The contract of New. Conditions: none. The contracts of clone.List at entries and Entries. Conditions: none. The contract of the law's entries. Conditions: none. Two corpora over one tree, side by side; the contracts of Add, Bytes, Has, Entries in these words; the plain end of CorpusOrder. Conditions: none. -/
import Derived.Deep.RegionHeld3
import Derived.Test.YtkoeecdjijfjnaaGreatLW
import Derived.Test.YtkoeecdjijfjnaaGreatKA
namespace Go.Proofs.YtkoeecdjijfjnaaGreat
open Go.RowKit
structure Mine (t:List GN)(vn:Value)(b:Int)(L:List GE)(g:CA)(P:Nat→Prop)(v:Value)(B:Nat)(w:World):Prop where
 cor:CorAt t vn b L g P v w
 lo:∀ k,P k∨g.M v k→B≤k∧k<w.heap.size
section
variable {t:List GN}{vn vn':Value}{b b':Int}{L L':List GE}{g g':CA}{P P':Nat→Prop}{v v':Value}{B:Nat}{w w':World}
theorem CorAt.mlt (h:CorAt t vn b L g P v w){k:Nat}(hk:g.M v k):k<w.heap.size:=by
 rcases hk with rfl | hk
 ·exact h.box.lt
 ·obtain ⟨xs,h1,-⟩:=h.own
  exact ownLt h1 hk.symm
theorem Mine.ext (h:Mine t vn b L g P v B w)(hx:Ext w w'):Mine t vn b L g P v B w':=⟨h.cor.ext hx,fun k hk=>⟨(h.lo k hk).1,Nat.lt_of_lt_of_le (h.lo k hk).2 hx.size⟩⟩
theorem Mine.after (h:Mine t vn b L g P v B w)(ha:After t vn b L' g P v w w'):∃ P' v',Mine t vn b L' g P' v' B w'∧Fr (fun k=>B≤k) w w'∧Fr (g.M v) w w'∧(∀ k,P' k→P k∨w.heap.size≤k)∧∀ k,g.M v' k→g.M v k∨w.heap.size≤k:=by
 obtain ⟨P1,v1,h1,h2,h3,h4⟩:=ha
 have hBw:B≤w.heap.size:=by have:=h.lo g.c (.inr (.inl rfl));omega
 have hM:∀ k,g.M v1 k→g.M v k∨w.heap.size≤k:=by
  intro k hk
  rcases hk with hk | hk
  ·exact .inl (.inl hk)
  ·rcases h4 with h4 | ⟨k',h4,h5⟩
   ·exact .inl (.inr (by rw [hk,h4]))
   ·rw [h4] at hk;injection hk with hk;subst hk;exact .inr h5
 have hc:=h1.carry (Q:=fun k=>P1 k∧k<w'.heap.size) (fun _ _ _=>rfl) (fun k hk hp=>⟨hp,hk⟩) (fun k hk=>h1.excl k hk.1)
 refine ⟨fun k=>P1 k∧k<w'.heap.size,v1,⟨hc,?_⟩,h3.mono (fun k hk=>(h.lo k (.inr hk)).1),h3,fun k hk=>h2 k hk.1,hM⟩
 intro k hk
 rcases hk with ⟨hk,hlt⟩ | hk
 ·refine ⟨?_,hlt⟩
  rcases h2 k hk with h5 | h5
  ·exact (h.lo k (.inl h5)).1
  ·omega
 ·refine ⟨?_,hc.mlt hk⟩
  rcases hM k hk with h5 | h5
  ·exact (h.lo k (.inr h5)).1
  ·omega
def Apart (g:CA)(P:Nat→Prop)(v:Value)(g':CA)(P':Nat→Prop)(v':Value):Prop:=(∀ k,P k∨g.M v k→¬ g'.M v' k)∧∀ k,P' k∨g'.M v' k→¬ g.M v k
theorem Apart.swap (h:Apart g P v g' P' v'):Apart g' P' v' g P v:=⟨h.2,h.1⟩
theorem Mine.other (h:Mine t vn b L g P v B w)(h':Mine t vn' b' L' g' P' v' B w)(ha:Apart g P v g' P' v'){L1:List GE}(hA:After t vn b L1 g P v w w') :
  ∃ P1 v1,Mine t vn b L1 g P1 v1 B w'∧Mine t vn' b' L' g' P' v' B w'∧Apart g P1 v1 g' P' v'∧Fr (fun k=>B≤k) w w':=by
 obtain ⟨P1,v1,h1,h2,h3,h4,h5⟩:=h.after hA
 refine ⟨P1,v1,h1,⟨h'.cor.carry (fun k hk hp=>h3.block k hk (ha.2 k hp)) (fun _ _ h=>h) h'.cor.excl,fun k hk=>⟨(h'.lo k hk).1,Nat.lt_of_lt_of_le (h'.lo k hk).2 h2.size⟩⟩,⟨?_,?_⟩,h2⟩
 ·intro k hk hm
  have hlt:=(h'.lo k (.inr hm)).2
  rcases hk with hk | hk
  ·rcases h4 k hk with h6 | h6
   ·exact ha.1 k (.inl h6) hm
   ·omega
  ·rcases h5 k hk with h6 | h6
   ·exact ha.1 k (.inr h6) hm
   ·omega
 ·intro k hk hm
  have hlt:=(h'.lo k hk).2
  rcases h5 k hm with h6 | h6
  ·exact ha.2 k hk h6
  ·omega
end
def rotL (gs:List (List Int))(a i:Nat):List (List Int):=(List.range i).map (fun j=>gs.getD ((a+gs.length - 1 - j) % gs.length) [])
theorem rotL_succ (gs:List (List Int))(a i:Nat):rotL gs a (i+1)=rotL gs a i ++ [gs.getD ((a+gs.length - 1 - i) % gs.length) []]:=by
 unfold rotL;rw [List.range_succ];simp
theorem rotL_len (gs:List (List Int))(a i:Nat):(rotL gs a i).length=i:=by unfold rotL;simp
theorem rot_all {gs:List (List Int)}{a:Nat}(ha:a<gs.length):∀ x,x ∈ gs ↔ x ∈ rotL gs a gs.length:=by
 intro x
 unfold rotL
 constructor
 ·intro hx
  obtain ⟨m,hm,rfl⟩:=List.getElem_of_mem hx
  refine List.mem_map.2 ?_
  by_cases h:a≤m
  ·refine ⟨a+gs.length - 1 - m,List.mem_range.2 (by omega),?_⟩
   rw [show a+gs.length - 1 - (a+gs.length - 1 - m)=m by omega,Nat.mod_eq_of_lt hm]
   simp [hm]
  ·refine ⟨a - 1 - m,List.mem_range.2 (by omega),?_⟩
   rw [show a+gs.length - 1 - (a - 1 - m)=m+gs.length by omega,Nat.add_mod_right,Nat.mod_eq_of_lt hm]
   simp [hm]
 ·intro hx
  obtain ⟨j,-,rfl⟩:=List.mem_map.1 hx
  exact getD_mem (Nat.mod_lt _ (by omega))
def RetNewC (t:List GN)(b:Int)(w:World)(e:Ending)(w':World):Prop :=
 ∃ g P' vn',e=.returned (.tuple #[.pointer (some ⟨g.c,0,none⟩),.int .i64 0])∧Mine t vn' b [] g P' (.slice none 0 0) w.heap.size w'∧Ext w w'
theorem smallT {t:List GN}(h:∀ x ∈ t,SmallN x):Small t:=fun x hx=>(h x hx).2.2.2.2.1
theorem new_mk {t:List GN}{vn:Value}{b:Int}{B0 gw gs gl gf:Nat}{P:Nat→Prop}{w5:World}(hW:WalkAt t vn gw gs gl gf P w5)(hP:∀ k,k<w5.heap.size→P k→B0≤k)(hB:B0≤w5.heap.size)(hb:0≤b∧b≤1099511627776)(hg:GoodTo t t.length) :
  Mine t vn b [] ⟨w5.heap.size,gw,gs,gl,gf⟩ (fun k=>B0≤k∧k<w5.heap.size) (.slice none 0 0) B0 (w5.alloc (.cells #[vn,.pointer (some ⟨gw,0,none⟩),.int .i64 b,.slice none 0 0] 95)):=by
 have hx:Ext w5 (w5.alloc (.cells #[vn,.pointer (some ⟨gw,0,none⟩),.int .i64 b,.slice none 0 0] 95)):=(Ext.refl _).alloc' _
 refine ⟨⟨Blk.new _ _ _,hW.carry (Keeps.of_ext hx) (fun k hk hp=>⟨hP k hk hp,hk⟩),⟨[],own_none _ _ _ _,by simp [RL]⟩,?_,by simp [Value.ownBlock],List.Pairwise.nil,hb,by simp,by simp,hg⟩,?_⟩
 ·intro k hk
  exact ⟨by show k ≠ w5.heap.size;omega,by simp [Value.ownBlock]⟩
 ·intro k hk
  rcases hk with hk | hk | hk
  ·simp;omega
  ·simp only at hk;subst hk;simp;omega
  ·simp [Value.ownBlock] at hk
set_option maxRecDepth 100000 in
set_option maxHeartbeats 2000000 in
theorem newOK_any (t:List GN)(P:Nat→Prop)(vn:Value)(b:Int)(w:World)(hP:∀ k,P k→k<w.heap.size)(ht:Nds w P vn t)(hsm:∀ x ∈ t,SmallN x)(hv:validT t=0)(hb:0≤b∧b≤1099511627776) :
  Calls Tryz.prog 10 #[.agg #[vn],.int .i64 b] w (RetNewC t b w):=by
 have hg:=validT_ok.1 hv
 have HV:=Lib.hid (fun (W:World) (hx:Ext w W)=>treeValid_any t P vn W (fun k hk=>Nat.lt_of_lt_of_le (hP k hk) hx.size) (ht.ext hx) (smallT hsm))
 rw [hv] at HV
 have HCL:=Lib.hid (fun (W:World) (hx:Ext w W)=>cloneTree_any t hsm P vn W (fun k hk=>Nat.lt_of_lt_of_le (hP k hk) hx.size) (ht.ext hx) (by have:=hg.2.1;omega))
 have HG:=Lib.hid hg
 obtain ⟨A,c,e,h1,h2⟩:=ht.form
 subst e
 have hd:decide (b<0)=false:=decide_eq_false (by omega)
 have hd2:decide (1099511627776<b)=false:=decide_eq_false (by omega)
 have HB:=Lib.hid hb
 clear hP ht hsm hv hg hb
 go_enter Tryz.func10,Tryz.ntmps10
 go_wp2_with fail
 have HE:=Lib.hid ((Ext.refl w).alloc' (.cells #[.slice A t.length c] 25))
 have HB0:=Lib.hid (Blk.new w 25 #[.slice A t.length c])
 have hsz:w.heap.size+1≤(w.alloc (.cells #[.slice A t.length c] 25)).heap.size:=by simp
 generalize w.alloc (.cells #[.slice A t.length c] 25)=W at *
 refine (HV.out _ HE.out).mono ?_
 rintro e w1 ⟨rfl,hx1⟩
 have HX1:=Lib.hid (HE.out.trans' hx1)
 have HB1:=Lib.hid (HB0.out.ext hx1)
 have hs1:=hx1.size
 have b1:=HB1.out.cell' (u:=.slice A t.length c) 0 rfl
 clear hx1
 go_wp2_with fail
 refine (HCL.out _ HX1.out).mono ?_
 rintro e w2 ⟨A2,c2,rfl,hN,hx2⟩
 have HX2:=Lib.hid (HX1.out.trans' hx2)
 have HB2:=Lib.hid (HB1.out.ext hx2)
 have hs2:=hx2.size
 have b2:=HB2.out.cell' (u:=.slice A t.length c) 0 rfl
 have f2:=HB2.out.frozen 0
 have HN:=Lib.hid hN
 clear hx2 b1 hN
 go_upto_region 7 with fail
 have HX3:=Lib.hid (show Ext w (w2.setCell ⟨w.heap.size,0,none⟩ (.slice A2 t.length c2)) from HX2.out.setCell' (p:=⟨w.heap.size,0,none⟩) (Nat.le_refl _) _)
 have HB3:=Lib.hid (HB2.out.set_ 0 (.slice A2 t.length c2))
 have HN3:=Lib.hid (show Nds (w2.setCell ⟨w.heap.size,0,none⟩ (.slice A2 t.length c2)) (fun k=>w1.heap.size≤k∧k<w2.heap.size) (.slice A2 t.length c2) t from HN.out.carry (Keeps.set (fun _ _ _=>rfl) _ (by show ¬ w1.heap.size≤w.heap.size;omega)) (fun k hk h=>⟨h,hk⟩))
 have hs3:w2.heap.size≤(w2.setCell ⟨w.heap.size,0,none⟩ (.slice A2 t.length c2)).heap.size:=by simp [World.setCell]
 generalize w2.setCell ⟨w.heap.size,0,none⟩ (.slice A2 t.length c2)=W3 at *
 have b3:=HB3.out.cell' (u:=.slice A2 t.length c2) 0 rfl
 have l3:=HB3.out.lt
 clear b2 f2
 go_region_held3 (fun w'=>w'.cell? ⟨w.heap.size,0,none⟩=some (.slice A2 t.length c2))
  (first
   | exact cell_ext hx5 ‹_›
   | go_keep)
  (first
   | (go_at_call 44;refine (walkNew_any t (fun k=>w1.heap.size≤k∧k<w2.heap.size) _ W3.drew (fun k hk=>by show k<W3.heap.size;omega) (HN3.out.ext (Ext.refl _).drew') HG.out).mono ?_;rintro e w5 ⟨gw,gs,gl,gf,rfl,hW5,hx5,-,-,-,-⟩))
 have HX5:=Lib.hid ((HX3.out.drew').trans' hx5)
 have hs5:=hx5.size
 have HW5:=Lib.hid hW5
 clear hW5 hx5 b3
 have hs5':W3.heap.size≤w5.heap.size:=hs5
 have HM:=Lib.hid (new_mk (B0:=w.heap.size) HW5.out (fun k hk hp=>by
  rcases hp with hp | hp
  ·omega
  ·have hp':W3.heap.size≤k:=hp
   omega) (by omega) HB.out HG.out)
 have HXF:=Lib.hid (HX5.out.alloc' (.cells #[.slice A2 t.length c2,.pointer (some ⟨gw,0,none⟩),.int .i64 b,.slice none 0 0] 95))
 go_wp2_with fail
 go_ret2
 exact ⟨_,_,_,rfl,HM.out,HXF.out⟩
def RetCEs (L:List GE)(w:World)(e:Ending)(w':World):Prop:=∃ A c,e=.returned (.slice A L.length c)∧Ens w' (fun b=>w.heap.size≤b) (.slice A L.length c) L∧Ext w w'
set_option maxRecDepth 100000 in
set_option maxHeartbeats 4000000 in
theorem cloneEntries_any (l:List GE)(P:Nat→Prop)(v:Value)(w:World)(hl:Ens w P v l)(hlen:l.length≤100000)(hF:∀ x ∈ l,x.path.length≤1000):Calls Tryz.prog 106 #[v,.func (.func 103) #[] #[]] w (RetCEs l w):=by
 have HF:=Lib.hid hF
 have HV:=Lib.hid hl
 obtain ⟨A,c,e,h1,h2⟩:=Lst.form hl
 subst e
 clear hl hF
 by_cases h0:l.length=0
 ·have t0:((l.length:Int) == 0)=true:=beq_iff_eq.2 (by omega)
  have hnil:l=[]:=List.eq_nil_of_length_eq_zero h0
  subst hnil
  clear h0
  go_enter Tryz.func106,Tryz.ntmps106
  go_wp2_with fail
  go_ret
  exact ⟨none,0,rfl,⟨none,0,[],rfl,Nat.le_refl _,by simp,⟨rfl,fun h=>by simp at h⟩,by simp [RL]⟩,Ext.refl _⟩
 ·have t0:((l.length:Int) == 0)=false:=beq_eq_false_iff_ne.2 (by omega)
  clear h0
  obtain ⟨i0,hi,hz0,hz1,hz2⟩:=info_parts Tryz.info102
  have hmk:∀ W:World,(Instr.makeSlice 93 (.int .i64 (l.length:Int)) (.int .i64 (l.length:Int))).run Tryz.prog W=.ok (.slice (some ⟨W.heap.size,0,none⟩) l.length l.length) (W.alloc (.cells (madeCells #[.slice none 0 0,.int .i64 0,.int .i64 0,.int .i64 0,.bool false,.int .i64 0] (l.length*6)) 102)):=by
   intro W
   have h:=run_make (P:=Tryz.prog) W 93 102 i0 _ Tryz.underlying93 hi hz0 .i64 .i64 (l.length:Int) (l.length:Int) (by omega) (Int.le_refl _) (by rw [hz2];omega) (by omega)
   rw [hz1] at h
   rw [h]
   rfl
  have hsz:=size_madeCells #[.slice none 0 0,.int .i64 0,.int .i64 0,.int .i64 0,.bool false,.int .i64 0] (l.length*6)
  generalize madeCells #[.slice none 0 0,.int .i64 0,.int .i64 0,.int .i64 0,.bool false,.int .i64 0] (l.length*6)=mc at *
  have HSZ:=Lib.hid hsz
  clear hsz hi hz0 hz1 hz2 i0
  go_enter Tryz.func106,Tryz.ntmps106
  go_wp2_with fail
  go_loopw [15] (fun i wr=>CLInv 6 REn l w.heap.size 102 w i wr) (fun i _=>l.length - (intOf i).toNat)
  case atStart=>exact cl_start mc HSZ.out
  case round =>
   obtain ⟨k,cs,hk,rfl,hB,hcl,hR,hx⟩:=hrel
   have HB:=Lib.hid hB
   have HCL:=Lib.hid hcl
   have HR:=Lib.hid hR
   have HX:=Lib.hid hx
   clear hB hcl hR hx
   by_cases hlt:k<l.length
   ·obtain ⟨b1,o1,A1,d1,rfl,-,hv1,hgc⟩:=(HV.out.ext HX.out).get hlt
    have hsm:=HF.out _ (getD_mem (d:=default) hlt)
    obtain ⟨x,hgx⟩:∃ x,x=l.getD k default:=⟨_,rfl⟩
    have HG:=Lib.hid hgx
    rw [← hgx] at hv1 hgc hsm
    have HCX:=Lib.hid (copied_any x A1 d1 P wr hv1 (by omega))
    have hkk:(k:Int)<(l.length:Int):=by omega
    have n0:=hgc 0 _ rfl
    have n1:=hgc 1 _ rfl
    have n2:=hgc 2 _ rfl
    have n3:=hgc 3 _ rfl
    have n4:=hgc 4 _ rfl
    have n5:=hgc 5 _ rfl
    rw [Nat.add_zero] at n0
    clear hv1 hgx hgc hsm
    go_wp2_with fail
    refine (HCX.out).mono ?_
    rintro e w1 ⟨A2,d2,rfl,hv2,hx2⟩
    have hBB:=HB.out.ext hx2
    have hcl:=HCL.out
    obtain ⟨y0,q0⟩:=hBB.some_ (i:=k*6) (by omega)
    obtain ⟨y1,q1⟩:=hBB.some_ (i:=k*6+1) (by omega)
    obtain ⟨y2,q2⟩:=hBB.some_ (i:=k*6+2) (by omega)
    obtain ⟨y3,q3⟩:=hBB.some_ (i:=k*6+3) (by omega)
    obtain ⟨y4,q4⟩:=hBB.some_ (i:=k*6+4) (by omega)
    obtain ⟨y5,q5⟩:=hBB.some_ (i:=k*6+5) (by omega)
    have f0:=hBB.frozen (k*6)
    have f1:=hBB.frozen (k*6+1)
    have f2:=hBB.frozen (k*6+2)
    have f3:=hBB.frozen (k*6+3)
    have f4:=hBB.frozen (k*6+4)
    have f5:=hBB.frozen (k*6+5)
    have HV2:=Lib.hid hv2
    have HX2:=Lib.hid hx2
    clear hv2 hx2 hBB hcl n0 n1 n2 n3 n4 n5
    go_wp2_with fail
    go_roundw
    case rel =>
     have:=HG.out
     subst this
     exact cl_step (w1:=w1) elemE default (Nat.le_refl _) hlt HB.out HCL.out HR.out HX.out HX2.out (us:=ecells _ A2 d2) ⟨A2,d2,rfl,HV2.out⟩
    case measure=>simp [intOf];omega
   ·obtain rfl:k=l.length:=by omega
    go_wp2_with fail
    go_ret
    exact ⟨_,_,rfl,cl_end elemE (Nat.le_refl _) (by omega) HB.out HCL.out HR.out,HX.out⟩
set_option maxHeartbeats 1000000 in
theorem entriesOf_any (t:List GN)(vn:Value)(b:Int)(L:List GE)(g:CA)(P:Nat→Prop)(ve:Value)(w:World)(h:CorAt t vn b L g P ve w):Calls Tryz.prog 54 #[.pointer (some ⟨g.c,0,none⟩)] w (RetCEs L w):=by
 have HC:=Lib.hid (cloneEntries_any L _ ve w h.ens h.few h.short)
 have c3:=h.cell3
 obtain ⟨Al,cl,el,h1,h2⟩:=Lst.form h.ens
 subst el
 clear h
 go_enter Tryz.func54,Tryz.ntmps54
 go_wp2_with fail
 refine HC.out.mono ?_
 rintro e w1 ⟨A1,c1,rfl,hE,hx⟩
 have HE:=Lib.hid hE
 have HX:=Lib.hid hx
 clear hE hx
 go_wp2_with fail
 go_ret
 exact ⟨A1,c1,rfl,HE.out,HX.out⟩
theorem Tryz.info60:(Tryz.prog.info? 60).map (fun i=>(i.zero,i.size,i.bytes))=some (some (.agg #[.slice none 0 0,.int .i64 0,.int .i64 0,.int .i64 0,.bool false,.int .i64 0]),6,64):=by kernel_rfl
def EntInv (L:List GE)(B:Nat)(W:World)(v i:Value)(wr:World):Prop :=
 ∃ (k:Nat) (xs:List Value),k≤L.length∧i=.int .i64 k∧wr.ownsRow W.heap.size 60 6 v k xs∧RL (REn wr (fun b=>B≤b∧b<W.heap.size)) (L.take k) xs∧Ext W wr
set_option maxRecDepth 100000 in
set_option maxHeartbeats 4000000 in
theorem entries_any (t:List GN)(vn:Value)(b:Int)(L:List GE)(g:CA)(P:Nat→Prop)(ve:Value)(w:World)(h:CorAt t vn b L g P ve w):Calls Tryz.prog 18 #[.pointer (some ⟨g.c,0,none⟩)] w (RetCEs L w):=by
 have HC:=Lib.hid (entriesOf_any t vn b L g P ve w h)
 have hfew:=h.few
 clear h
 obtain ⟨i0,hi,hz0,hz1,hz2⟩:=info_parts Tryz.info60
 have HI:=Lib.hid hi
 clear hi
 go_enter Tryz.func18,Tryz.ntmps18
 go_wp2_with fail
 refine HC.out.mono ?_
 rintro e W ⟨A4,c4,rfl,hE,hx⟩
 have hwW:=hx.size
 have HE:=Lib.hid (hE.carry (Q:=fun b=>w.heap.size≤b∧b<W.heap.size) (fun _ _ _=>rfl) (fun b hb h=>⟨h,hb⟩))
 have HX:=Lib.hid hx
 have hle:=(Lst.form hE)
 obtain ⟨A9,c9,e9,h1,h2⟩:=hle
 injection e9 with e91 _ e92
 subst e91 e92
 clear hE hx
 go_wp2_with fail
 go_loopw [3,5] (fun v i wr=>EntInv L w.heap.size W v i wr) (fun _ i _=>L.length - (intOf i).toNat)
 case atStart=>exact ⟨0,[],Nat.zero_le _,rfl,own_none _ _ _ _,by simp [RL],Ext.refl _⟩
 case round =>
  obtain ⟨k,xs,hk,rfl,hown,hr,hx⟩:=hrel
  obtain ⟨A3,c3,e3,-,-,-⟩:=Sl.of_own hown
  subst e3
  have HOWN:=Lib.hid hown
  have HR:=Lib.hid hr
  have HXR:=Lib.hid hx
  have hsz:=hx.size
  clear hown hr hx
  by_cases hlt:k<L.length
  ·obtain ⟨b1,o1,A1,d1,rfl,hb1,hv1,hgc⟩:=(HE.out.ext HXR.out).get hlt
   obtain ⟨y,hy⟩:∃ y,y=L.getD k default:=⟨_,rfl⟩
   have HY:=Lib.hid hy
   rw [← hy] at hv1 hgc
   have HV1:=Lib.hid hv1
   have n0:=hgc 0 _ rfl
   have n1:=hgc 1 _ rfl
   have n2:=hgc 2 _ rfl
   have n3:=hgc 3 _ rfl
   have n4:=hgc 4 _ rfl
   have n5:=hgc 5 _ rfl
   rw [Nat.add_zero] at n0
   have lb1:b1<wr.heap.size:=by omega
   have hma:¬ some b1=(Value.slice A3 k c3).ownBlock:=fun e=>by have:=HOWN.out.block_ge e.symm;omega
   have hk0:(0:Int)≤(k:Int):=by omega
   have hk1:(k:Int)<(L.length:Int):=by omega
   clear hv1 hgc hy hb1
   go_upto_region 6 with fail
   go_region_held3 (fun w'=>w'.cell? ⟨b1,o1+k*6,none⟩=some (.slice A1 y.path.length d1)∧w'.cell? ⟨b1,o1+k*6+1,none⟩=some (.int .i64 y.kind)∧w'.cell? ⟨b1,o1+k*6+2,none⟩=some (.int .i64 y.at_)∧w'.cell? ⟨b1,o1+k*6+3,none⟩=some (.int .i64 y.code)∧w'.cell? ⟨b1,o1+k*6+4,none⟩=some (.bool y.fresh)∧w'.cell? ⟨b1,o1+k*6+5,none⟩=some (.int .i64 y.hits))
    (first
     | (go_split_ands
        with_reducible exact ⟨cell_fr hf5 hma ‹_›,cell_fr hf5 hma ‹_›,cell_fr hf5 hma ‹_›,cell_fr hf5 hma ‹_›,cell_fr hf5 hma ‹_›,cell_fr hf5 hma ‹_›⟩)
     | go_keep)
    (first
     | (refine step_append_sl _ (by rfl) (.tmp 14) (.tmp 36) 33 (by rfl) W.heap.size 60 i0 _ 6 64 Tryz.underlying33 HI.out hz0 hz1 hz2 rfl (by omega) (.slice A3 k c3) k xs (by rfl) ((HOWN.out.ext_ (Ext.refl _).drew').alloc _) (fun _=>True) (some ⟨wr.heap.size,0,none⟩) 1 1 (ecells y A1 d1) (by rfl) (Sl.new wr.drew _ _ _ _ rfl) (by simp [ecells,Value.oneCell']) (by omega) (by omega) (by simp;omega) ?_;intro v5 w5 ho5 hf5 hb5))
   have HO5:=Lib.hid ho5
   have HF5:=Lib.hid hf5
   clear ho5 hf5 n0 n1 n2 n3 n4 n5
   go_wp2_with fail
   go_roundw
   case rel =>
    have hff:Fr (fun k'=>some k'=(Value.slice A3 k c3).ownBlock) wr w5:=((Fr.of_ext ((Ext.refl wr).drew'.alloc' _)).trans HF5.out)
    have hkp:Keeps (fun b=>w.heap.size≤b∧b<W.heap.size) wr w5:=fun b hb hq=>hff.block b hb (fun e=>by have:=HOWN.out.block_ge e.symm;omega)
    refine ⟨k+1,_,by omega,by go_num,HO5.out,?_,?_⟩
    ·rw [take_succ_getD default hlt,← HY.out]
     exact (HR.out.move elemE hkp (fun _ _ h=>h)).append (RL.one ⟨A1,d1,rfl,HV1.out.carry hkp (fun _ _ h=>h)⟩)
    ·exact Fr.new_ext ((Fr.of_ext HXR.out).trans hff) (fun b hb=>HOWN.out.block_ge hb.symm)
   case measure=>simp [intOf];omega
  ·obtain rfl:k=L.length:=by omega
   have HF:=Lib.hid (show Ens wr (fun b=>w.heap.size≤b) (.slice A3 L.length c3) L from Lst.of_own HOWN.out (by
    have h:=HR.out
    rw [List.take_length] at h
    exact h.move elemE (fun _ _ _=>rfl) (fun _ _ h=>h.1)) (by omega) (fun b hb=>by have:=HOWN.out.block_ge hb;omega))
   go_wp2_with fail
   go_ret
   exact ⟨A3,c3,rfl,HF.out,HX.out.trans' HXR.out⟩
def TwoAt (t:List GN)(n1 n2:Value)(b1 b2:Int)(L1 L2:List GE)(g1 g2:CA)(B:Nat)(w:World):Prop :=
 ∃ P1 v1 P2 v2,Mine t n1 b1 L1 g1 P1 v1 B w∧Mine t n2 b2 L2 g2 P2 v2 B w∧Apart g1 P1 v1 g2 P2 v2
section
variable {t:List GN}{n1 n2:Value}{b1 b2:Int}{L1 L2:List GE}{g1 g2:CA}{B:Nat}{w w0 w1:World}
theorem TwoAt.swap (h:TwoAt t n1 n2 b1 b2 L1 L2 g1 g2 B w):TwoAt t n2 n1 b2 b1 L2 L1 g2 g1 B w:=by
 obtain ⟨P1,v1,P2,v2,h1,h2,h3⟩:=h
 exact ⟨P2,v2,P1,v1,h2,h1,h3.swap⟩
theorem TwoAt.ext (h:TwoAt t n1 n2 b1 b2 L1 L2 g1 g2 B w)(hx:Ext w w1):TwoAt t n1 n2 b1 b2 L1 L2 g1 g2 B w1:=by
 obtain ⟨P1,v1,P2,v2,h1,h2,h3⟩:=h
 exact ⟨P1,v1,P2,v2,h1.ext hx,h2.ext hx,h3⟩
theorem TwoAt.two {P1 P2:Nat→Prop}{v1 v2:Value}{C:Nat}(h1:Mine t n1 b1 L1 g1 P1 v1 B w0)(hC:w0.heap.size≤C)(hx:Ext w0 w)(h2:Mine t n2 b2 L2 g2 P2 v2 C w):TwoAt t n1 n2 b1 b2 L1 L2 g1 g2 B w:=by
 have hBC:B≤C:=by have:=h1.lo g1.c (.inr (.inl rfl));omega
 refine ⟨P1,v1,P2,v2,h1.ext hx,⟨h2.cor,fun k hk=>⟨Nat.le_trans hBC (h2.lo k hk).1,(h2.lo k hk).2⟩⟩,?_,?_⟩
 ·intro k hk hm
  have:=h1.lo k hk
  have:=h2.lo k (.inr hm)
  omega
 ·intro k hk hm
  have:=h1.lo k (.inr hm)
  have:=h2.lo k hk
  omega
def RetAdd2 (t:List GN)(n1 n2:Value)(b1 b2:Int)(L1 L2:List GE)(x:GE)(g1 g2:CA)(B:Nat)(w:World)(e:Ending)(w':World):Prop :=
 e=.returned (.tuple #[.bool (addB (wholeB t) b1 L1 x),.int .i64 (addI (wholeB t) x)])∧TwoAt t n1 n2 b1 b2 (addE (wholeB t) b1 L1 x) L2 g1 g2 B w'∧Fr (fun k=>B≤k) w w'
theorem TwoAt.add (h:TwoAt t n1 n2 b1 b2 L1 L2 g1 g2 B w0)(hx:Ext w0 w){Pp:Nat→Prop}{vp:Value}{path:List Int}(hp:Ints w Pp vp path)(hPp:∀ i,Pp i→i<B∨w0.heap.size≤i)(k a c:Int)(f:Bool)
  (hk:I64 k)(ha:I64 a)(hc:I64 c)(hfew:L1.length+1≤100000)(hpl:path.length≤1000) :
  Calls Tryz.prog 12 #[.pointer (some ⟨g1.c,0,none⟩),vp,ragg k a c,.bool f] w (RetAdd2 t n1 n2 b1 b2 L1 L2 (mkE path k a c f) g1 g2 B w):=by
 obtain ⟨P1,v1,P2,v2,h1,h2,h3⟩:=h
 refine (add_any t n1 b1 L1 g1 P1 Pp v1 vp path k a c f w (h1.ext hx).cor hp (fun i hi hm=>?_) hk ha hc hfew hpl).mono ?_
 ·have:=h1.lo i (.inr hm)
  have:=hPp i hi
  omega
 ·rintro e w' ⟨rfl,hA⟩
  obtain ⟨Q1,u1,m1,m2,m3,m4⟩:=(h1.ext hx).other (h2.ext hx) h3 hA
  exact ⟨rfl,⟨Q1,u1,P2,v2,m1,m2,m3⟩,m4⟩
theorem TwoAt.bytes (h:TwoAt t n1 n2 b1 b2 L1 L2 g1 g2 B w):Calls Tryz.prog 15 #[.pointer (some ⟨g1.c,0,none⟩)] w (RetE (.int .i64 (bytesE L1)) w):=by
 obtain ⟨P1,v1,P2,v2,h1,h2,h3⟩:=h
 exact bytes_any t n1 b1 L1 g1 P1 v1 w h1.cor
theorem TwoAt.has (h:TwoAt t n1 n2 b1 b2 L1 L2 g1 g2 B w){Pp:Nat→Prop}{vp:Value}{path:List Int}(hp:Ints w Pp vp path):Calls Tryz.prog 19 #[.pointer (some ⟨g1.c,0,none⟩),vp] w (RetE (.bool (hasE path L1)) w):=by
 obtain ⟨P1,v1,P2,v2,h1,h2,h3⟩:=h
 exact has_any t n1 b1 L1 g1 P1 Pp v1 vp path w h1.cor hp
theorem TwoAt.entries (h:TwoAt t n1 n2 b1 b2 L1 L2 g1 g2 B w):Calls Tryz.prog 18 #[.pointer (some ⟨g1.c,0,none⟩)] w (RetCEs L1 w):=by
 obtain ⟨P1,v1,P2,v2,h1,h2,h3⟩:=h
 exact entries_any t n1 b1 L1 g1 P1 v1 w h1.cor
theorem TwoAt.entriesOf (h:TwoAt t n1 n2 b1 b2 L1 L2 g1 g2 B w):Calls Tryz.prog 54 #[.pointer (some ⟨g1.c,0,none⟩)] w (RetCEs L1 w):=by
 obtain ⟨P1,v1,P2,v2,h1,h2,h3⟩:=h
 exact entriesOf_any t n1 b1 L1 g1 P1 v1 w h1.cor
theorem TwoAt.size (h:TwoAt t n1 n2 b1 b2 L1 L2 g1 g2 B w):B≤w.heap.size∧L1.length≤100000∧L2.length≤100000:=by
 obtain ⟨P1,v1,P2,v2,h1,h2,h3⟩:=h
 have:=h1.lo g1.c (.inr (.inl rfl))
 exact ⟨by omega,h1.cor.few,h2.cor.few⟩
end
theorem kept_same {ok:List Int→Bool}{b:Int}{f:Bool}{ps:List (List Int)}{a:Nat}{L L':List GE}(h:Kept ok b f ps L)(h':Kept ok b f (rotL ps a ps.length) L')(ha:0<ps.length→a<ps.length):L.map GE.path=L'.map GE.path:=by
 rw [h.paths,h'.paths]
 rcases Nat.eq_zero_or_pos ps.length with h0 | h0
 ·have:ps=[]:=List.eq_nil_of_length_eq_zero h0
  subst this
  rfl
 ·rw [allS_perm ok (rot_all (ha h0))]
theorem same_len {L L':List GE}(h:L.map GE.path=L'.map GE.path):L.length=L'.length:=by
 have:=congrArg List.length h
 simpa using this
theorem same_at {L L':List GE}(h:L.map GE.path=L'.map GE.path){k:Nat}(hk:k<L.length):(L.getD k default).path=(L'.getD k default).path:=by
 have h2:=same_len h
 have e1:L.getD k default=L[k]:=by simp [hk]
 have e2:L'.getD k default=L'[k]:=by simp [show k<L'.length by omega]
 rw [e1,e2]
 have h3:(L.map GE.path)[k]?=(L'.map GE.path)[k]?:=by rw [h]
 simpa [hk,show k<L'.length by omega] using h3
section
variable {ρ:Operand→Value}{o:Oper}{w:World}
theorem y_nil28 {A:Addr}(x:Operand)(ho:o.op=.binOp .eql 28 x (.const (.pointer none)) 28)(hx:ρ x=.pointer (some A))(hc:∀ v,ρ (.const v)=v):(execOp ρ o).run Tryz.prog w=.ok (.value (.bool false)) w:=by
 simp [execOp,ho,hx,hc,go_sem]
theorem y_neqb {a b:Int}{c:Bool}(hd:(a != b)=c)(T:TypeId)(hT:T=3∨T=29)(x y:Operand)(ho:o.op=.binOp .neq T x y T)(hx:ρ x=.int .i64 a)(hy:ρ y=.int .i64 b):(execOp ρ o).run Tryz.prog w=.ok (.value (.bool c)) w:=by
 subst hd
 rcases hT with rfl | rfl <;> simp [execOp,ho,hx,hy,go_sem,bne]
theorem y_eqlb {a b:Int}{c:Bool}(hd:(a == b)=c)(T:TypeId)(hT:T=3∨T=29)(x y:Operand)(ho:o.op=.binOp .eql T x y T)(hx:ρ x=.int .i64 a)(hy:ρ y=.int .i64 b):(execOp ρ o).run Tryz.prog w=.ok (.value (.bool c)) w:=by
 subst hd
 exact y_eql T hT x y ho hx hy
theorem y_gtrb {a b:Int}{c:Bool}(hd:decide (b<a)=c)(x y:Operand)(ho:o.op=.binOp .gtr 3 x y 3)(hx:ρ x=.int .i64 a)(hy:ρ y=.int .i64 b):(execOp ρ o).run Tryz.prog w=.ok (.value (.bool c)) w:=by
 subst hd
 exact y_gtr x y ho hx hy
theorem y_geqb {a b:Int}{c:Bool}(hd:decide (b≤a)=c)(x y:Operand)(ho:o.op=.binOp .geq 3 x y 3)(hx:ρ x=.int .i64 a)(hy:ρ y=.int .i64 b):(execOp ρ o).run Tryz.prog w=.ok (.value (.bool c)) w:=by
 subst hd
 simp [execOp,ho,hx,hy,go_sem]
theorem y_ext0 {u v:Value}(x:Operand)(ho:o.op=.extract x 0)(hx:ρ x=.tuple #[u,v]):(execOp ρ o).run Tryz.prog w=.ok (.value u) w:=by
 simp [execOp,ho,hx,go_sem]
theorem y_ext1 {u v:Value}(x:Operand)(ho:o.op=.extract x 1)(hx:ρ x=.tuple #[u,v]):(execOp ρ o).run Tryz.prog w=.ok (.value v) w:=by
 simp [execOp,ho,hx,go_sem]
theorem y_notb {b c:Bool}(hd:(!b)=c)(x:Operand)(ho:o.op=.unOp .not 4 x)(hx:ρ x=.bool b):(execOp ρ o).run Tryz.prog w=.ok (.value (.bool c)) w:=by
 subst hd
 simp [execOp,ho,hx,go_sem]
theorem y_len {A:Option Addr}{n c:Nat}(T:TypeId)(hT:T=36∨T=33∨T=93)(x:Operand)(ho:o.op=.call { callee:=.builtin .len,args:=#[x],argTypes:=#[T] })(hx:ρ x=.slice A n c):(execOp ρ o).run Tryz.prog w=.ok (.value (.int .i64 (n:Int))) w:=by
 rcases hT with rfl | rfl | rfl <;> simp [execOp,ho,hx,go_sem]
theorem y_build46 (ho:o.op=.build 46 #[]):(execOp ρ o).run Tryz.prog w=.ok (.value (ragg 0 0 0)) w:=by
 simp [execOp,ho,go_sem]
theorem y_index36 {b off n c k:Nat}(x y:Operand)(ho:o.op=.indexAddr 36 x y)(hx:ρ x=.slice (some ⟨b,off,none⟩) n c)(hy:ρ y=.int .i64 (k:Int))(h1:k<n):(execOp ρ o).run Tryz.prog w=.ok (.value (.pointer (some ⟨b,off+k*5,none⟩))) w:=by
 have h2:(k:Int)<(n:Int):=by omega
 simp [execOp,ho,hx,hy,go_sem,h2]
theorem y_index33 {b off n c k:Nat}(x y:Operand)(ho:o.op=.indexAddr 33 x y)(hx:ρ x=.slice (some ⟨b,off,none⟩) n c)(hy:ρ y=.int .i64 (k:Int))(h1:k<n):(execOp ρ o).run Tryz.prog w=.ok (.value (.pointer (some ⟨b,off+k*6,none⟩))) w:=by
 have h2:(k:Int)<(n:Int):=by omega
 simp [execOp,ho,hx,hy,go_sem,h2]
theorem y_index93 {b off n c k:Nat}(x y:Operand)(ho:o.op=.indexAddr 93 x y)(hx:ρ x=.slice (some ⟨b,off,none⟩) n c)(hy:ρ y=.int .i64 (k:Int))(h1:k<n):(execOp ρ o).run Tryz.prog w=.ok (.value (.pointer (some ⟨b,off+k*6,none⟩))) w:=by
 have h2:(k:Int)<(n:Int):=by omega
 simp [execOp,ho,hx,hy,go_sem,h2]
theorem y_f43_0 {g f:Nat}(x:Operand)(ho:o.op=.fieldAddr 43 x 0)(hx:ρ x=.pointer (some ⟨g,f,none⟩)):(execOp ρ o).run Tryz.prog w=.ok (.value (.pointer (some ⟨g,f,none⟩))) w:=by
 simp [execOp,ho,hx,go_sem]
theorem y_f60_0 {g f:Nat}(x:Operand)(ho:o.op=.fieldAddr 60 x 0)(hx:ρ x=.pointer (some ⟨g,f,none⟩)):(execOp ρ o).run Tryz.prog w=.ok (.value (.pointer (some ⟨g,f,none⟩))) w:=by
 simp [execOp,ho,hx,go_sem]
theorem y_f102_3 {g f:Nat}(x:Operand)(ho:o.op=.fieldAddr 102 x 3)(hx:ρ x=.pointer (some ⟨g,f,none⟩)):(execOp ρ o).run Tryz.prog w=.ok (.value (.pointer (some ⟨g,f+5,none⟩))) w:=by
 simp [execOp,ho,hx,go_sem]
theorem y_build87r {x y:Int}(ho:o.op=.build 87 #[(0,.const (.int .i64 x)),(3,.const (.int .i64 y))])(hc:∀ v,ρ (.const v)=v):(execOp ρ o).run Tryz.prog w=.ok (.value (.agg #[.int .i64 x,.string ⟨#[]⟩,.int .i64 0,.int .i64 y,.slice none 0 0,.slice none 0 0,.slice none 0 0,.slice none 0 0,.int .i64 0,.int .i64 0,.string ⟨#[]⟩,.slice none 0 0])) w:=by
 simp [execOp,ho,hc,go_sem]
theorem y_build25s {A:Option Addr}{n c:Nat}(x:Operand)(ho:o.op=.build 25 #[(0,x)])(hx:ρ x=.slice A n c):(execOp ρ o).run Tryz.prog w=.ok (.value (.agg #[.slice A n c])) w:=by
 simp [execOp,ho,hx,go_sem]
end
theorem wp_goCall {P:Program}{o:Oper}{a:Act}{w:World}{K:Act→World→Prop}{Q:Exit→Act→World→Prop}(f:FuncId)(xs:Array Operand)(ats:Array TypeId)
  (hop:o.op=Op.call { callee:=Callee.value (Operand.func f),args:=xs,argTypes:=ats })(fn:Func)(hf:P.funcs[f]?=some fn)(hn:(fn.name == "runtime.NumGoroutine")=false) (hb:fn.body.isNone=false) (vs:Array Value) (hv:xs.map a.eval=vs) (h:Calls P f vs w fun e w'=>∃ v,e=.returned v∧K (a.put o.dst v) w') :
  Oper.wp P o a w K Q:=by
 unfold Oper.wp
 obtain ⟨dst,op,ty,pos,after,guard⟩:=o
 simp only at hop
 subst hop
 rw [execOp_call_go,hv]
 subst hv
 have hp:Sem.run P program w=.ok P w:=rfl
 simp only [callFunc,Array.append_empty,Array.empty_append,Sem.run_bind,hp,Result.andThen_ok,hf,hn,hb,Bool.false_eq_true,if_false,Sem.run_pure,Oper.upon]
 refine h.mono ?_
 rintro e w' ⟨v,rfl,hk⟩
 exact hk
section
variable {ops:Array Oper}{Q:Exit→Act→World→Prop}{a:Act}{w w1:World}{rest:List Oper}{o:Oper}
theorem l_callG (d gd:Nat){j:Nat}{want b:Bool}(hg:o.guard=some (j,want))(hj:(ops[j]?).bind (fun x=>x.dst)=some gd)(hs:gd<a.tmps.size)(he:a.eval (.tmp gd)=.bool b)(hbw:(b == want)=true)(hd:o.dst=some d)(f:FuncId)(xs:Array Operand)(ats:Array TypeId)(hop:o.op=Op.call { callee:=Callee.value (Operand.func f),args:=xs,argTypes:=ats })(fn:Func)(hf:Tryz.prog.funcs[f]?=some fn)(hn:(fn.name == "runtime.NumGoroutine")=false) (hb:fn.body.isNone=false) (vs:Array Value) (hv:xs.map a.eval=vs)
  (h:Calls Tryz.prog f vs w fun e w'=>∃ v,e=.returned v∧WL ops Q rest (a.put (some d) v) w'):WL ops Q (o :: rest) a w:=by
 have hw:Region.wanted o (yielded ops a.tmps)=true:=by rw [wanted_of hg hj hs he,hbw]
 refine ⟨wpList_step (fun K hK=>?_)⟩
 rw [if_pos hw]
 refine wp_goCall f xs ats hop fn hf hn hb vs hv (h.mono ?_)
 rintro e w' ⟨v,rfl,h2⟩
 exact ⟨v,rfl,by rw [hd];exact hK _ _ h2.out⟩
end
end Go.Proofs.YtkoeecdjijfjnaaGreat
