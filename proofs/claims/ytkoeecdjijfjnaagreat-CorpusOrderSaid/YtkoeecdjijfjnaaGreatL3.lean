/- The contract of the generator bind. Conditions: none. (printed by gen/l3.py) Before it: The contracts of the generators kid and leaf. Conditions: none. -/
import Derived.Test.YtkoeecdjijfjnaaGreatQ1
import Derived.Test.YtkoeecdjijfjnaaGreatPlM
namespace Go.Proofs.YtkoeecdjijfjnaaGreat
open Go.RowKit
set_option maxHeartbeats 400000 in
theorem kid_any (l:List Int)(i j:Nat)(P:Nat→Prop)(v:Value)(w:World)(hv:Ints w P v l)(hi:1≤i)(hi2:i≤1000)(hj:j≤1000) :
  Calls Tryz.prog 40 #[v,.int .i64 i,.int .i64 j] w fun e w'=>∃ n:Int,e=.returned (.int .i64 n)∧(0≤n∧n<i)∧w=w':=by
 have HC:=Lib.hid (pick_any l (3*(i:Int)+(j:Int)+2) 1000000 P v w hv (by unfold I64;omega) (by omega) (by omega))
 have hb:=pick_pos (l:=l) (i:=3*(i:Int)+(j:Int)+2) (m:=1000000) (by omega)
 generalize pick l (3*(i:Int)+(j:Int)+2) 1000000=k at *
 obtain ⟨A,c,e,h1,h2⟩:=hv.form
 subst e
 clear hv
 by_cases h3:k % 3=0
 ·go_enter Tryz.func40,Tryz.ntmps40
  go_wp2_with (go_at_call 38;refine HC.out.mono ?_;rintro e w' ⟨rfl,rfl⟩)
  go_ret
  exact ⟨_,rfl,⟨Int.emod_nonneg _ (by omega),Int.emod_lt_of_pos _ (by omega)⟩,rfl⟩
 ·go_enter Tryz.func40,Tryz.ntmps40
  go_wp2_with (go_at_call 38;refine HC.out.mono ?_;rintro e w' ⟨rfl,rfl⟩)
  all_goals
   go_ret
   exact ⟨_,rfl,by omega,rfl⟩
def RetLeaf (w:World)(e:Ending)(w':World):Prop:=∃ x A c,e=.returned (vagg x A c)∧VAt w' (fun b=>w.heap.size≤b) x A c∧gsz x≤2∧Ext w w'
theorem VAt.noKids {w:World}{P:Nat→Prop}{k n:Int}{s:ByteArray}(hk:I64 k)(hn:I64 n)(hs:s.size≤100):VAt w P (.mk k n s []) none 0 :=
 ⟨hk,hn,by show s.size≤_;omega,Nat.le_refl _,by simp [GV.kids],⟨none,0,[],rfl,by simp [GV.kids],by simp [GV.kids],⟨by simp [GV.kids],fun h=>absurd h (by simp [GV.kids])⟩,by simp [GV.kids,RVs]⟩⟩
set_option maxHeartbeats 1000000 in
theorem leaf_any (k:Int)(w:World)(h0:0≤k)(h1:k≤1000000):Calls Tryz.prog 39 #[.int .i64 k] w (RetLeaf w):=by
 by_cases h3:k % 4=0
 ·go_enter Tryz.func39,Tryz.ntmps39
  go_wp2_with fail
  exact bodyPost_ret (v:=.agg #[.int .i64 0,.int .i64 (k / 4 % 9 - 4),.string ⟨#[]⟩,.slice none 0 0]) (by simp [results,Tryz.results39,go_sem]) rfl ⟨.mk 0 (k / 4 % 9 - 4) ⟨#[]⟩ [],none,0,rfl,VAt.noKids (by unfold I64;omega) (by unfold I64;omega) (by decide),by simp [gsz,gszs],(Ext.refl _).alloc' _⟩
 ·by_cases h4:k % 4=1
  ·go_enter Tryz.func39,Tryz.ntmps39
   go_wp2_with fail
   exact bodyPost_ret (v:=.agg #[.int .i64 1,.int .i64 (k / 4 % 2),.string ⟨#[]⟩,.slice none 0 0]) (by simp [results,Tryz.results39,go_sem]) rfl ⟨.mk 1 (k / 4 % 2) ⟨#[]⟩ [],none,0,rfl,VAt.noKids (by unfold I64;omega) (by unfold I64;omega) (by decide),by simp [gsz,gszs],(Ext.refl _).alloc' _⟩
  ·by_cases h5:k % 4=2
   ·have hm:k / 4 % 3=0∨k / 4 % 3=1∨k / 4 % 3=2:=by omega
    rcases hm with hm | hm | hm
    ·go_enter Tryz.func39,Tryz.ntmps39
     go_wp2_with fail
     exact bodyPost_ret (v:=.agg #[.int .i64 3,.int .i64 0,.string ⟨#[76,101,97,102]⟩,.slice none 0 0]) (by simp [results,Tryz.results39,go_sem]) rfl ⟨.mk 3 0 ⟨#[76,101,97,102]⟩ [],none,0,rfl,VAt.noKids (by unfold I64;omega) (by unfold I64;omega) (by decide),by simp [gsz,gszs],((Ext.refl _).alloc' _).alloc' _⟩
    ·go_enter Tryz.func39,Tryz.ntmps39
     go_wp2_with fail
     exact bodyPost_ret (v:=.agg #[.int .i64 3,.int .i64 0,.string ⟨#[82,101,100]⟩,.slice none 0 0]) (by simp [results,Tryz.results39,go_sem]) rfl ⟨.mk 3 0 ⟨#[82,101,100]⟩ [],none,0,rfl,VAt.noKids (by unfold I64;omega) (by unfold I64;omega) (by decide),by simp [gsz,gszs],((Ext.refl _).alloc' _).alloc' _⟩
    ·go_enter Tryz.func39,Tryz.ntmps39
     go_wp2_with fail
     exact bodyPost_ret (v:=.agg #[.int .i64 3,.int .i64 0,.string ⟨#[88]⟩,.slice none 0 0]) (by simp [results,Tryz.results39,go_sem]) rfl ⟨.mk 3 0 ⟨#[88]⟩ [],none,0,rfl,VAt.noKids (by unfold I64;omega) (by unfold I64;omega) (by decide),by simp [gsz,gszs],((Ext.refl _).alloc' _).alloc' _⟩
   ·go_enter Tryz.func39,Tryz.ntmps39
    go_wp2_with fail
    have hB:=Blk.new' (w.alloc (.cells #[.int .i64 2,.int .i64 0,.string ⟨#[]⟩,.slice (some ⟨w.heap.size+1,0,none⟩) 1 1] 85)) 85 #[.int .i64 0,.int .i64 (k / 4 % 3),.string ⟨#[]⟩,.slice none 0 0] (g:=w.heap.size+1) (by simp)
    have hq:I64 (k / 4 % 3):=by unfold I64;omega
    have hz:I64 0:=by unfold I64;omega
    have h2:I64 2:=by unfold I64;omega
    refine bodyPost_ret (v:=.agg #[.int .i64 2,.int .i64 0,.string ⟨#[]⟩,.slice (some ⟨w.heap.size+1,0,none⟩) 1 1]) (by simp [results,Tryz.results39,go_sem]) rfl ⟨.mk 2 0 ⟨#[]⟩ [.mk 0 (k / 4 % 3) ⟨#[]⟩ []],some ⟨w.heap.size+1,0,none⟩,1,rfl,⟨h2,hz,by show (0:Nat)≤_;omega,by show 1≤1;omega,by show 1≤_∧1≤_;omega,⟨some ⟨w.heap.size+1,0,none⟩,1,[.int .i64 0,.int .i64 (k / 4 % 3),.string ⟨#[]⟩,.slice none 0 0],rfl,by show 1≤1;omega,by show 1≤_∧1≤_;omega,⟨rfl,fun _=>⟨w.heap.size+1,0,rfl,by show w.heap.size≤w.heap.size+1;omega,fun j u hu=>by rw [Nat.zero_add];exact hB.cell' j (by simpa using hu)⟩⟩,RVs.one (VAt.noKids (w:=_) (P:=_) hz hq (by decide)).rv⟩⟩,by simp [gsz,gszs],((Ext.refl _).alloc' _).alloc' _⟩
section
variable {w w':World}{P Q:Nat→Prop}
theorem Ints.nil:Ints w P (.slice none 0 0) []:=⟨none,0,rfl,Nat.le_refl _,by simp,by simp,⟨rfl,fun h=>absurd h (by simp)⟩⟩
theorem Strs.nil:Strs w P (.slice none 0 0) []:=⟨none,0,[],rfl,Nat.le_refl _,by simp,⟨rfl,fun h=>absurd h (by simp)⟩,by simp [RL]⟩
theorem Vals.nil:Vals w P (.slice none 0 0) []:=⟨none,0,[],rfl,Nat.le_refl _,by simp,⟨rfl,fun h=>absurd h (by simp)⟩,by simp [RVs]⟩
end
theorem own_set {w:World}{base:Nat}{e:TypeId}{size:Nat}{v:Value}{n:Nat}{xs:List Value}(h:w.ownsRow base e size v n xs){p:Addr}(hp:some p.block ≠ v.ownBlock)(u:Value):(w.setCell p u).ownsRow base e size v n xs:=by
 refine ⟨h.1,?_⟩
 rcases h.2 with h3 | ⟨G,cap,cur,h4,h5,h6,h7⟩
 ·exact .inl h3
 ·exact .inr ⟨G,cap,cur,h4,h5,(Below.heap_setCell _ _ _ _ (fun e=>hp (by rw [h4];simp [Value.ownBlock,e]))).trans h6,h7⟩
def RetBind (P:Nat→Prop)(w:World)(e:Ending)(w':World):Prop:=∃ x a,e=.returned (nagg x a)∧NAt w' (New P w.heap.size) x a∧SmallN x∧x.kind ≠ 3∧Ext w w'
def BindInv (n0:Nat)(Av:Option Addr)(cv:Nat)(gx B:Nat)(W:World)(jv:Value)(wr:World):Prop :=
 ∃ (j:Nat) (kids:List Int) (kv:Value),j≤n0∧jv=.int .i64 j∧kids.length=j+1∧(∀ z ∈ kids,I64 z)∧Blk wr gx 87 #[.int .i64 4,.string ⟨#[]⟩,.int .i64 0,.int .i64 0,.slice none 0 0,.slice none 0 0,.slice Av n0 cv,kv,.int .i64 0,.int .i64 0,.string ⟨#[]⟩,.slice none 0 0] ∧
  wr.ownsRow B 3 1 kv (j+1) (kids.map (Value.int .i64))∧some gx ≠ kv.ownBlock∧Ext W wr
set_option maxRecDepth 100000 in
set_option maxHeartbeats 4000000 in
theorem bind_any (t:List GN)(l:List Int)(k:Int)(P Q:Nat→Prop)(vn vl:Value)(w:World)(hg:GenOK t)(hlen:1≤t.length)(hlen2:t.length≤100)(hk0:0≤k)(hk1:k≤1000000)(hP:∀ b,P b→b<w.heap.size)(ht:Nds w P vn t)(hl:Ints w Q vl l) :
  Calls Tryz.prog 41 #[.agg #[vn],vl,.int .i64 t.length,.int .i64 k] w (RetBind P w):=by
 have HT:=Lib.hid ht
 have HL:=Lib.hid hl
 have HG:=Lib.hid hg
 have HP:=Lib.hid hP
 obtain ⟨An,cn,en,hn1,hn2⟩:=ht.form
 subst en
 obtain ⟨Al,cl,el,hl1,hl2⟩:=hl.form
 subst el
 obtain ⟨i0,hi,hz0,hz1,hz2⟩:=info_parts Tryz.info3
 have HI:=Lib.hid hi
 clear ht hl hg hP hi
 go_enter Tryz.func41,Tryz.ntmps41
 go_upto_region 1 with fail
 have HE:=Lib.hid (show Ext w ((w.alloc (.cells #[.slice An t.length cn] 25)).alloc (.cells #[.int .i64 0,.string ⟨#[]⟩,.int .i64 0,.int .i64 0,.slice none 0 0,.slice none 0 0,.slice none 0 0,.slice none 0 0,.int .i64 0,.int .i64 0,.string ⟨#[]⟩,.slice none 0 0] 87)) from ((Ext.refl w).alloc' _).alloc' _)
 have HB:=Lib.hid ((Blk.new w 25 #[.slice An t.length cn]).alloc (.cells #[.int .i64 0,.string ⟨#[]⟩,.int .i64 0,.int .i64 0,.slice none 0 0,.slice none 0 0,.slice none 0 0,.slice none 0 0,.int .i64 0,.int .i64 0,.string ⟨#[]⟩,.slice none 0 0] 87))
 have HR:=Lib.hid (Blk.new' (w.alloc (.cells #[.slice An t.length cn] 25)) 87 #[.int .i64 0,.string ⟨#[]⟩,.int .i64 0,.int .i64 0,.slice none 0 0,.slice none 0 0,.slice none 0 0,.slice none 0 0,.int .i64 0,.int .i64 0,.string ⟨#[]⟩,.slice none 0 0] (g:=w.heap.size+1) (by simp))
 have hsz:w.heap.size+2≤((w.alloc (.cells #[.slice An t.length cn] 25)).alloc (.cells #[.int .i64 0,.string ⟨#[]⟩,.int .i64 0,.int .i64 0,.slice none 0 0,.slice none 0 0,.slice none 0 0,.slice none 0 0,.int .i64 0,.int .i64 0,.string ⟨#[]⟩,.slice none 0 0] 87)).heap.size:=by simp
 generalize (w.alloc (.cells #[.slice An t.length cn] 25)).alloc (.cells #[.int .i64 0,.string ⟨#[]⟩,.int .i64 0,.int .i64 0,.slice none 0 0,.slice none 0 0,.slice none 0 0,.slice none 0 0,.int .i64 0,.int .i64 0,.string ⟨#[]⟩,.slice none 0 0] 87)=W at *
 have b0:=HB.out.cell' (u:=.slice An t.length cn) 0 rfl
 go_upto_region 2 with (go_at_call 40;refine (kid_any l t.length 0 Q _ W (HL.out.ext HE.out) hlen (by omega) (by omega)).mono ?_;rintro e w1 ⟨nf,rfl,hnf,rfl⟩)
 obtain ⟨n,rfl⟩:∃ n:Nat,nf=(n:Int):=⟨nf.toNat,by omega⟩
 have hnl:n<t.length:=by omega
 have HVS:=Lib.hid (HG.out.vals hnl)
 have hgood:=validT_ok.1 HG.out.good
 have HV:=Lib.hid (values_any t n P _ W (HT.out.ext HE.out) (hgood.mono (by omega)))
 clear hgood
 generalize (listsR t).getD n default=gl at *
 obtain ⟨vals,many⟩:=gl
 go_upto_region 3 with (go_at_call 86;refine HV.out.mono ?_;rintro e w1 ⟨Av,cv,rfl,hv1,hx1⟩)
 have HV1:=Lib.hid hv1
 have HX1:=Lib.hid (HE.out.trans' hx1)
 have HR1:=Lib.hid (HR.out.ext hx1)
 have hs1:=hx1.size
 obtain ⟨A9,c9,e9,hcap1,hcap2⟩:=hv1.form
 injection e9 with e91 _ e92
 subst e91 e92
 clear hv1 hx1 b0 HV
 try dsimp only at HV1
 try dsimp only at HVS
 try dsimp only at hcap1
 try dsimp only at hcap2
 try dsimp only
 generalize hn0:vals.length=n0 at *
 have HN0:=Lib.hid hn0
 clear hn0
 have HLF:=Lib.hid (fun (V:World)=>leaf_any k V hk0 hk1)
 cases many with
 | true =>
  go_wp2_with (go_at_call 39;refine (HLF.out _).mono ?_;rintro e w2 ⟨y,Ay,cy,rfl,hy,hgy,hx2⟩;have R2:=HR1.out.ext hx2;have rc0:=R2.cell' (u:=.int .i64 0) 0 rfl;have rc1:=R2.cell' (u:=.string ⟨#[]⟩) 1 rfl;have rc2:=R2.cell' (u:=.int .i64 0) 2 rfl;have rc3:=R2.cell' (u:=.int .i64 0) 3 rfl;have rc4:=R2.cell' (u:=.slice none 0 0) 4 rfl;have rc5:=R2.cell' (u:=.slice none 0 0) 5 rfl;have rc6:=R2.cell' (u:=.slice none 0 0) 6 rfl;have rc7:=R2.cell' (u:=.slice none 0 0) 7 rfl;have rc8:=R2.cell' (u:=.int .i64 0) 8 rfl;have rc9:=R2.cell' (u:=.int .i64 0) 9 rfl;have rc10:=R2.cell' (u:=.string ⟨#[]⟩) 10 rfl;have rc11:=R2.cell' (u:=.slice none 0 0) 11 rfl;have rf0:=R2.frozen 0;have rf1:=R2.frozen 1;have rf2:=R2.frozen 2;have rf3:=R2.frozen 3;have rf4:=R2.frozen 4;have rf5:=R2.frozen 5;have rf6:=R2.frozen 6;have rf7:=R2.frozen 7;have rf8:=R2.frozen 8;have rf9:=R2.frozen 9;have rf10:=R2.frozen 10;have rf11:=R2.frozen 11;have HR2:=Lib.hid R2;have HX2:=Lib.hid (HX1.out.trans' hx2);have HY:=Lib.hid hy;have hs2:=hx2.size;clear R2 hx2 hy)
  have hfin:=setCells_blk [.int .i64 0,.string ⟨#[]⟩,.int .i64 0,.int .i64 0,.slice none 0 0,.slice none 0 0,.slice none 0 0,.slice none 0 0,.int .i64 y.kind,.int .i64 y.n,.string y.s,.slice Ay y.kids.length cy] (w:=w2) (cs:=[.int .i64 0,.string ⟨#[]⟩,.int .i64 0,.int .i64 0,.slice none 0 0,.slice none 0 0,.slice none 0 0,.slice none 0 0,.int .i64 0,.int .i64 0,.string ⟨#[]⟩,.slice none 0 0]) (g:=w.heap.size+1) (t:=87) 0 HR2.out (by simp)
  simp only [List.take_zero,List.nil_append,List.length_cons,List.length_nil,Nat.zero_add,List.drop_succ_cons,List.drop_nil,List.append_nil] at hfin
  have z0:=hfin.cell' (u:=.int .i64 0) 0 rfl
  have z1:=hfin.cell' (u:=.string ⟨#[]⟩) 1 rfl
  have z2:=hfin.cell' (u:=.int .i64 0) 2 rfl
  have z3:=hfin.cell' (u:=.int .i64 0) 3 rfl
  have z4:=hfin.cell' (u:=.slice none 0 0) 4 rfl
  have z5:=hfin.cell' (u:=.slice none 0 0) 5 rfl
  have z6:=hfin.cell' (u:=.slice none 0 0) 6 rfl
  have z7:=hfin.cell' (u:=.slice none 0 0) 7 rfl
  have z8:=hfin.cell' (u:=.int .i64 y.kind) 8 rfl
  have z9:=hfin.cell' (u:=.int .i64 y.n) 9 rfl
  have z10:=hfin.cell' (u:=.string y.s) 10 rfl
  have z11:=hfin.cell' (u:=.slice Ay y.kids.length cy) 11 rfl
  have hE:Ext w (w2.setCells (w.heap.size+1) 0 [.int .i64 0,.string ⟨#[]⟩,.int .i64 0,.int .i64 0,.slice none 0 0,.slice none 0 0,.slice none 0 0,.slice none 0 0,.int .i64 y.kind,.int .i64 y.n,.string y.s,.slice Ay y.kids.length cy]):=((Fr.of_ext (M:=fun _=>False) HX2.out).setCells _ 0 (.inr (by omega))).ext
  have hV:VAt (w2.setCells (w.heap.size+1) 0 [.int .i64 0,.string ⟨#[]⟩,.int .i64 0,.int .i64 0,.slice none 0 0,.slice none 0 0,.slice none 0 0,.slice none 0 0,.int .i64 y.kind,.int .i64 y.n,.string y.s,.slice Ay y.kids.length cy]) (New P w.heap.size) y Ay cy:=HY.out.carry (Keeps.setCells (by omega) _ 0 (fun _ _ _=>rfl)) (fun b _ h=>.inr (by omega))
  have hgen:((((((((((((w2).setCell ⟨w.heap.size+1,0,none⟩ (.int .i64 0)).setCell ⟨w.heap.size+1,1,none⟩ (.string ⟨#[]⟩)).setCell ⟨w.heap.size+1,2,none⟩ (.int .i64 0)).setCell ⟨w.heap.size+1,3,none⟩ (.int .i64 0)).setCell ⟨w.heap.size+1,4,none⟩ (.slice none 0 0)).setCell ⟨w.heap.size+1,5,none⟩ (.slice none 0 0)).setCell ⟨w.heap.size+1,6,none⟩ (.slice none 0 0)).setCell ⟨w.heap.size+1,7,none⟩ (.slice none 0 0)).setCell ⟨w.heap.size+1,8,none⟩ (.int .i64 y.kind)).setCell ⟨w.heap.size+1,9,none⟩ (.int .i64 y.n)).setCell ⟨w.heap.size+1,10,none⟩ (.string y.s)).setCell ⟨w.heap.size+1,11,none⟩ (.slice Ay y.kids.length cy)=w2.setCells (w.heap.size+1) 0 [.int .i64 0,.string ⟨#[]⟩,.int .i64 0,.int .i64 0,.slice none 0 0,.slice none 0 0,.slice none 0 0,.slice none 0 0,.int .i64 y.kind,.int .i64 y.n,.string y.s,.slice Ay y.kids.length cy]:=rfl
  rw [hgen]
  clear hgen
  generalize w2.setCells (w.heap.size+1) 0 [.int .i64 0,.string ⟨#[]⟩,.int .i64 0,.int .i64 0,.slice none 0 0,.slice none 0 0,.slice none 0 0,.slice none 0 0,.int .i64 y.kind,.int .i64 y.n,.string y.s,.slice Ay y.kids.length cy]=WF at *
  exact bodyPost_ret (v:=nagg ⟨0,⟨#[]⟩,0,0,[],[],[],[],y⟩ ⟨none,0,none,0,none,0,none,0,Ay,cy⟩) (by simp [results,Tryz.results41,go_sem,z0,z1,z2,z3,z4,z5,z6,z7,z8,z9,z10,z11]) rfl ⟨_,_,rfl,⟨by simp [I64],by show (0:Nat)≤_;omega,by simp [I64],by simp [I64],Ints.nil,Strs.nil,Vals.nil,Ints.nil,hV⟩,⟨by simp,by simp,by simp,by simp,by show gsz y≤_;omega,by simp⟩,by simp,hE⟩
 | false =>
  by_cases hn6:n0≤6
  ·have hd:decide (6<(n0:Int))=false:=decide_eq_false (by omega)
   go_upto_region 6 with fail
   have HE2:=Lib.hid (show Ext w1 ((w1.alloc (.cells #[.int .i64 n] 3)).alloc (.cells #[.int .i64 4,.string ⟨#[]⟩,.int .i64 0,.int .i64 0,.slice none 0 0,.slice none 0 0,.slice Av n0 cv,.slice (some ⟨w1.heap.size,0,none⟩) 1 1,.int .i64 0,.int .i64 0,.string ⟨#[]⟩,.slice none 0 0] 87)) from ((Ext.refl w1).alloc' _).alloc' _)
   have HKO:=Lib.hid (show ((w1.alloc (.cells #[.int .i64 n] 3)).alloc (.cells #[.int .i64 4,.string ⟨#[]⟩,.int .i64 0,.int .i64 0,.slice none 0 0,.slice none 0 0,.slice Av n0 cv,.slice (some ⟨w1.heap.size,0,none⟩) 1 1,.int .i64 0,.int .i64 0,.string ⟨#[]⟩,.slice none 0 0] 87)).ownsRow w1.heap.size 3 1 (.slice (some ⟨w1.heap.size,0,none⟩) 1 1) 1 [.int .i64 n] from ((World.ownsRow_lit w1 #[.int .i64 n] 1 (Nat.le_refl _) (by unfold maxLen;omega) rfl)).alloc _)
   have HBX:=Lib.hid (Blk.new' (w1.alloc (.cells #[.int .i64 n] 3)) 87 #[.int .i64 4,.string ⟨#[]⟩,.int .i64 0,.int .i64 0,.slice none 0 0,.slice none 0 0,.slice Av n0 cv,.slice (some ⟨w1.heap.size,0,none⟩) 1 1,.int .i64 0,.int .i64 0,.string ⟨#[]⟩,.slice none 0 0] (g:=w1.heap.size+1) (by simp))
   have hsz2:w1.heap.size+2≤((w1.alloc (.cells #[.int .i64 n] 3)).alloc (.cells #[.int .i64 4,.string ⟨#[]⟩,.int .i64 0,.int .i64 0,.slice none 0 0,.slice none 0 0,.slice Av n0 cv,.slice (some ⟨w1.heap.size,0,none⟩) 1 1,.int .i64 0,.int .i64 0,.string ⟨#[]⟩,.slice none 0 0] 87)).heap.size:=by simp
   generalize (w1.alloc (.cells #[.int .i64 n] 3)).alloc (.cells #[.int .i64 4,.string ⟨#[]⟩,.int .i64 0,.int .i64 0,.slice none 0 0,.slice none 0 0,.slice Av n0 cv,.slice (some ⟨w1.heap.size,0,none⟩) 1 1,.int .i64 0,.int .i64 0,.string ⟨#[]⟩,.slice none 0 0] 87)=W2 at *
   generalize hgx:w1.heap.size+1=gx at *
   have HGX:=Lib.hid hgx
   have HKI:=Lib.hid (show BindInv n0 Av cv gx w1.heap.size w1 (.int .i64 0) W2 from ⟨0,[(n:Int)],_,Nat.zero_le _,rfl,rfl,fun z hz=>by simp only [List.mem_singleton] at hz;subst hz;unfold I64;omega,HBX.out,HKO.out,by simp [Value.ownBlock];omega,HE2.out⟩)
   have hgx1:w1.heap.size<gx:=by omega
   have hgx2:gx<W2.heap.size:=by omega
   clear hgx HBX HKO hd
   go_wp2_with fail
   go_loopw [13] (fun j wr=>BindInv n0 Av cv gx w1.heap.size w1 j wr) (fun j _=>n0 - (intOf j).toNat)
   case atStart=>exact HKI.out
   case round =>
    obtain ⟨j,kids,kv,hj,rfl,hkl,hk64,hB,hown,hne,hF⟩:=hrel
    obtain ⟨A7,c7,e7,-,-,-⟩:=Sl.of_own hown
    subst e7
    have HOWN:=Lib.hid hown
    have HKL:=Lib.hid hkl
    have HK64:=Lib.hid hk64
    have HBX:=Lib.hid hB
    have HF:=Lib.hid hF
    have hsw:=hF.size
    have hne':¬ some gx=(Value.slice A7 (j+1) c7).ownBlock:=hne
    have HEX:=Lib.hid (HX1.out.trans' hF)
    clear hown hkl hk64 hB hF hne
    by_cases hlt:j<n0
    ·have HKC:=Lib.hid (fun (V:World) (hE:Ext wr V)=>show Calls Tryz.prog 40 #[.slice Al l.length cl,.int .i64 t.length,.int .i64 ((j:Int)+1)] V _ from (by have h:=kid_any l t.length (j+1) Q _ V (HL.out.ext (HEX.out.trans' hE)) hlen (by omega) (by omega);rw [show ((j+1:Nat):Int)=(j:Int)+1 by omega] at h;exact h))
     have x7:=HBX.out.cell' (u:=.slice A7 (j+1) c7) 7 rfl
     have lx:=HBX.out.lt
     have hwr:IntKind.i64.wrap ((j:Int)+1)=(j:Int)+1:=IntWalk.i64_in _ (by omega)
     go_upto_region 9 with fail
     go_region_law (first
      | (refine step_call (by rfl) 40 #[.tmp 45,.tmp 46,.tmp 48] #[22,3,3] (by rfl) _ Tryz.func40 (by rfl) (by rfl) #[.slice Al l.length cl,.int .i64 t.length,.int .i64 ((j:Int)+1)] (by simp [Act.eval,Act.put]) ?_;refine (HKC.out _ (Ext.refl wr).drew').mono ?_;rintro e w' ⟨nk,rfl,hnk,rfl⟩;refine ⟨_,rfl,?_⟩)
      | (refine step_append_sl _ (by rfl) (.tmp 44) (.tmp 50) 22 (by rfl) w1.heap.size 3 i0 _ 1 8 Tryz.underlying22 HI.out hz0 hz1 hz2 rfl (by omega) (.slice A7 (j+1) c7) (j+1) (kids.map (Value.int .i64)) (by rfl) ((HOWN.out.ext_ (Ext.refl _).drew').alloc _) (fun _=>True) (some ⟨wr.heap.size,0,none⟩) 1 1 [.int .i64 nk] (by rfl) (Sl.new wr.drew _ _ _ _ rfl) (by simp [Value.oneCell']) (by omega) (by omega) (by simp;omega) ?_;intro v5 w5 ho5 hf5 hb5;obtain ⟨A5,c5,e5,-,-,-⟩:=Sl.of_own ho5;subst e5;have R5:=(HBX.out.drew.alloc (.cells #[.int .i64 nk] 3)).fr hf5 hne';have y7:=R5.cell' (u:=.slice A7 (j+1) c7) 7 rfl;have y7f:=R5.frozen 7;have HR5:=Lib.hid R5;have HO5:=Lib.hid ho5;have HF5:=Lib.hid hf5;have HB5:=Lib.hid hb5;clear R5 ho5 hf5 hb5))
     all_goals
      clear hwr
      go_wp2_with fail
      go_roundw
      case rel =>
       have hs5:=HF5.out.size
       have hown5:w1.heap.size≤gx:=by omega
       have hne5:some gx ≠ (Value.slice A5 (j+1+1) c5).ownBlock:=by
        rcases HB5.out with h | h
        ·rw [h];exact hne'
        ·rw [h];intro e;injection e with e;simp at e;omega
       have hfr:Fr (fun b=>w1.heap.size≤b) w1 (w5.setCell ⟨gx,7,none⟩ (.slice A5 (j+1+1) c5)):=by
        refine Fr.setCell ?_ (.inl hown5) _
        exact ((Fr.of_ext ((HF.out.drew').alloc' _)).trans (HF5.out.mono (fun b hb=>HOWN.out.block_ge hb.symm)))
       refine ⟨j+1,kids ++ [nk],.slice A5 (j+1+1) c5,by omega,by go_num,by rw [List.length_append,HKL.out];rfl,?_,HR5.out.set_ 7 _,?_,hne5,hfr.new_ext (fun _ h=>h)⟩
       ·intro z hz
        rcases List.mem_append.1 hz with hz | hz
        ·exact HK64.out z hz
        ·simp only [List.mem_singleton] at hz;subst hz;unfold I64;omega
       ·refine World.ownsRow.len_cast (own_set HO5.out (p:=⟨gx,7,none⟩) (fun e=>hne5 e) _) rfl (by simp)
      case measure=>simp [intOf];omega
    ·obtain rfl:j=n0:=by omega
     have R2:=HR1.out.ext HF.out
     have rc0:=R2.cell' (u:=.int .i64 0) 0 rfl
     have rc1:=R2.cell' (u:=.string ⟨#[]⟩) 1 rfl
     have rc2:=R2.cell' (u:=.int .i64 0) 2 rfl
     have rc3:=R2.cell' (u:=.int .i64 0) 3 rfl
     have rc4:=R2.cell' (u:=.slice none 0 0) 4 rfl
     have rc5:=R2.cell' (u:=.slice none 0 0) 5 rfl
     have rc6:=R2.cell' (u:=.slice none 0 0) 6 rfl
     have rc7:=R2.cell' (u:=.slice none 0 0) 7 rfl
     have rc8:=R2.cell' (u:=.int .i64 0) 8 rfl
     have rc9:=R2.cell' (u:=.int .i64 0) 9 rfl
     have rc10:=R2.cell' (u:=.string ⟨#[]⟩) 10 rfl
     have rc11:=R2.cell' (u:=.slice none 0 0) 11 rfl
     have rf0:=R2.frozen 0
     have rf1:=R2.frozen 1
     have rf2:=R2.frozen 2
     have rf3:=R2.frozen 3
     have rf4:=R2.frozen 4
     have rf5:=R2.frozen 5
     have rf6:=R2.frozen 6
     have rf7:=R2.frozen 7
     have rf8:=R2.frozen 8
     have rf9:=R2.frozen 9
     have rf10:=R2.frozen 10
     have rf11:=R2.frozen 11
     have xc0:=HBX.out.cell' (u:=.int .i64 4) 0 rfl
     have xc1:=HBX.out.cell' (u:=.string ⟨#[]⟩) 1 rfl
     have xc2:=HBX.out.cell' (u:=.int .i64 0) 2 rfl
     have xc3:=HBX.out.cell' (u:=.int .i64 0) 3 rfl
     have xc4:=HBX.out.cell' (u:=.slice none 0 0) 4 rfl
     have xc5:=HBX.out.cell' (u:=.slice none 0 0) 5 rfl
     have xc6:=HBX.out.cell' (u:=.slice Av j cv) 6 rfl
     have xc7:=HBX.out.cell' (u:=.slice A7 (j+1) c7) 7 rfl
     have xc8:=HBX.out.cell' (u:=.int .i64 0) 8 rfl
     have xc9:=HBX.out.cell' (u:=.int .i64 0) 9 rfl
     have xc10:=HBX.out.cell' (u:=.string ⟨#[]⟩) 10 rfl
     have xc11:=HBX.out.cell' (u:=.slice none 0 0) 11 rfl
     have xf0:=HBX.out.frozen 0
     have xf1:=HBX.out.frozen 1
     have xf2:=HBX.out.frozen 2
     have xf3:=HBX.out.frozen 3
     have xf4:=HBX.out.frozen 4
     have xf5:=HBX.out.frozen 5
     have xf6:=HBX.out.frozen 6
     have xf7:=HBX.out.frozen 7
     have xf8:=HBX.out.frozen 8
     have xf9:=HBX.out.frozen 9
     have xf10:=HBX.out.frozen 10
     have xf11:=HBX.out.frozen 11
     have HR2:=Lib.hid R2
     clear R2
     go_wp2_with fail
     have hfin:=setCells_blk [.int .i64 4,.string ⟨#[]⟩,.int .i64 0,.int .i64 0,.slice none 0 0,.slice none 0 0,.slice Av j cv,.slice A7 (j+1) c7,.int .i64 0,.int .i64 0,.string ⟨#[]⟩,.slice none 0 0] (w:=wr) (cs:=[.int .i64 0,.string ⟨#[]⟩,.int .i64 0,.int .i64 0,.slice none 0 0,.slice none 0 0,.slice none 0 0,.slice none 0 0,.int .i64 0,.int .i64 0,.string ⟨#[]⟩,.slice none 0 0]) (g:=w.heap.size+1) (t:=87) 0 HR2.out (by simp)
     simp only [List.take_zero,List.nil_append,List.length_cons,List.length_nil,Nat.zero_add,List.drop_succ_cons,List.drop_nil,List.append_nil] at hfin
     have z0:=hfin.cell' (u:=.int .i64 4) 0 rfl
     have z1:=hfin.cell' (u:=.string ⟨#[]⟩) 1 rfl
     have z2:=hfin.cell' (u:=.int .i64 0) 2 rfl
     have z3:=hfin.cell' (u:=.int .i64 0) 3 rfl
     have z4:=hfin.cell' (u:=.slice none 0 0) 4 rfl
     have z5:=hfin.cell' (u:=.slice none 0 0) 5 rfl
     have z6:=hfin.cell' (u:=.slice Av j cv) 6 rfl
     have z7:=hfin.cell' (u:=.slice A7 (j+1) c7) 7 rfl
     have z8:=hfin.cell' (u:=.int .i64 0) 8 rfl
     have z9:=hfin.cell' (u:=.int .i64 0) 9 rfl
     have z10:=hfin.cell' (u:=.string ⟨#[]⟩) 10 rfl
     have z11:=hfin.cell' (u:=.slice none 0 0) 11 rfl
     have hsx:=HX1.out.size
     have hnew:¬ New P W.heap.size (w.heap.size+1):=by
      rintro (h | h)
      ·have:=HP.out _ h;omega
      ·omega
     have hE:Ext w (wr.setCells (w.heap.size+1) 0 [.int .i64 4,.string ⟨#[]⟩,.int .i64 0,.int .i64 0,.slice none 0 0,.slice none 0 0,.slice Av j cv,.slice A7 (j+1) c7,.int .i64 0,.int .i64 0,.string ⟨#[]⟩,.slice none 0 0]):=((Fr.of_ext (M:=fun _=>False) HEX.out).setCells _ 0 (.inr (by omega))).ext
     have hV:Vals (wr.setCells (w.heap.size+1) 0 [.int .i64 4,.string ⟨#[]⟩,.int .i64 0,.int .i64 0,.slice none 0 0,.slice none 0 0,.slice Av j cv,.slice A7 (j+1) c7,.int .i64 0,.int .i64 0,.string ⟨#[]⟩,.slice none 0 0]) (New P w.heap.size) (.slice Av vals.length cv) vals:=by rw [HN0.out];exact HV1.out.carry (Keeps.setCells hnew _ 0 (Keeps.of_ext HF.out)) (fun b _ h=>h.elim .inl (fun h=>.inr (by omega)))
     have hK:Ints (wr.setCells (w.heap.size+1) 0 [.int .i64 4,.string ⟨#[]⟩,.int .i64 0,.int .i64 0,.slice none 0 0,.slice none 0 0,.slice Av j cv,.slice A7 (j+1) c7,.int .i64 0,.int .i64 0,.string ⟨#[]⟩,.slice none 0 0]) (New P w.heap.size) (.slice A7 kids.length c7) kids:=by
      have h1:Ints wr (fun b=>w1.heap.size≤b) (.slice A7 (j+1) c7) kids:=Ints.of_own (HOWN.out.len_cast HKL.out.symm rfl) HK64.out (by rw [HKL.out];omega) (fun b hb=>HOWN.out.block_ge hb)
      rw [HKL.out];exact h1.carry (Keeps.setCells (by omega) _ 0 (fun _ _ _=>rfl)) (fun b _ h=>.inr (by omega))
     have hve:(Value.slice Av vals.length cv)=.slice Av j cv:=by rw [HN0.out]
     have hke:(Value.slice A7 kids.length c7)=.slice A7 (j+1) c7:=by rw [HKL.out]
     have hgen:((((((((((((wr).setCell ⟨w.heap.size+1,0,none⟩ (.int .i64 4)).setCell ⟨w.heap.size+1,1,none⟩ (.string ⟨#[]⟩)).setCell ⟨w.heap.size+1,2,none⟩ (.int .i64 0)).setCell ⟨w.heap.size+1,3,none⟩ (.int .i64 0)).setCell ⟨w.heap.size+1,4,none⟩ (.slice none 0 0)).setCell ⟨w.heap.size+1,5,none⟩ (.slice none 0 0)).setCell ⟨w.heap.size+1,6,none⟩ (.slice Av j cv)).setCell ⟨w.heap.size+1,7,none⟩ (.slice A7 (j+1) c7)).setCell ⟨w.heap.size+1,8,none⟩ (.int .i64 0)).setCell ⟨w.heap.size+1,9,none⟩ (.int .i64 0)).setCell ⟨w.heap.size+1,10,none⟩ (.string ⟨#[]⟩)).setCell ⟨w.heap.size+1,11,none⟩ (.slice none 0 0)=wr.setCells (w.heap.size+1) 0 [.int .i64 4,.string ⟨#[]⟩,.int .i64 0,.int .i64 0,.slice none 0 0,.slice none 0 0,.slice Av j cv,.slice A7 (j+1) c7,.int .i64 0,.int .i64 0,.string ⟨#[]⟩,.slice none 0 0]:=rfl
     rw [hgen]
     clear hgen
     generalize wr.setCells (w.heap.size+1) 0 [.int .i64 4,.string ⟨#[]⟩,.int .i64 0,.int .i64 0,.slice none 0 0,.slice none 0 0,.slice Av j cv,.slice A7 (j+1) c7,.int .i64 0,.int .i64 0,.string ⟨#[]⟩,.slice none 0 0]=WF at *
     rw [← hve] at z6
     rw [← hke] at z7
     exact bodyPost_ret (v:=nagg ⟨4,⟨#[]⟩,0,0,[],[],vals,kids,.mk 0 0 ⟨#[]⟩ []⟩ ⟨none,0,none,0,Av,cv,A7,c7,none,0⟩) (by simp [results,Tryz.results41,go_sem,GV.kind,GV.n,GV.s,GV.kids,z0,z1,z2,z3,z4,z5,z6,z7,z8,z9,z10,z11]) rfl ⟨_,_,rfl,⟨by simp [I64],by show (0:Nat)≤_;omega,by simp [I64],by simp [I64],Ints.nil,Strs.nil,hV,hK,VAt.noKids (by simp [I64]) (by simp [I64]) (by decide)⟩,⟨by simp,by simp,by show vals.length≤_;rw [HN0.out];omega,by show kids.length≤_;rw [HKL.out];omega,by simp [gsz,gszs],HVS.out⟩,by simp,hE⟩
  ·have hd:decide (6<(n0:Int))=true:=decide_eq_true (by omega)
   go_wp2_with (go_at_call 39;refine (HLF.out _).mono ?_;rintro e w2 ⟨y,Ay,cy,rfl,hy,hgy,hx2⟩;have R2:=HR1.out.ext hx2;have rc0:=R2.cell' (u:=.int .i64 0) 0 rfl;have rc1:=R2.cell' (u:=.string ⟨#[]⟩) 1 rfl;have rc2:=R2.cell' (u:=.int .i64 0) 2 rfl;have rc3:=R2.cell' (u:=.int .i64 0) 3 rfl;have rc4:=R2.cell' (u:=.slice none 0 0) 4 rfl;have rc5:=R2.cell' (u:=.slice none 0 0) 5 rfl;have rc6:=R2.cell' (u:=.slice none 0 0) 6 rfl;have rc7:=R2.cell' (u:=.slice none 0 0) 7 rfl;have rc8:=R2.cell' (u:=.int .i64 0) 8 rfl;have rc9:=R2.cell' (u:=.int .i64 0) 9 rfl;have rc10:=R2.cell' (u:=.string ⟨#[]⟩) 10 rfl;have rc11:=R2.cell' (u:=.slice none 0 0) 11 rfl;have rf0:=R2.frozen 0;have rf1:=R2.frozen 1;have rf2:=R2.frozen 2;have rf3:=R2.frozen 3;have rf4:=R2.frozen 4;have rf5:=R2.frozen 5;have rf6:=R2.frozen 6;have rf7:=R2.frozen 7;have rf8:=R2.frozen 8;have rf9:=R2.frozen 9;have rf10:=R2.frozen 10;have rf11:=R2.frozen 11;have HR2:=Lib.hid R2;have HX2:=Lib.hid (HX1.out.trans' hx2);have HY:=Lib.hid hy;have hs2:=hx2.size;clear R2 hx2 hy)
   have hfin:=setCells_blk [.int .i64 0,.string ⟨#[]⟩,.int .i64 0,.int .i64 0,.slice none 0 0,.slice none 0 0,.slice none 0 0,.slice none 0 0,.int .i64 y.kind,.int .i64 y.n,.string y.s,.slice Ay y.kids.length cy] (w:=w2) (cs:=[.int .i64 0,.string ⟨#[]⟩,.int .i64 0,.int .i64 0,.slice none 0 0,.slice none 0 0,.slice none 0 0,.slice none 0 0,.int .i64 0,.int .i64 0,.string ⟨#[]⟩,.slice none 0 0]) (g:=w.heap.size+1) (t:=87) 0 HR2.out (by simp)
   simp only [List.take_zero,List.nil_append,List.length_cons,List.length_nil,Nat.zero_add,List.drop_succ_cons,List.drop_nil,List.append_nil] at hfin
   have z0:=hfin.cell' (u:=.int .i64 0) 0 rfl
   have z1:=hfin.cell' (u:=.string ⟨#[]⟩) 1 rfl
   have z2:=hfin.cell' (u:=.int .i64 0) 2 rfl
   have z3:=hfin.cell' (u:=.int .i64 0) 3 rfl
   have z4:=hfin.cell' (u:=.slice none 0 0) 4 rfl
   have z5:=hfin.cell' (u:=.slice none 0 0) 5 rfl
   have z6:=hfin.cell' (u:=.slice none 0 0) 6 rfl
   have z7:=hfin.cell' (u:=.slice none 0 0) 7 rfl
   have z8:=hfin.cell' (u:=.int .i64 y.kind) 8 rfl
   have z9:=hfin.cell' (u:=.int .i64 y.n) 9 rfl
   have z10:=hfin.cell' (u:=.string y.s) 10 rfl
   have z11:=hfin.cell' (u:=.slice Ay y.kids.length cy) 11 rfl
   have hE:Ext w (w2.setCells (w.heap.size+1) 0 [.int .i64 0,.string ⟨#[]⟩,.int .i64 0,.int .i64 0,.slice none 0 0,.slice none 0 0,.slice none 0 0,.slice none 0 0,.int .i64 y.kind,.int .i64 y.n,.string y.s,.slice Ay y.kids.length cy]):=((Fr.of_ext (M:=fun _=>False) HX2.out).setCells _ 0 (.inr (by omega))).ext
   have hV:VAt (w2.setCells (w.heap.size+1) 0 [.int .i64 0,.string ⟨#[]⟩,.int .i64 0,.int .i64 0,.slice none 0 0,.slice none 0 0,.slice none 0 0,.slice none 0 0,.int .i64 y.kind,.int .i64 y.n,.string y.s,.slice Ay y.kids.length cy]) (New P w.heap.size) y Ay cy:=HY.out.carry (Keeps.setCells (by omega) _ 0 (fun _ _ _=>rfl)) (fun b _ h=>.inr (by omega))
   have hgen:((((((((((((w2).setCell ⟨w.heap.size+1,0,none⟩ (.int .i64 0)).setCell ⟨w.heap.size+1,1,none⟩ (.string ⟨#[]⟩)).setCell ⟨w.heap.size+1,2,none⟩ (.int .i64 0)).setCell ⟨w.heap.size+1,3,none⟩ (.int .i64 0)).setCell ⟨w.heap.size+1,4,none⟩ (.slice none 0 0)).setCell ⟨w.heap.size+1,5,none⟩ (.slice none 0 0)).setCell ⟨w.heap.size+1,6,none⟩ (.slice none 0 0)).setCell ⟨w.heap.size+1,7,none⟩ (.slice none 0 0)).setCell ⟨w.heap.size+1,8,none⟩ (.int .i64 y.kind)).setCell ⟨w.heap.size+1,9,none⟩ (.int .i64 y.n)).setCell ⟨w.heap.size+1,10,none⟩ (.string y.s)).setCell ⟨w.heap.size+1,11,none⟩ (.slice Ay y.kids.length cy)=w2.setCells (w.heap.size+1) 0 [.int .i64 0,.string ⟨#[]⟩,.int .i64 0,.int .i64 0,.slice none 0 0,.slice none 0 0,.slice none 0 0,.slice none 0 0,.int .i64 y.kind,.int .i64 y.n,.string y.s,.slice Ay y.kids.length cy]:=rfl
   rw [hgen]
   clear hgen
   generalize w2.setCells (w.heap.size+1) 0 [.int .i64 0,.string ⟨#[]⟩,.int .i64 0,.int .i64 0,.slice none 0 0,.slice none 0 0,.slice none 0 0,.slice none 0 0,.int .i64 y.kind,.int .i64 y.n,.string y.s,.slice Ay y.kids.length cy]=WF at *
   exact bodyPost_ret (v:=nagg ⟨0,⟨#[]⟩,0,0,[],[],[],[],y⟩ ⟨none,0,none,0,none,0,none,0,Ay,cy⟩) (by simp [results,Tryz.results41,go_sem,z0,z1,z2,z3,z4,z5,z6,z7,z8,z9,z10,z11]) rfl ⟨_,_,rfl,⟨by simp [I64],by show (0:Nat)≤_;omega,by simp [I64],by simp [I64],Ints.nil,Strs.nil,Vals.nil,Ints.nil,hV⟩,⟨by simp,by simp,by simp,by simp,by show gsz y≤_;omega,by simp⟩,by simp,hE⟩
end Go.Proofs.YtkoeecdjijfjnaaGreat
