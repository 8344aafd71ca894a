/- The contract of the reference's read, at leaves, ranges and choices. Conditions: none. Before it: The contract of the reference's Valid of trees. Conditions: none. -/
import Derived.Test.YtkoeecdjijfjnaaGreatC4
import Derived.Test.YtkoeecdjijfjnaaGreatPlG
namespace Go.Proofs.YtkoeecdjijfjnaaGreat
open Go.RowKit
theorem own_int_get {w:World}{base:Nat}{v:Value}{n:Nat}{l:List Int}(h:w.ownsRow base 3 1 v n (l.map (Value.int .i64))){j:Nat}(hj:j<n) :
  ∃ b c,v=.slice (some ⟨b,0,none⟩) n c∧n≤c∧c≤9223372036854775807∧w.cell? ⟨b,j,none⟩=some (.int .i64 (l.getD j 0)):=by
 have hl:=h.1
 rcases h.2 with ⟨rfl,h0⟩ | ⟨g,cap,cur,rfl,hg,hh,hn,hm,hs,ht⟩
 ·omega
 ·refine ⟨g,cap,rfl,hn,by unfold maxLen at hm;omega,?_⟩
  have hb:Blk w g 3 cur:=hh
  rw [hb.cell]
  have hjl:j<l.length:=by simp at hl;omega
  have h1:(List.take (n*1) cur.toList)[j]?=some (.int .i64 (l.getD j 0)):=by rw [ht];simp [hjl]
  rw [List.getElem?_take] at h1
  split at h1
  ·simpa using h1
  ·cases h1
theorem accL_all {β:Type}{f:List β→GN→β}{Q:β→Prop}(hf:∀ acc x,(∀ z ∈ acc,Q z)→Q (f acc x)):∀ (l:List GN)(acc:List β),(∀ z ∈ acc,Q z)→∀ z ∈ accL f acc l,Q z
 | [],_,h=>h
 | x :: xs,acc,h=>by
  simp only [accL]
  refine accL_all hf xs _ ?_
  intro z hz
  rcases List.mem_append.1 hz with hz | hz
  ·exact h z hz
  ·rw [List.mem_singleton.1 hz];exact hf acc x h
theorem I64_wrap (n:Int):I64 (wrap64 n):=by
 unfold wrap64 I64
 have:=Int.emod_nonneg (n+9223372036854775808) (show (18446744073709551616:Int) ≠ 0 by decide)
 have:=Int.emod_lt_of_pos (n+9223372036854775808) (show (0:Int)<18446744073709551616 by decide)
 omega
theorem I64_zero:I64 0:=by simp [I64]
theorem lsumW_I64 (before:List Int):∀ (zs:List Int)(s:Int),I64 s→I64 (lsumW before s zs)
 | [],_,h=>h
 | z :: zs,s,_=>by simp only [lsumW];exact lsumW_I64 before zs _ (I64_wrap _)
theorem lmostW_I64 (before:List Int)(hb:∀ z ∈ before,I64 z)(ch:Bool):∀ (zs:List Int)(i:Nat)(m:Int),I64 m→I64 (lmostW before ch i m zs)
 | [],_,_,h=>h
 | z :: zs,i,m,h=>by
  simp only [lmostW]
  refine lmostW_I64 before hb ch zs _ _ ?_
  split
  ·split
   ·exact I64_getD hb _
   ·exact h
  ·exact h
theorem rszs_I64:∀ (l:List GV)(n:Int),I64 n→I64 (rszs n l)
 | [],_,h=>by rw [rszs_nil];exact h
 | x :: xs,n,_=>by rw [rszs_cons];exact rszs_I64 xs _ (I64_wrap _)
theorem rsz_I64 (x:GV):I64 (rsz x):=by rw [rsz_eq];exact rszs_I64 _ _ (by simp [I64])
theorem lens_I64 (t:List GN):∀ z ∈ lensR t,I64 z:=by
 refine accL_all (fun acc x h=>?_) t [] (by simp)
 unfold lenR
 split
 ·exact I64_zero
 ·split
  ·simp [I64]
  ·split
   ·exact lsumW_I64 _ _ _ I64_zero
   ·split
    ·exact I64_wrap _
    ·exact I64_wrap _
theorem sizes_I64 (t:List GN):∀ z ∈ sizesR t,I64 z:=by
 refine accL_all (fun acc x h=>?_) t [] (by simp)
 unfold sizeR
 split
 ·exact rsz_I64 _
 ·split
  ·simp [I64]
  ·split
   ·exact lsumW_I64 _ _ _ (by simp [I64])
   ·exact lmostW_I64 _ h _ _ _ _ I64_zero
theorem lengths_any (before:List Int)(x:GN)(a:NA)(P:Nat→Prop)(base:Nat)(vb:Value)(w:World)(hx:NAt w P x a)(hown:w.ownsRow base 3 1 vb before.length (before.map (Value.int .i64)))
  (hbase:base≤w.heap.size)(hlen:before.length≤100000)(hb64:∀ z ∈ before,I64 z)(hok:NodeOK before.length x) :
  Calls Tryz.prog 58 #[vb,nagg x a] w (RetApp base 3 1 vb (before.length+1) ((before ++ [lenR before x]).map (Value.int .i64)) w):=by
 have hk:=hok.kind
 by_cases k0:x.kind=0
 ·exact lengths0_any before x a P base vb w hx hown hbase hlen hb64 hok.kids k0
 by_cases k1:x.kind=1
 ·exact lengths1_any before x a P base vb w hx hown hbase hlen hb64 hok.kids k1
 by_cases k2:x.kind=2
 ·exact lengths2_any before x a P base vb w hx hown hbase hlen hb64 hok.kids k2
 by_cases k3:x.kind=3
 ·exact lengths3_any before x a P base vb w hx hown hbase hlen hb64 hok.kids k3
 ·exact lengths4_any before x a P base vb w hx hown hbase hlen hb64 hok.kids (by omega) (by have:=hok.bind (by omega);omega)
theorem sizes_any (before:List Int)(x:GN)(a:NA)(P:Nat→Prop)(base:Nat)(vb:Value)(w:World)(hx:NAt w P x a)(hown:w.ownsRow base 3 1 vb before.length (before.map (Value.int .i64)))
  (hbase:base≤w.heap.size)(hlen:before.length≤100000)(hb64:∀ z ∈ before,I64 z)(hok:NodeOK before.length x) :
  Calls Tryz.prog 59 #[vb,nagg x a] w (RetApp base 3 1 vb (before.length+1) ((before ++ [sizeR before x]).map (Value.int .i64)) w):=by
 have hk:=hok.kind
 by_cases k0:x.kind=0
 ·exact sizes0_any before x a P base vb w hx hown hbase hlen hb64 hok.kids k0
 by_cases k1:x.kind=1
 ·exact sizes1_any before x a P base vb w hx hown hbase hlen hb64 hok.kids k1
 by_cases k2:x.kind=2
 ·exact sizes2_any before x a P base vb w hx hown hbase hlen hb64 hok.kids k2
 by_cases k3:x.kind=3
 ·exact sizes3_any before x a P base vb w hx hown hbase hlen hb64 hok.kids k3
 ·exact sizes4_any before x a P base vb w hx hown hbase hlen hb64 hok.kids (by omega)
theorem own_fr {w w':World}{M:Nat→Prop}{base:Nat}{e:TypeId}{size:Nat}{v:Value}{n:Nat}{xs:List Value}(h:w.ownsRow base e size v n xs)(hf:Fr M w w')(hm:∀ b,v.ownBlock=some b→¬ M b):w'.ownsRow base e size v n xs:=by
 refine ⟨h.1,?_⟩
 rcases h.2 with h | ⟨g,cap,cur,rfl,h2,h3,h4⟩
 ·exact .inl h
 ·exact .inr ⟨g,cap,cur,rfl,h2,Blk.fr (t:=e) h3 hf (hm g rfl),h4⟩
def ValInv (t:List GN)(W:World)(v3 v4 i:Value)(wr:World):Prop :=
 ∃ k:Nat,k≤t.length∧i=.int .i64 k∧wr.ownsRow W.heap.size 3 1 v3 k ((lensR (t.take k)).map (Value.int .i64))∧wr.ownsRow W.heap.size 3 1 v4 k ((sizesR (t.take k)).map (Value.int .i64)) ∧
  (∀ b,v3.ownBlock=some b→v4.ownBlock ≠ some b)∧Ext W wr∧GoodTo t k∧validT t=validFrom t k (t.length - k)
theorem accL_take_get {β:Type}(f:List β→GN→β)(d:β)(t:List GN){k:Nat}(hk:k<t.length):(accL f [] (t.take (k+1))).getD k d=(accL f [] t).getD k d:=by
 rw [accL_take _ _ _ (by omega)];simp [List.getD]
set_option maxRecDepth 100000 in
set_option maxHeartbeats 4000000 in
theorem refValid_any (t:List GN)(P:Nat→Prop)(vn:Value)(w:World)(ht:Nds w P vn t)(hvl:∀ x ∈ t,x.values.length≤1000000) :
  Calls Tryz.prog 22 #[.agg #[vn]] w (RetE (.int .i64 (validT t)) w):=by
 have HT:=Lib.hid ht
 have HVL:=Lib.hid hvl
 obtain ⟨An,cn,en,hn1,hn2⟩:=ht.form
 subst en
 clear ht hvl
 by_cases hbig:4096<t.length
 ·have HV:=Lib.hid (show validT t=4 by unfold validT;rw [if_pos hbig])
  go_enter Tryz.func22,Tryz.ntmps22
  go_wp2_with fail
  go_ret
  exact ⟨ret_int HV.out.symm,(Ext.refl w).alloc' _⟩
 have HV:=Lib.hid (show validT t=validFrom t 0 t.length by unfold validT;rw [if_neg hbig])
 have hsm:t.length≤4096:=by omega
 go_enter Tryz.func22,Tryz.ntmps22
 go_wp2_with fail
 have HE:=Lib.hid (show Ext w (w.alloc (.cells #[.slice An t.length cn] 25)) from (Ext.refl w).alloc' _)
 have HBX:=Lib.hid (Blk.new w 25 #[.slice An t.length cn])
 generalize hW:w.alloc (.cells #[.slice An t.length cn] 25)=W at *
 clear hW
 go_loopw [3,4,5] (fun v3 v4 i wr=>ValInv t W v3 v4 i wr) (fun _ _ i _=>t.length - (intOf i).toNat)
 case atStart=>exact ⟨0,Nat.zero_le _,rfl,own_none _ _ _ _,own_none _ _ _ _,fun b h=>by simp [Value.ownBlock] at h,Ext.refl _,⟨Nat.zero_le _,hsm,fun j hj=>by omega⟩,HV.out⟩
 case round =>
  obtain ⟨k,hk,rfl,ho3,ho4,hne,hx,hgd,hvf⟩:=hrel
  have HO3:=Lib.hid ho3
  have HO4:=Lib.hid ho4
  have HNE:=Lib.hid hne
  have HX:=Lib.hid hx
  have HGD:=Lib.hid hgd
  have HVF:=Lib.hid hvf
  have b0:=(HBX.out.ext hx).cell' (u:=.slice An t.length cn) 0 rfl
  have hsz:=hx.size
  have hsw:=HE.out.size
  clear ho3 ho4 hne hx hgd hvf
  by_cases hlt:k<t.length
  ·obtain ⟨b1,o1,a1,rfl,-,ha1,hc1⟩:=(HT.out.carry (Q:=fun b=>b<w.heap.size) (Keeps.of_ext (HE.out.trans' HX.out)) (fun b hb _=>hb)).get hlt
   have HVX:=Lib.hid (HVL.out _ (getD_mem (d:=default) hlt))
   have HCK:=Lib.hid (show validT t=if checkR t k=0 then validFrom t (k+1) (t.length - (k+1)) else checkR t k by
    rw [HVF.out,show t.length - k=(t.length - (k+1))+1 by omega];rfl)
   have HCR:=Lib.hid (show checkR t k=_ from by rw [checkR])
   have HLS:=Lib.hid (show lensR (t.take (k+1))=lensR (t.take k) ++ [lenR (lensR (t.take k)) (t.getD k default)] by unfold lensR;rw [take_succ_getD default hlt,accL_snoc])
   have HSS:=Lib.hid (show sizesR (t.take (k+1))=sizesR (t.take k) ++ [sizeR (sizesR (t.take k)) (t.getD k default)] by unfold sizesR;rw [take_succ_getD default hlt,accL_snoc])
   have HLG:=Lib.hid (show (lensR (t.take (k+1))).getD k 0=(lensR t).getD k 0 from accL_take_get _ _ _ hlt)
   have HSG:=Lib.hid (show (sizesR (t.take (k+1))).getD k 0=(sizesR t).getD k 0 from accL_take_get _ _ _ hlt)
   have HA1:=Lib.hid ha1
   have HC1:=Lib.hid hc1
   have c0:=hc1.c0
   have c1:=hc1.c1
   have c2:=hc1.c2
   have c3:=hc1.c3
   have c4:=hc1.c4
   have c5:=hc1.c5
   have c6:=hc1.c6
   have c7:=hc1.c7
   have c8:=hc1.c8
   have c9:=hc1.c9
   have c10:=hc1.c10
   have c11:=hc1.c11
   clear hc1 ha1
   generalize hgx:t.getD k default=x at *
   have HGX:=Lib.hid hgx
   clear hgx
   have hll:(lensR (t.take k)).length=k:=by unfold lensR;rw [accL_len];simp;omega
   have hsl:(sizesR (t.take k)).length=k:=by unfold sizesR;rw [accL_len];simp;omega
   have HLL:=Lib.hid hll
   have HSL:=Lib.hid hsl
   clear hll hsl
   go_wp2_with fail
   refine (node_any k x a1 _ _ (HA1.out.ext ((Ext.refl wr).alloc' _)) HVX.out).mono ?_
   rintro e w1 ⟨rfl,hx1⟩
   have HX1:=Lib.hid (((Ext.refl wr).alloc' (.cells (ncells x a1).toArray 87)).trans' hx1)
   have BX:=Lib.hid ((Blk.new wr 87 (ncells x a1).toArray).ext hx1)
   clear hx1 c0 c1 c2 c3 c4 c5 c6 c7 c8 c9 c10 c11
   have x0:=BX.out.cell' (u:=.int .i64 x.kind) 0 rfl
   have x1:=BX.out.cell' (u:=.string x.name) 1 rfl
   have x2:=BX.out.cell' (u:=.int .i64 x.lo) 2 rfl
   have x3:=BX.out.cell' (u:=.int .i64 x.hi) 3 rfl
   have x4:=BX.out.cell' (u:=.slice a1.wA x.weights.length a1.wc) 4 rfl
   have x5:=BX.out.cell' (u:=.slice a1.lA x.labels.length a1.lc) 5 rfl
   have x6:=BX.out.cell' (u:=.slice a1.vA x.values.length a1.vc) 6 rfl
   have x7:=BX.out.cell' (u:=.slice a1.kA x.kids.length a1.kc) 7 rfl
   have x8:=BX.out.cell' (u:=.int .i64 x.value.kind) 8 rfl
   have x9:=BX.out.cell' (u:=.int .i64 x.value.n) 9 rfl
   have x10:=BX.out.cell' (u:=.string x.value.s) 10 rfl
   have x11:=BX.out.cell' (u:=.slice a1.xA x.value.kids.length a1.xc) 11 rfl
   have hs1:=HX1.out.size
   by_cases hz:nodeR k x=0
   ·have HZ:=Lib.hid hz
    have tz:(nodeR k x != 0)=false:=by rw [bne_eq_false_iff_eq];exact hz
    have HOK:=Lib.hid (nodeR_ok.1 hz)
    clear hz
    go_wp2_with fail
    refine (lengths_any (lensR (t.take k)) x a1 _ W.heap.size u3 _ (HA1.out.ext HX1.out) ((HO3.out.ext_ HX1.out).len_cast HLL.out.symm rfl) (by omega) (by rw [HLL.out];omega) (lens_I64 _) (by rw [HLL.out];exact HOK.out)).mono ?_
    rintro e w2 ⟨v3,rfl,hp3,hf2,hq3⟩
    have hB:∀ b,b<W.heap.size→¬ some b=u3.ownBlock:=fun b hb e=>by have:=HO3.out.block_ge e.symm;omega
    have HF2:=Lib.hid hf2
    have BX2:=Lib.hid (BX.out.fr hf2 (fun e=>by have:=HO3.out.block_lt e.symm;omega))
    have HP3:=Lib.hid hp3
    have hs2:=hf2.size
    have HA2:=Lib.hid ((HA1.out.ext HX1.out).carry (Q:=fun b=>b<w.heap.size) (fun b hb h=>hf2.block b hb (hB b (by omega))) (fun _ _ h=>h))
    have HO42:=Lib.hid (own_fr (HO4.out.ext_ HX1.out) hf2 (fun b h e=>HNE.out b e.symm h))
    have HQ3:=Lib.hid (show ∀ b,v3.ownBlock=some b→¬ some b=u4.ownBlock from by
     intro b hb e
     rcases hq3 with h | ⟨b',h,hb'⟩
     ·rw [h] at hb;exact HNE.out b hb e.symm
     ·rw [hb] at h;injection h with h;have:=HO4.out.block_lt e.symm;omega)
    have HB2:=Lib.hid (show Ext W w2 from Fr.new_ext ((Fr.of_ext (HX.out.trans' HX1.out)).trans hf2) (fun b hb=>HO3.out.block_ge hb.symm))
    clear hp3 hf2 hq3 hB x0 x1 x2 x3 x4 x5 x6 x7 x8 x9 x10 x11
    have x0:=BX2.out.cell' (u:=.int .i64 x.kind) 0 rfl
    have x1:=BX2.out.cell' (u:=.string x.name) 1 rfl
    have x2:=BX2.out.cell' (u:=.int .i64 x.lo) 2 rfl
    have x3:=BX2.out.cell' (u:=.int .i64 x.hi) 3 rfl
    have x4:=BX2.out.cell' (u:=.slice a1.wA x.weights.length a1.wc) 4 rfl
    have x5:=BX2.out.cell' (u:=.slice a1.lA x.labels.length a1.lc) 5 rfl
    have x6:=BX2.out.cell' (u:=.slice a1.vA x.values.length a1.vc) 6 rfl
    have x7:=BX2.out.cell' (u:=.slice a1.kA x.kids.length a1.kc) 7 rfl
    have x8:=BX2.out.cell' (u:=.int .i64 x.value.kind) 8 rfl
    have x9:=BX2.out.cell' (u:=.int .i64 x.value.n) 9 rfl
    have x10:=BX2.out.cell' (u:=.string x.value.s) 10 rfl
    have x11:=BX2.out.cell' (u:=.slice a1.xA x.value.kids.length a1.xc) 11 rfl
    go_wp2_with fail
    refine (sizes_any (sizesR (t.take k)) x a1 _ W.heap.size u4 _ HA2.out (HO42.out.len_cast HSL.out.symm rfl) (by omega) (by rw [HSL.out];omega) (sizes_I64 _) (by rw [HSL.out];exact HOK.out)).mono ?_
    rintro e w3 ⟨v4,rfl,hp4,hf3,hq4⟩
    have BX3:=Lib.hid (BX2.out.fr hf3 (fun e=>by have:=HO4.out.block_lt e.symm;omega))
    have hs3:=hf3.size
    have hB:∀ b,b<W.heap.size→¬ some b=u4.ownBlock:=fun b hb e=>by have:=HO4.out.block_ge e.symm;omega
    have HA3:=Lib.hid (HA2.out.carry (Q:=fun b=>b<w.heap.size) (fun b hb h=>hf3.block b hb (hB b (by omega))) (fun _ _ h=>h))
    have HB3:=Lib.hid (show Ext W w3 from Fr.new_ext ((Fr.of_ext HB2.out).trans hf3) (fun b hb=>HO4.out.block_ge hb.symm))
    have hP3:=own_fr HP3.out hf3 HQ3.out
    rw [← HLS.out,HLL.out] at hP3
    rw [← HSS.out,HSL.out] at hp4
    have HP3':=Lib.hid hP3
    have HP4:=Lib.hid hp4
    have HNE3:=Lib.hid (show ∀ b,v3.ownBlock=some b→v4.ownBlock ≠ some b from by
     intro b hb e
     rcases hq4 with h | ⟨b',h,hb'⟩
     ·rw [h] at e;exact HQ3.out b hb e.symm
     ·rw [e] at h;injection h with h;have:=HP3.out.block_lt hb;omega)
    obtain ⟨q3,d3,e3,hd31,hd32,g3⟩:=own_int_get hP3 (j:=k) (by omega)
    obtain ⟨q4,d4,e4,hd41,hd42,g4⟩:=own_int_get hp4 (j:=k) (by omega)
    rw [HLG.out] at g3
    rw [HSG.out] at g4
    subst e3 e4
    clear hP3 hp4 hf3 hq4 hB x0 x1 x2 x3 x4 x5 x6 x7 x8 x9 x10 x11
    have hk1:(0:Int)≤(k:Int):=by omega
    generalize hL:(lensR t).getD k 0=L at *
    generalize hS:(sizesR t).getD k 0=S at *
    have HCK2:=Lib.hid (show checkR t k=if 256<L∨1024<S then 4 else if x.kind=4 then boundR t x else 0 by rw [HCR.out,if_pos HZ.out])
    have HLQ:=Lib.hid hL
    have HSQ:=Lib.hid hS
    clear hL hS
    have x0:=BX3.out.cell' (u:=.int .i64 x.kind) 0 rfl
    by_cases hL1:256<L
    ·have HV4:=Lib.hid (show validT t=4 from HCK.out.trans (by rw [HCK2.out.trans (if_pos (Or.inl hL1))];rfl))
     go_wp2_with fail
     go_ret
     exact ⟨ret_int HV4.out.symm,HE.out.trans' HB3.out⟩
    have tL:decide (256<L)=false:=decide_eq_false hL1
    by_cases hS1:1024<S
    ·have HV4:=Lib.hid (show validT t=4 from HCK.out.trans (by rw [HCK2.out.trans (if_pos (Or.inr hS1))];rfl))
     go_wp2_with fail
     go_ret
     exact ⟨ret_int HV4.out.symm,HE.out.trans' HB3.out⟩
    have tS:decide (1024<S)=false:=decide_eq_false hS1
    by_cases hk4:x.kind=4
    ·have t4:(x.kind == 4)=true:=beq_iff_eq.2 hk4
     have HK4:=Lib.hid hk4
     have hkp:0<x.kids.length:=by have:=HOK.out.bind hk4;omega
     have hkz:=HOK.out.kids _ (getD_mem (d:=0) hkp)
     have HKZ:=Lib.hid hkz
     have HCK3:=Lib.hid (show checkR t k=boundR t x by rw [HCK2.out,if_neg (by omega),if_pos hk4])
     clear hk4 hkz
     have x1:=BX3.out.cell' (u:=.string x.name) 1 rfl
     have x2:=BX3.out.cell' (u:=.int .i64 x.lo) 2 rfl
     have x3:=BX3.out.cell' (u:=.int .i64 x.hi) 3 rfl
     have x4:=BX3.out.cell' (u:=.slice a1.wA x.weights.length a1.wc) 4 rfl
     have x5:=BX3.out.cell' (u:=.slice a1.lA x.labels.length a1.lc) 5 rfl
     have x6:=BX3.out.cell' (u:=.slice a1.vA x.values.length a1.vc) 6 rfl
     have x7:=BX3.out.cell' (u:=.slice a1.kA x.kids.length a1.kc) 7 rfl
     have x8:=BX3.out.cell' (u:=.int .i64 x.value.kind) 8 rfl
     have x9:=BX3.out.cell' (u:=.int .i64 x.value.n) 9 rfl
     have x10:=BX3.out.cell' (u:=.string x.value.s) 10 rfl
     have x11:=BX3.out.cell' (u:=.slice a1.xA x.value.kids.length a1.xc) 11 rfl
     have y0:=(HBX.out.ext HB3.out).cell' (u:=.slice (some ⟨b1,o1,none⟩) t.length cn) 0 rfl
     go_wp2_with fail
     refine (bound_any t x a1 (x.kids.getD 0 0).toNat (fun b=>b<w.heap.size) _ _ (HT.out.carry (Keeps.of_ext (HE.out.trans' HB3.out)) (fun b hb _=>hb)) HA3.out hkp (Int.toNat_of_nonneg HKZ.out.1).symm (HGD.out.mono (by have:=HKZ.out;omega))).mono ?_
     rintro e w4 ⟨rfl,hx4⟩
     have HX4:=Lib.hid hx4
     clear hx4 x0 x1 x2 x3 x4 x5 x6 x7 x8 x9 x10 x11 y0 g3 g4
     by_cases hbz:boundR t x=0
     ·have tb:(boundR t x != 0)=false:=by rw [bne_eq_false_iff_eq];exact hbz
      have HCZ:=Lib.hid (HCK3.out.trans hbz)
      clear hbz
      go_wp2_with fail
      go_roundw
      case rel =>
       refine ⟨k+1,by omega,by go_num,HP3'.out.ext_ HX4.out,HP4.out.ext_ HX4.out,HNE3.out,HB3.out.trans' HX4.out,⟨by omega,hsm,fun j hj=>?_⟩,?_⟩
       ·rcases Nat.lt_succ_iff_lt_or_eq.1 hj with h | rfl
        ·exact HGD.out.2.2 j h
        ·exact HCZ.out
       ·rw [HCK.out,if_pos HCZ.out]
      case measure=>simp [intOf];omega
     ·have tb:(boundR t x != 0)=true:=bne_iff_ne.2 hbz
      have HVB:=Lib.hid (show validT t=boundR t x by rw [HCK.out,HCK3.out,if_neg hbz])
      clear hbz
      go_wp2_with fail
      go_ret
      exact ⟨ret_int HVB.out.symm,HE.out.trans' (HB3.out.trans' HX4.out)⟩
    ·have t4:(x.kind == 4)=false:=beq_eq_false_iff_ne.2 hk4
     have HCZ:=Lib.hid (show checkR t k=0 by rw [HCK2.out,if_neg (by omega),if_neg hk4])
     clear hk4
     go_wp2_with fail
     go_roundw
     case rel =>
      refine ⟨k+1,by omega,by go_num,HP3'.out,HP4.out,HNE3.out,HB3.out,⟨by omega,hsm,fun j hj=>?_⟩,?_⟩
      ·rcases Nat.lt_succ_iff_lt_or_eq.1 hj with h | rfl
       ·exact HGD.out.2.2 j h
       ·exact HCZ.out
      ·rw [HCK.out,if_pos HCZ.out]
     case measure=>simp [intOf];omega
   ·have tz:(nodeR k x != 0)=true:=bne_iff_ne.2 hz
    have HVN:=Lib.hid (show validT t=nodeR k x by rw [HCK.out,HCR.out,if_neg hz,if_neg hz])
    clear hz
    go_wp2_with fail
    go_ret
    exact ⟨ret_int HVN.out.symm,HE.out.trans' (HX.out.trans' HX1.out)⟩
  ·have HVZ:=Lib.hid (show validT t=0 by rw [HVF.out,show t.length - k=0 by omega];rfl)
   go_wp2_with fail
   go_ret
   exact ⟨ret_int HVZ.out.symm,HE.out.trans' HX.out⟩
theorem Tryz.info254:(Tryz.prog.info? 254).map (fun i=>(i.zero,i.size,i.bytes))=some (some (.agg #[.int .i64 0,.int .i64 0,.int .i64 0]),3,24):=by kernel_rfl
abbrev rcells (r:GR)(A:Option Addr)(c:Nat)(sv:Value):Array Value:=#[.int .i64 r.val.kind,.int .i64 r.val.n,.string r.val.s,.slice A r.val.kids.length c,.int .i64 r.used,.int .i64 r.stop,sv]
abbrev zcells:Array Value:=#[.int .i64 0,.int .i64 0,.string ⟨#[]⟩,.slice none 0 0,.int .i64 0,.int .i64 0,.slice none 0 0]
def SpOK (m N:Nat)(xs:List Value):Prop:=m+1≤N∧∀ u ∈ xs,u.oneCell'=true
theorem SpOK.nil (f:Nat):SpOK 0 (5 ^ (f+1)) []:=⟨Nat.pos_of_ne_zero (by simp),by simp⟩
theorem SpOK.succ {m f:Nat}{xs:List Value}(h:SpOK m (5 ^ f) xs):SpOK m (5 ^ (f+1)) xs:=⟨by have:=h.1;rw [Nat.pow_succ];omega,h.2⟩
theorem SpOK.le {m f:Nat}{xs:List Value}(h:SpOK m (5 ^ f) xs)(hf:f<16):m≤30517578125:=by
 have h1:5 ^ f≤5 ^ 15:=Nat.pow_le_pow_right (by omega) (by omega)
 exact Nat.le_trans (Nat.le_of_succ_le h.1) h1
theorem SpOK.add {m n f:Nat}{xs ys:List Value}(h:SpOK m (5 ^ f) xs)(k:SpOK n (5 ^ f) ys):SpOK (m+n) (5 ^ (f+1)) (xs ++ ys) :=
 ⟨by have:=h.1;have:=k.1;rw [Nat.pow_succ];omega,fun u hu=>(List.mem_append.1 hu).elim (h.2 u) (k.2 u)⟩
def RetR (P:Nat→Prop)(r:GR)(N:Nat)(w:World)(e:Ending)(w':World):Prop :=
 ∃ A c sv m xs,e=.returned (.agg (rcells r A c sv))∧VAt w' (New P w.heap.size) r.val A c∧w'.ownsRow w.heap.size 254 3 sv m xs∧SpOK m N xs∧Ext w w'
structure RdT (t:List GN)(path:List Int):Prop where
 good:GoodTo t t.length
 small:t.length≤16
 few:∀ x ∈ t,x.kind=3→x.kids.length≤4
 path:path.length≤1000000
def ReadSaid (t:List GN)(path:List Int)(f:Nat):Prop:=∀ (i:Nat)(at_:Int)(P:Nat→Prop)(vn vp:Value)(w:World),i<f→i<t.length→0≤at_→at_≤path.length→(∀ b,P b→b<w.heap.size)→Nds w P vn t→Ints w P vp path →
  Calls Tryz.prog 144 #[.agg #[vn],.int .i64 i,vp,.int .i64 at_] w (RetR P (readR t path f i at_) (5 ^ f) w)
structure ReadW (vn:Value)(x:GN)(a:NA)(w W:World):Prop where
 ext:Ext w W
 size:W.heap.size=w.heap.size+3
 tree:Blk W w.heap.size 25 #[vn]
 res:Blk W (w.heap.size+1) 154 zcells
 box:Blk W (w.heap.size+2) 87 (ncells x a).toArray
theorem ReadW.mk' (vn:Value)(x:GN)(a:NA)(w:World):ReadW vn x a w (((w.alloc (.cells #[vn] 25)).alloc (.cells zcells 154)).alloc (.cells (ncells x a).toArray 87)) :=
 ⟨(((Ext.refl w).alloc' _).alloc' _).alloc' _,by simp,((Blk.new w 25 #[vn]).alloc _).alloc _,(Blk.new' _ _ _ (by simp)).alloc _,Blk.new' _ _ _ (by simp)⟩
def set7 (w:World)(g:Nat)(a b c d e f h:Value):World :=
 ((((((w.setCell ⟨g,0,none⟩ a).setCell ⟨g,1,none⟩ b).setCell ⟨g,2,none⟩ c).setCell ⟨g,3,none⟩ d).setCell ⟨g,4,none⟩ e).setCell ⟨g,5,none⟩ f).setCell ⟨g,6,none⟩ h
theorem set7_blk {w:World}{g:Nat}{t:TypeId}{c0 c1 c2 c3 c4 c5 c6:Value}(h:Blk w g t #[c0,c1,c2,c3,c4,c5,c6])(u0 u1 u2 u3 u4 u5 u6:Value):Blk (set7 w g u0 u1 u2 u3 u4 u5 u6) g t #[u0,u1,u2,u3,u4,u5,u6]:=by
 have h1:=((((((h.set_ 0 u0).set_ 1 u1).set_ 2 u2).set_ 3 u3).set_ 4 u4).set_ 5 u5).set_ 6 u6
 simp only [List.setIfInBounds_toArray,List.set_cons_zero,List.set_cons_succ] at h1
 exact h1
theorem set7_ext {w0 w:World}{g:Nat}(h:Ext w0 w)(hg:w0.heap.size≤g)(u0 u1 u2 u3 u4 u5 u6:Value):Ext w0 (set7 w g u0 u1 u2 u3 u4 u5 u6) :=
 ((((((h.setCell' (p:=⟨g,0,none⟩) hg _).setCell' (p:=⟨g,1,none⟩) hg _).setCell' (p:=⟨g,2,none⟩) hg _).setCell' (p:=⟨g,3,none⟩) hg _).setCell' (p:=⟨g,4,none⟩) hg _).setCell' (p:=⟨g,5,none⟩) hg _).setCell' (p:=⟨g,6,none⟩) hg _
theorem set7_keeps {w:World}{g:Nat}{Q:Nat→Prop}(hg:¬ Q g)(u0 u1 u2 u3 u4 u5 u6:Value):Keeps Q w (set7 w g u0 u1 u2 u3 u4 u5 u6):=by
 have h0:Keeps Q w w:=fun _ _ _=>rfl
 exact ((((((h0.set (p:=⟨g,0,none⟩) _ hg).set (p:=⟨g,1,none⟩) _ hg).set (p:=⟨g,2,none⟩) _ hg).set (p:=⟨g,3,none⟩) _ hg).set (p:=⟨g,4,none⟩) _ hg).set (p:=⟨g,5,none⟩) _ hg).set (p:=⟨g,6,none⟩) _ hg
theorem set7_own {w:World}{g:Nat}{base:Nat}{e:TypeId}{size:Nat}{v:Value}{n:Nat}{xs:List Value}(h:w.ownsRow base e size v n xs)(hg:g<base)(u0 u1 u2 u3 u4 u5 u6:Value):(set7 w g u0 u1 u2 u3 u4 u5 u6).ownsRow base e size v n xs :=
 ownsRow_setCell_below (ownsRow_setCell_below (ownsRow_setCell_below (ownsRow_setCell_below (ownsRow_setCell_below (ownsRow_setCell_below (ownsRow_setCell_below h (a:=⟨g,0,none⟩) hg _) (a:=⟨g,1,none⟩) hg _) (a:=⟨g,2,none⟩) hg _) (a:=⟨g,3,none⟩) hg _) (a:=⟨g,4,none⟩) hg _) (a:=⟨g,5,none⟩) hg _) (a:=⟨g,6,none⟩) hg _
theorem cell_alloc_of {w:World}{b off:Nat}{u:Value}(h:w.cell? ⟨b,off,none⟩=some u)(o:Obj):(w.alloc o).cell? ⟨b,off,none⟩=some u:=cell_old h o (lt_of_cell h)
theorem set7_cell {w:World}{g b off:Nat}{u:Value}{u0 u1 u2 u3 u4 u5 u6:Value}(hne:b ≠ g)(h:w.cell? ⟨b,off,none⟩=some u):(set7 w g u0 u1 u2 u3 u4 u5 u6).cell? ⟨b,off,none⟩=some u:=by
 rw [← h]
 exact World.cell?_of_block (w:=w) (set7_keeps (Q:=fun k=>k=b) (fun e=>hne e.symm) _ _ _ _ _ _ _ b (lt_of_cell h) rfl)
theorem cell_set7 {w:World}{g b off:Nat}{u:Value}{u0 u1 u2 u3 u4 u5 u6:Value}(hne:¬ b=g)(h:w.cell? ⟨b,off,none⟩=some u) :
  (((((((w.setCell ⟨g,0,none⟩ u0).setCell ⟨g,1,none⟩ u1).setCell ⟨g,2,none⟩ u2).setCell ⟨g,3,none⟩ u3).setCell ⟨g,4,none⟩ u4).setCell ⟨g,5,none⟩ u5).setCell ⟨g,6,none⟩ u6).cell? ⟨b,off,none⟩=some u:=set7_cell hne h
theorem cell_realloc {w:World}{b off:Nat}{u:Value}{o o':Obj}(hb:b<w.heap.size)(h:(w.alloc o).cell? ⟨b,off,none⟩=some u):(w.alloc o').cell? ⟨b,off,none⟩=some u :=
 ((World.cell?_alloc_lt w o' ⟨b,off,none⟩ hb).trans (World.cell?_alloc_lt w o ⟨b,off,none⟩ hb).symm).trans h
theorem VAt.zero (w:World)(P:Nat→Prop):VAt w P zeroGV none 0 :=
 ⟨by simp [I64,zeroGV,GV.kind],by simp [I64,zeroGV,GV.n],by simp [zeroGV,GV.s],Nat.le_refl _,⟨by simp [zeroGV,GV.kids],by omega⟩,
  ⟨none,0,[],rfl,Nat.le_refl _,⟨by simp [zeroGV,GV.kids],by omega⟩,⟨rfl,fun h=>absurd h (by simp [zeroGV,GV.kids])⟩,rfl⟩⟩
def RdCut (P:Nat→Prop)(r:GR)(N:Nat)(W:World)(s:Value)(wx:World):Prop :=
 ∃ wy g A c sv m xs,wy=wx∧s=.pointer (some ⟨g,0,none⟩)∧Blk wx g 154 (rcells r A c sv)∧W.heap.size≤g∧VAt wx (fun b=>(P b∨W.heap.size≤b)∧b ≠ g) r.val A c∧wx.ownsRow W.heap.size 254 3 sv m xs∧SpOK m N xs∧sv.ownBlock ≠ some g∧Ext W wx
theorem RdCut.late {P:Nat→Prop}{r:GR}{N:Nat}{W w2:World}{A:Option Addr}{c:Nat}{sv:Value}{m:Nat}{xs:List Value}(_:∀ b,P b→b<W.heap.size)(hv:VAt w2 (New P W.heap.size) r.val A c)(ho:w2.ownsRow W.heap.size 254 3 sv m xs)(hm:SpOK m N xs)(hx:Ext W w2) :
  RdCut P r N W (.pointer (some ⟨w2.heap.size,0,none⟩)) (w2.alloc (.cells (rcells r A c sv) 154)):=by
 have hs:=hx.size
 refine ⟨_,w2.heap.size,A,c,sv,m,xs,rfl,rfl,Blk.new _ _ _,hs,hv.carry (Keeps.of_ext ((Ext.refl w2).alloc' _)) (fun b hb h=>⟨h,by omega⟩),ho.alloc _,hm,fun e=>?_,hx.alloc' _⟩
 have:=ho.block_lt e
 omega
theorem RdCut.early {P:Nat→Prop}{r:GR}{N B:Nat}{W w2:World}{A:Option Addr}{c:Nat}{sv:Value}{m:Nat}{xs:List Value}(hP:∀ b,P b→b<W.heap.size)(hv:VAt w2 (New P B) r.val A c)(ho:w2.ownsRow B 254 3 sv m xs)(hm:SpOK m N xs)(hB:B=W.heap.size+1)
  (hx:Ext (W.alloc (.cells zcells 154)) w2):RdCut P r N W (.pointer (some ⟨W.heap.size,0,none⟩)) (set7 w2 W.heap.size (.int .i64 r.val.kind) (.int .i64 r.val.n) (.string r.val.s) (.slice A r.val.kids.length c) (.int .i64 r.used) (.int .i64 r.stop) sv):=by
 subst hB
 have hx':Ext W w2:=((Ext.refl W).alloc' _).trans' hx
 have hs:=hx.size
 simp at hs
 refine ⟨_,W.heap.size,A,c,sv,m,xs,rfl,rfl,set7_blk ((Blk.new W 154 zcells).ext hx) _ _ _ _ _ _ _,Nat.le_refl _,?_,(set7_own ho (by omega) _ _ _ _ _ _ _).base_le (by omega),hm,fun e=>?_,set7_ext hx' (Nat.le_refl _) _ _ _ _ _ _ _⟩
 ·refine hv.carry (Q:=fun b=>(P b∨W.heap.size≤b)∧b ≠ W.heap.size) (set7_keeps ?_ _ _ _ _ _ _ _) (fun b hb h=>?_)
  ·rintro (h | h)
   ·have:=hP _ h;omega
   ·omega
  ·rcases h with h | h
   ·have:=hP b h
    exact ⟨.inl h,by omega⟩
   ·exact ⟨.inr (by omega),by omega⟩
 ·have:=ho.block_ge e
  omega
set_option maxRecDepth 100000 in
set_option maxHeartbeats 4000000 in
theorem read0_any (t:List GN)(path:List Int)(f i:Nat)(at_:Int)(P:Nat→Prop)(vn vp:Value)(w:World)(hi:i<t.length)(hP:∀ b,P b→b<w.heap.size)(ht:Nds w P vn t)(hk:(t.getD i default).kind=0) :
  Calls Tryz.prog 144 #[.agg #[vn],.int .i64 i,vp,.int .i64 at_] w (RetR P (readR t path (f+1) i at_) (5 ^ (f+1)) w):=by
 have HT:=Lib.hid ht
 have HPP:=Lib.hid hP
 have HQ:=Lib.hid (show readR t path (f+1) i at_=⟨(t.getD i default).value,0,-1⟩ by simp only [readR,Int.toNat_natCast];unfold readStep;rw [if_pos hk])
 obtain ⟨An,cn,en,hn1,hn2⟩:=ht.form
 subst en
 obtain ⟨b1,o1,a1,rfl,-,ha1,hc1⟩:=ht.get hi
 have HA:=Lib.hid ha1
 have lb1:=hc1.lt
 have c0:=hc1.c0
 have c1:=hc1.c1
 have c2:=hc1.c2
 have c3:=hc1.c3
 have c4:=hc1.c4
 have c5:=hc1.c5
 have c6:=hc1.c6
 have c7:=hc1.c7
 have c8:=hc1.c8
 have c9:=hc1.c9
 have c10:=hc1.c10
 have c11:=hc1.c11
 have t0:((t.getD i default).kind == 0)=true:=beq_iff_eq.2 hk
 clear ht hP hc1 ha1 hk
 generalize t.getD i default=x at *
 go_enter Tryz.func144,Tryz.ntmps144
 go_upto_region 2 with fail
 have HW:=Lib.hid (ReadW.mk' (.slice (some ⟨b1,o1,none⟩) t.length cn) x a1 w)
 generalize hW:(((w.alloc (.cells #[.slice (some ⟨b1,o1,none⟩) t.length cn] 25)).alloc (.cells zcells 154)).alloc (.cells (ncells x a1).toArray 87))=W at *
 clear hW
 have x0:=HW.out.box.cell' (u:=.int .i64 x.kind) 0 rfl
 have x8:=HW.out.box.cell' (u:=.int .i64 x.value.kind) 8 rfl
 have x9:=HW.out.box.cell' (u:=.int .i64 x.value.n) 9 rfl
 have x10:=HW.out.box.cell' (u:=.string x.value.s) 10 rfl
 have x11:=HW.out.box.cell' (u:=.slice a1.xA x.value.kids.length a1.xc) 11 rfl
 have r0:=HW.out.res.cell' (u:=.int .i64 0) 0 rfl
 have r1:=HW.out.res.cell' (u:=.int .i64 0) 1 rfl
 have r2:=HW.out.res.cell' (u:=.string ⟨#[]⟩) 2 rfl
 have r3:=HW.out.res.cell' (u:=.slice none 0 0) 3 rfl
 have r4:=HW.out.res.cell' (u:=.int .i64 0) 4 rfl
 have r5:=HW.out.res.cell' (u:=.int .i64 0) 5 rfl
 have r6:=HW.out.res.cell' (u:=.slice none 0 0) 6 rfl
 have f0:=HW.out.res.frozen 0
 have f1:=HW.out.res.frozen 1
 have f2:=HW.out.res.frozen 2
 have f3:=HW.out.res.frozen 3
 have f4:=HW.out.res.frozen 4
 have f5:=HW.out.res.frozen 5
 have f6:=HW.out.res.frozen 6
 clear c0 c1 c2 c3 c4 c5 c6 c7 c8 c9 c10 c11
 go_wp2_with fail
 have q:=set7_blk HW.out.res (.int .i64 x.value.kind) (.int .i64 x.value.n) (.string x.value.s) (.slice a1.xA x.value.kids.length a1.xc) (.int .i64 0) (.int .i64 (-1)) (.slice none 0 0)
 have HX2:=Lib.hid (set7_ext HW.out.ext (show w.heap.size≤w.heap.size+1 by omega) (.int .i64 x.value.kind) (.int .i64 x.value.n) (.string x.value.s) (.slice a1.xA x.value.kids.length a1.xc) (.int .i64 0) (.int .i64 (-1)) (.slice none 0 0))
 change bodyPost Tryz.prog Tryz.f144 _ Exit.ret _ (set7 W (w.heap.size+1) (.int .i64 x.value.kind) (.int .i64 x.value.n) (.string x.value.s) (.slice a1.xA x.value.kids.length a1.xc) (.int .i64 0) (.int .i64 (-1)) (.slice none 0 0))
 have HV:=Lib.hid ((HA.out.value.ext HX2.out).keep (Q:=New P w.heap.size) (fun _ _ _=>rfl) (fun _ h=>.inl h))
 generalize set7 W (w.heap.size+1) (.int .i64 x.value.kind) (.int .i64 x.value.n) (.string x.value.s) (.slice a1.xA x.value.kids.length a1.xc) (.int .i64 0) (.int .i64 (-1)) (.slice none 0 0)=W' at *
 have q0:=q.cell' (u:=.int .i64 x.value.kind) 0 rfl
 have q1:=q.cell' (u:=.int .i64 x.value.n) 1 rfl
 have q2:=q.cell' (u:=.string x.value.s) 2 rfl
 have q3:=q.cell' (u:=.slice a1.xA x.value.kids.length a1.xc) 3 rfl
 have q4:=q.cell' (u:=.int .i64 0) 4 rfl
 have q5:=q.cell' (u:=.int .i64 (-1)) 5 rfl
 have q6:=q.cell' (u:=.slice none 0 0) 6 rfl
 rw [HQ.out]
 refine bodyPost_ret (v:=.agg (rcells ⟨x.value,0,-1⟩ a1.xA a1.xc (.slice none 0 0))) (by simp [results,Tryz.results144,go_sem,q0,q1,q2,q3,q4,q5,q6]) rfl ⟨a1.xA,a1.xc,.slice none 0 0,0,[],rfl,HV.out,own_none _ _ _ _,?_,HX2.out⟩
 exact SpOK.nil f
end Go.Proofs.YtkoeecdjijfjnaaGreat
