/- Contracts of the leaf functions on integers and lists of integers. Conditions: none. -/
import Derived.Test.YtkoeecdjijfjnaaGreatProg
import Derived.Test.YtkoeecdjijfjnaaGreatMem
import Derived.Test.YtkoeecdjijfjnaaGreatPl1
namespace Go.Proofs.YtkoeecdjijfjnaaGreat
open Go.RowKit
theorem cell_of_ints {w:World}{b off:Nat}{l:List Int}{k:Nat}(hk:k<l.length)
   (hc:∀ j u,(l.map (Value.int .i64))[j]?=some u→w.cell? ⟨b,off+j,none⟩=some u):w.cell? ⟨b,off+k,none⟩=some (.int .i64 (l.getD k 0)):=by
 apply hc;simp [hk]
theorem ret_int {k:IntKind}{a b:Int}(h:a=b):Ending.returned (.int k a)=.returned (.int k b):=by rw [h]
theorem ret_bool {a b:Bool}(h:a=b):Ending.returned (.bool a)=.returned (.bool b):=by rw [h]
def RetQ (v:Value)(w:World)(e:Ending)(w':World):Prop:=e=.returned v∧∃ n,w'=w.drewN n
set_option maxHeartbeats 400000 in
theorem around_any (n m:Int)(w:World)(hn:I64 n)(hm:1≤m)(hm2:m≤9223372036854775807) :
  Calls Tryz.prog 9 #[.int .i64 n,.int .i64 m] w fun e w'=>e=.returned (.int .i64 (around n m))∧w=w':=by
 obtain ⟨hn1,hn2⟩:=hn
 by_cases h0:n<0
 ·go_enter Tryz.func9,Tryz.ntmps9
  go_wp2
  go_ret
  refine ⟨ret_int ?_,rfl⟩
  unfold around
  rw [if_pos h0,← Int.neg_tmod,Int.tmod_eq_emod_of_nonneg (by omega)]
 ·go_enter Tryz.func9,Tryz.ntmps9
  go_wp2
  go_ret
  refine ⟨ret_int ?_,rfl⟩
  unfold around
  rw [if_neg (by omega)]
set_option maxHeartbeats 400000 in
theorem isNaN_any (n:Int)(w:World) :
  Calls Tryz.prog 113 #[.int .i64 n] w fun e w'=>e=.returned (.bool false)∧w=w':=by
 go_enter Tryz.func113,Tryz.ntmps113
 go_wp2
 go_ret
 exact ⟨rfl,rfl⟩
set_option maxHeartbeats 400000 in
theorem cmpInt_any (a b:Int)(w:World) :
  Calls Tryz.prog 62 #[.int .i64 a,.int .i64 b] w fun e w'=>e=.returned (.int .i64 (cmpI a b))∧w=w':=by
 go_enter Tryz.func62,Tryz.ntmps62
 go_wp2_with (go_at_call 113;refine (isNaN_any _ _).mono ?_;rintro e w' ⟨rfl,rfl⟩)
 all_goals
  go_ret
  refine ⟨ret_int ?_,rfl⟩
  unfold cmpI
 ·rw [if_pos (by assumption)]
 ·rw [if_neg (by omega),if_pos (by assumption)]
 ·rw [if_neg (by omega),if_neg (by omega)]
def SameInv (a b:List Int)(w:World)(i:Value)(wr:World):Prop:=∃ k n:Nat,k≤a.length∧i=.int .i64 k∧wr=w.drewN n∧a.take k=b.take k
set_option maxHeartbeats 400000 in
theorem sameInts_any (a b:List Int)(P Q:Nat→Prop)(va vb:Value)(w:World)(ha:Ints w P va a)(hb:Ints w Q vb b) :
  Calls Tryz.prog 24 #[va,vb] w (RetQ (.bool (decide (a=b))) w):=by
 obtain ⟨A,c,rfl,h1,h2,h3,h4⟩:=ha
 obtain ⟨A',c',rfl,h1',h2',h3',h4'⟩:=hb
 clear h3 h3'
 have H4:=Lib.hid h4
 have H4':=Lib.hid h4'
 clear h4 h4'
 generalize hna:a.length=na at *
 generalize hnb:b.length=nb at *
 have HA:=Lib.hid hna
 have HB:=Lib.hid hnb
 clear hna hnb
 by_cases hl:na=nb
 ·subst hl
  go_enter Tryz.func24,Tryz.ntmps24
  go_wp2
  go_loopw [5] (fun i wr=>SameInv a b w i wr) (fun i _=>na - (intOf i).toNat)
  case atStart=>exact ⟨0,0,Nat.zero_le _,rfl,rfl,rfl⟩
  case round =>
   obtain ⟨k,n,hk,rfl,rfl,ht⟩:=hrel
   rw [HA.out] at hk
   have HT:=Lib.hid ht
   clear ht
   by_cases hlt:k<na
   ·obtain ⟨b1,o1,rfl,-,hc1⟩:=H4.out.2 (by omega)
    obtain ⟨b2,o2,rfl,-,hc2⟩:=H4'.out.2 (by omega)
    have g1:=cell_of_ints (k:=k) (by rw [HA.out];omega) hc1
    have g2:=cell_of_ints (k:=k) (by rw [HB.out];omega) hc2
    clear hc1 hc2
    generalize hx:a.getD k 0=x at *
    generalize hy:b.getD k 0=y at *
    have HX:=Lib.hid hx
    have HY:=Lib.hid hy
    clear hx hy
    by_cases hxy:x=y
    ·subst hxy
     go_wp2
     go_quiet (fail)
     go_wp2
     go_roundw
     case rel =>
      refine ⟨k+1,_,by rw [HA.out];omega,by go_num,rfl,?_⟩
      rw [take_succ_getD 0 (by rw [HA.out];omega),take_succ_getD 0 (by rw [HB.out];omega),HT.out,HX.out,HY.out]
     case measure=>simp [intOf];omega
    ·have hxy':(x != y)=true:=by simp [hxy]
     have HN:=Lib.hid hxy
     clear hxy
     go_wp2
     go_quiet (fail)
     go_wp2
     go_ret
     refine ⟨ret_bool ?_,_,World.drewN_drewN _ _ _⟩
     symm
     rw [decide_eq_false_iff_not]
     rintro rfl
     exact HN.out (HX.out.symm.trans HY.out)
   ·go_wp2
    go_ret
    refine ⟨ret_bool ?_,_,rfl⟩
    have:=HT.out
    rw [List.take_of_length_le (by rw [HA.out];omega),List.take_of_length_le (by rw [HB.out];omega)] at this
    simp [this]
 ·have hl':((na:Int) != (nb:Int))=true:=by simp;omega
  go_enter Tryz.func24,Tryz.ntmps24
  go_wp2
  go_ret
  refine ⟨ret_bool ?_,0,rfl⟩
  symm
  rw [decide_eq_false_iff_not]
  rintro rfl
  exact hl (HA.out.symm.trans HB.out)
def pick (l:List Int)(i m:Int):Int:=if i<0∨(l.length:Int)≤i then 0 else around (l.getD i.toNat 0) m
theorem pick_pos {l:List Int}{i m:Int}(hm:1≤m):0≤pick l i m∧pick l i m<m:=by
 unfold pick
 split
 ·omega
 ·exact around_pos hm
theorem I64_getD {l:List Int}(h:∀ x ∈ l,I64 x)(k:Nat):I64 (l.getD k 0):=by
 by_cases hk:k<l.length
 ·have:l.getD k 0=l[k]:=by simp [hk]
  rw [this]
  exact h _ (List.getElem_mem hk)
 ·have:l.getD k 0=0:=by simp [hk]
  rw [this]
  unfold I64;omega
set_option maxHeartbeats 400000 in
theorem pick_any (l:List Int)(i m:Int)(P:Nat→Prop)(v:Value)(w:World)(hv:Ints w P v l)(hi:I64 i)(hm:1≤m)(hm2:m≤9223372036854775807) :
  Calls Tryz.prog 38 #[v,.int .i64 i,.int .i64 m] w fun e w'=>e=.returned (.int .i64 (pick l i m))∧w=w':=by
 obtain ⟨A,c,rfl,h1,h2,h3,h4⟩:=hv
 obtain ⟨hi1,hi2⟩:=hi
 by_cases h0:i<0
 ·go_enter Tryz.func38,Tryz.ntmps38
  go_wp2
  go_ret
  exact ⟨ret_int (by unfold pick;rw [if_pos (by omega)]),rfl⟩
 ·by_cases h5:(l.length:Int)≤i
  ·have h0':decide (i<0)=false:=by simpa using h0
   go_enter Tryz.func38,Tryz.ntmps38
   go_wp2
   go_ret
   exact ⟨ret_int (by unfold pick;rw [if_pos (by omega)]),rfl⟩
  ·obtain ⟨k,rfl⟩:=Int.eq_ofNat_of_zero_le (show 0≤i by omega)
   have hk:k<l.length:=by omega
   obtain ⟨b1,o1,rfl,-,hc1⟩:=h4.2 (by omega)
   have g1:=cell_of_ints hk hc1
   have hx:=I64_getD h3 k
   have hr:pick l k m=around (l.getD k 0) m:=by
    unfold pick
    rw [if_neg (by omega)]
    rfl
   rw [hr]
   clear hr h3 hc1
   generalize l.getD k 0=x at *
   go_enter Tryz.func38,Tryz.ntmps38
   go_wp2_with (go_at_call 9;refine (around_any _ _ _ hx hm hm2).mono ?_;rintro e w' ⟨rfl,rfl⟩)
   go_ret
   exact ⟨rfl,rfl⟩
def CmpInv (a b:List Int)(w:World)(i:Value)(wr:World):Prop:=∃ k n:Nat,k≤a.length∧k≤b.length∧i=.int .i64 k∧wr=w.drewN n∧cmpL a b=cmpL (a.drop k) (b.drop k)
set_option maxHeartbeats 400000 in
theorem slicesCompare_any (a b:List Int)(P Q:Nat→Prop)(va vb:Value)(w:World)(ha:Ints w P va a)(hb:Ints w Q vb b) :
  Calls Tryz.prog 63 #[va,vb] w (RetQ (.int .i64 (cmpL a b)) w):=by
 obtain ⟨A,c,rfl,h1,h2,h3,h4⟩:=ha
 obtain ⟨A',c',rfl,h1',h2',h3',h4'⟩:=hb
 clear h3 h3'
 have H4:=Lib.hid h4
 have H4':=Lib.hid h4'
 clear h4 h4'
 go_enter Tryz.func63,Tryz.ntmps63
 go_wp2
 go_loopw [11] (fun i wr=>CmpInv a b w i wr) (fun i _=>a.length - (intOf i).toNat)
 case atStart=>exact ⟨0,0,Nat.zero_le _,Nat.zero_le _,rfl,rfl,rfl⟩
 case round =>
  obtain ⟨k,n,hk,hk',rfl,rfl,ht⟩:=hrel
  have HT:=Lib.hid ht
  clear ht
  by_cases hlt:k<a.length
  ·obtain ⟨b1,o1,rfl,-,hc1⟩:=H4.out.2 (by omega)
   have g1:=cell_of_ints hlt hc1
   by_cases hlt':k<b.length
   ·obtain ⟨b2,o2,rfl,-,hc2⟩:=H4'.out.2 (by omega)
    have g2:=cell_of_ints hlt' hc2
    clear hc1 hc2
    have HD:=Lib.hid (show cmpL a b=cmpL (a.getD k 0 :: a.drop (k+1)) (b.getD k 0 :: b.drop (k+1)) by
     rw [HT.out,← drop_getD 0 hlt,← drop_getD 0 hlt'])
    generalize a.getD k 0=x at *
    generalize b.getD k 0=y at *
    go_wp2_with (go_at_call 62;refine (cmpInt_any _ _ _).mono ?_;rintro e w' ⟨rfl,rfl⟩)
    ·rename_i hz
     go_ret
     refine ⟨ret_int ?_,_,rfl⟩
     rw [HD.out]
     simp only [cmpL]
     rw [if_neg (by simpa using hz)]
    ·rename_i hz
     go_roundw
     case rel =>
      refine ⟨k+1,n,by omega,by omega,by go_num,rfl,?_⟩
      rw [HD.out]
      simp only [cmpL]
      rw [if_pos (by simpa using hz)]
     case measure=>simp [intOf];omega
   ·clear hc1
    go_wp2
    go_ret
    refine ⟨ret_int ?_,_,rfl⟩
    rw [HT.out,drop_nil (l:=b) (by omega),drop_getD 0 hlt]
    rfl
  ·by_cases hlt':k<b.length
   ·go_wp2
    go_ret
    refine ⟨ret_int ?_,_,rfl⟩
    rw [HT.out,drop_nil (l:=a) (by omega),drop_getD 0 hlt']
    rfl
   ·go_wp2
    go_ret
    refine ⟨ret_int ?_,_,rfl⟩
    rw [HT.out,drop_nil (l:=a) (by omega),drop_nil (l:=b) (by omega)]
    rfl
def orI (x y:Int):Int:=if x=0 then y else x
set_option maxHeartbeats 400000 in
theorem or_any (x y:Int)(b:Nat)(w:World)(hc0:w.cell? ⟨b,0,none⟩=some (.int .i64 x))(hc1:w.cell? ⟨b,1,none⟩=some (.int .i64 y)) :
  Calls Tryz.prog 61 #[.slice (some ⟨b,0,none⟩) 2 2] w fun e w'=>e=.returned (.int .i64 (orI x y))∧w=w':=by
 go_enter Tryz.func61,Tryz.ntmps61
 go_wp2
 refine wp_loop_rounds 3 ?_
 rw [rounds_succ]
 by_cases hx:x=0
 ·subst hx
  go_wp2
  rw [rounds_succ]
  by_cases hy:y=0
  ·subst hy
   go_wp2
   rw [rounds_succ]
   go_wp2
   go_ret
   exact ⟨rfl,rfl⟩
  ·have hy':(y != 0)=true:=by simp [hy]
   go_wp2
   go_ret
   exact ⟨rfl,rfl⟩
 ·have hx':(x != 0)=true:=by simp [hx]
  go_wp2
  go_ret
  exact ⟨ret_int (by unfold orI;rw [if_neg hx]),rfl⟩
def RetE (v:Value)(w:World)(e:Ending)(w':World):Prop:=e=.returned v∧Ext w w'
set_option maxHeartbeats 400000 in
theorem orderCompare_any (a b:List Int)(P Q:Nat→Prop)(va vb:Value)(w:World)(ha:Ints w P va a)(hb:Ints w Q vb b) :
  Calls Tryz.prog 25 #[va,vb] w (RetE (.int .i64 (cmpP a b)) w):=by
 have hC:=slicesCompare_any a b P Q va vb w ha hb
 have HC:=Lib.hid hC
 clear hC
 obtain ⟨A,c,rfl,h1,h2,h3,h4⟩:=ha
 obtain ⟨A',c',rfl,h1',h2',h3',h4'⟩:=hb
 clear h3 h3' h4 h4'
 go_enter Tryz.func25,Tryz.ntmps25
 go_wp2_with fail
 refine (cmpInt_any _ _ _).mono ?_
 rintro e w' ⟨rfl,rfl⟩
 go_wp2_with fail
 refine HC.out.mono ?_
 rintro e w' ⟨rfl,n,rfl⟩
 go_wp2_with fail
 refine (or_any (cmpI a.length b.length) (cmpL a b) _ _ ?_ ?_).mono ?_
 ·exact cell_new (w.drewN n) _ _ _ 0
 ·exact cell_new (w.drewN n) _ _ _ 1
 rintro e w' ⟨rfl,rfl⟩
 go_wp2_with fail
 go_ret
 refine ⟨ret_int ?_,?_⟩
 ·unfold orI cmpP;rfl
 exact (Ext.drewN w n).alloc (by simp) _
end Go.Proofs.YtkoeecdjijfjnaaGreat
