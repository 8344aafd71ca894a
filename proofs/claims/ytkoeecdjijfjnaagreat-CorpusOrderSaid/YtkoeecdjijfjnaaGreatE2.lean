/- The contract of the program's merged. Conditions: none. Before it: Contracts of the program's Made, Options and Length. Conditions: none. -/
import Derived.Test.YtkoeecdjijfjnaaGreatD7
namespace Go.Proofs.YtkoeecdjijfjnaaGreat
open Go.RowKit
set_option maxHeartbeats 1000000 in
theorem progMade_any (x:GN)(a:NA)(b o:Nat)(kids:List GV)(A:Option Addr)(c:Nat)(w:World)(hn:NCells w b o x a) :
  Calls Tryz.prog 97 #[.pointer (some ⟨b,o,none⟩),.slice A kids.length c] w fun e w'=>e=.returned (vagg (madeV x.name kids) A c)∧Ext w w':=by
 have c1:=hn.c1
 have lb:=hn.lt
 clear hn
 by_cases he:x.name.toList=[]
 ·have he1:x.name.toList.isEmpty=true:=by simp [he]
  have HM:=Lib.hid (show madeV x.name kids=.mk 2 0 ByteArray.empty kids by unfold madeV emptyB;rw [he1];rfl)
  go_enter Tryz.func97,Tryz.ntmps97
  go_wp2_with fail
  rw [HM.out]
  exact bodyPost_ret (v:=.agg #[.int .i64 2,.int .i64 0,.string ByteArray.empty,.slice A kids.length c]) (by simp [results,Tryz.results97,go_sem];rfl) rfl ⟨rfl,(Ext.refl _).alloc' _⟩
 ·have he1:x.name.toList.isEmpty=false:=by simpa using he
  have HM:=Lib.hid (show madeV x.name kids=.mk 3 0 x.name kids by unfold madeV emptyB;rw [he1];rfl)
  go_enter Tryz.func97,Tryz.ntmps97
  go_wp2_with fail
  rw [HM.out]
  exact bodyPost_ret (v:=.agg #[.int .i64 3,.int .i64 0,.string x.name,.slice A kids.length c]) (by simp [results,Tryz.results97,go_sem]) rfl ⟨rfl,(Ext.refl _).alloc' _⟩
set_option maxHeartbeats 1000000 in
theorem progOptions_any (x:GN)(a:NA)(b o:Nat)(w:World)(hn:NCells w b o x a) :
  Calls Tryz.prog 147 #[.pointer (some ⟨b,o,none⟩)] w (RetQ (.int .i64 (optionsI x)) w):=by
 have HO:=Lib.hid (show optionsI x=if x.kind=1 then wrap64 (wrap64 (x.hi - x.lo)+1) else x.kids.length from rfl)
 have c0:=hn.c0
 have c2:=hn.c2
 have c3:=hn.c3
 have c7:=hn.c7
 clear hn
 by_cases hk:x.kind=1
 ·have t1:(x.kind == 1)=true:=beq_iff_eq.2 hk
  have HK:=Lib.hid hk
  clear hk
  go_enter Tryz.func147,Tryz.ntmps147
  go_wp2_with fail
  go_quiet (fail)
  go_wp2_with fail
  go_ret
  refine ⟨ret_int ?_,_,rfl⟩
  rw [HO.out,if_pos HK.out]
 ·have t1:(x.kind == 1)=false:=beq_eq_false_iff_ne.2 hk
  have HK:=Lib.hid hk
  clear hk
  go_enter Tryz.func147,Tryz.ntmps147
  go_wp2_with fail
  go_ret
  exact ⟨ret_int (by rw [HO.out,if_neg HK.out]),0,rfl⟩
def PLenInv (ls:List Int)(x:GN)(ch:Bool)(W:World)(s m i:Value)(wr:World):Prop :=
 ∃ (k:Nat) (s1 m1:Int),k≤x.kids.length∧i=.int .i64 k∧s=.int .i64 s1∧m=.int .i64 m1∧W=wr ∧
  lsumW ls 0 x.kids=lsumW ls s1 (x.kids.drop k)∧lmostW ls ch 0 0 x.kids=lmostW ls ch k m1 (x.kids.drop k)
set_option maxRecDepth 100000 in
set_option maxHeartbeats 4000000 in
theorem progLength_any (ls:List Int)(x:GN)(a:NA)(b o:Nat)(P Q:Nat→Prop)(vl:Value)(w:World)(hn:NCells w b o x a)(hx:NAt w P x a)(hl:Ints w Q vl ls)(hok:NodeOK ls.length x) :
  Calls Tryz.prog 96 #[.pointer (some ⟨b,o,none⟩),vl] w fun e w'=>e=.returned (.int .i64 (lenR ls x))∧w=w':=by
 have HL:=Lib.hid hl
 have hki:=hx.kids
 have HK:=Lib.hid hok.kids
 have hkd:=hok.kind
 have HBD:=Lib.hid (show x.kind=4→0<x.kids.length from fun h=>by have:=hok.bind h;omega)
 obtain ⟨Al,cl,el,hl1,hl2⟩:=hl.form
 subst el
 obtain ⟨hkl1,hkl2⟩:=hx.kids.le
 have c0:=hn.c0
 have c7:=hn.c7
 have HLR:=Lib.hid (show lenR ls x=if x.kind=0 then 0 else if x.kind=1 then 1 else if x.kind=3 then lsumW ls 0 x.kids else if x.kind=2 then wrap64 (1+lmostW ls true 0 0 x.kids) else wrap64 (ls.getD (x.kids.getD 0 0).toNat 0+lmostW ls false 0 0 x.kids) from rfl)
 clear hx hl hok hn
 generalize a.kA=Ak at *
 generalize a.kc=kc at *
 have HX:=Lib.hid hki
 clear hki
 obtain ⟨ch,hch⟩:∃ ch:Bool,ch=decide (x.kind=2):=⟨_,rfl⟩
 have HCH:=Lib.hid hch
 have t2:(x.kind == 2)=ch:=by rw [hch];exact rfl
 clear hch
 go_enter Tryz.func96,Tryz.ntmps96
 go_wp2_with fail
 go_loopw [5,6,14] (fun s m i wr=>PLenInv ls x ch w s m i wr) (fun _ _ i _=>x.kids.length - (intOf i).toNat)
 case atStart=>exact ⟨0,0,0,Nat.zero_le _,rfl,rfl,rfl,rfl,rfl,rfl⟩
 case round =>
  obtain ⟨k,s1,m1,hk,rfl,rfl,rfl,rfl,hs,hm⟩:=hrel
  have HS:=Lib.hid hs
  have HM:=Lib.hid hm
  clear hs hm
  by_cases hlt:k<x.kids.length
  ·obtain ⟨b1,o1,rfl,-,-,g1⟩:=HX.out.get hlt
   have hz:=HK.out _ (getD_mem (d:=0) hlt)
   have HD1:=Lib.hid (HS.out.trans (by rw [drop_getD 0 hlt,lsumW]))
   have HD2:=Lib.hid (show lmostW ls ch 0 0 x.kids=lmostW ls ch (k+1) (if ch=true∨0<k then (if m1<ls.getD (x.kids.getD k 0).toNat 0 then ls.getD (x.kids.getD k 0).toNat 0 else m1) else m1) (x.kids.drop (k+1)) by rw [HM.out,drop_getD 0 hlt,lmostW])
   generalize x.kids.getD k 0=z at *
   obtain ⟨b2,o2,rfl,-,-,g2⟩:=HL.out.get (i:=z.toNat) (by omega)
   generalize ls.getD z.toNat 0=y at *
   by_cases hk0:0<k
   ·have tk:decide (0<(k:Int))=true:=decide_eq_true (by omega)
    go_wp2_with fail
    all_goals
     go_roundw
     case rel=>exact ⟨k+1,_,_,by omega,by go_num,rfl,rfl,rfl,HD1.out,by rw [HD2.out,if_pos (.inr hk0)];try (first | rw [if_pos (by assumption)] | rw [if_neg (by omega)])⟩
     case measure=>simp [intOf];omega
   ·have tk:decide (0<(k:Int))=false:=decide_eq_false (by omega)
    cases ch
    ·go_wp2_with fail
     go_roundw
     case rel=>exact ⟨k+1,_,_,by omega,by go_num,rfl,rfl,rfl,HD1.out,by rw [HD2.out,if_neg (by simp;omega)]⟩
     case measure=>simp [intOf];omega
    ·go_wp2_with fail
     all_goals
      go_roundw
      case rel=>exact ⟨k+1,_,_,by omega,by go_num,rfl,rfl,rfl,HD1.out,by rw [HD2.out,if_pos (.inl rfl)];try (first | rw [if_pos (by assumption)] | rw [if_neg (by omega)])⟩
      case measure=>simp [intOf];omega
  ·have HS2:=Lib.hid (show lsumW ls 0 x.kids=s1 by rw [HS.out,drop_nil (by omega),lsumW])
   have HM2:=Lib.hid (show lmostW ls ch 0 0 x.kids=m1 by rw [HM.out,drop_nil (by omega),lmostW])
   clear t2
   by_cases k0:x.kind=0
   ·have t0:(x.kind == 0)=true:=beq_iff_eq.2 k0
    have t1:(x.kind == 1)=false:=beq_eq_false_iff_ne.2 (by omega)
    have t2:(x.kind == 2)=false:=beq_eq_false_iff_ne.2 (by omega)
    have t3:(x.kind == 3)=false:=beq_eq_false_iff_ne.2 (by omega)
    have t4:(x.kind == 4)=false:=beq_eq_false_iff_ne.2 (by omega)
    have HF:=Lib.hid (show lenR ls x=0 by rw [HLR.out,if_pos k0])
    clear k0
    go_wp2_with fail
    go_ret
    exact ⟨ret_int HF.out.symm,rfl⟩
   by_cases k1:x.kind=1
   ·have t1:(x.kind == 1)=true:=beq_iff_eq.2 k1
    have HF:=Lib.hid (show lenR ls x=1 by rw [HLR.out,if_neg k0,if_pos k1])
    clear k1 k0
    go_wp2_with fail
    go_ret
    exact ⟨ret_int HF.out.symm,rfl⟩
   have t1:(x.kind == 1)=false:=beq_eq_false_iff_ne.2 k1
   by_cases k2:x.kind=2
   ·have t2:(x.kind == 2)=true:=beq_iff_eq.2 k2
    have HF:=Lib.hid (show lenR ls x=wrap64 (1+m1) by rw [HLR.out,if_neg k0,if_neg k1,if_neg (by omega),if_pos k2,← HM2.out,HCH.out,decide_eq_true k2])
    clear k2 k1 k0
    go_wp2_with fail
    go_ret
    exact ⟨ret_int HF.out.symm,rfl⟩
   have t2:(x.kind == 2)=false:=beq_eq_false_iff_ne.2 k2
   by_cases k3:x.kind=3
   ·have t3:(x.kind == 3)=true:=beq_iff_eq.2 k3
    have HF:=Lib.hid (show lenR ls x=s1 by rw [HLR.out,if_neg k0,if_neg k1,if_pos k3,HS2.out])
    clear k3 k2 k1 k0
    go_wp2_with fail
    go_ret
    exact ⟨ret_int HF.out.symm,rfl⟩
   have t3:(x.kind == 3)=false:=beq_eq_false_iff_ne.2 k3
   have k4:x.kind=4:=by omega
   have t4:(x.kind == 4)=true:=beq_iff_eq.2 k4
   have hkp:=HBD.out k4
   have HF:=Lib.hid (show lenR ls x=wrap64 (ls.getD (x.kids.getD 0 0).toNat 0+m1) by rw [HLR.out,if_neg k0,if_neg k1,if_neg k3,if_neg k2,← HM2.out,HCH.out,decide_eq_false k2])
   obtain ⟨b1,o1,rfl,-,-,g1⟩:=HX.out.get hkp
   rw [Nat.add_zero] at g1
   have hz:=HK.out _ (getD_mem (d:=0) hkp)
   generalize x.kids.getD 0 0=z at *
   obtain ⟨b2,o2,rfl,-,-,g2⟩:=HL.out.get (i:=z.toNat) (by omega)
   have hk1:(0:Int)<(x.kids.length:Int):=by omega
   generalize ls.getD z.toNat 0=y at *
   clear k4 k3 k2 k1 k0
   go_wp2_with fail
   go_ret
   exact ⟨ret_int HF.out.symm,rfl⟩
def mergeV:List GV→List GV→List GV
 | [],b=>b
 | x :: xs,[]=>x :: xs
 | x :: xs,y :: ys=>if cmpV x y<0 then x :: mergeV xs (y :: ys) else if cmpV x y=0 then x :: mergeV xs ys else y :: mergeV (x :: xs) ys
termination_by a b=>a.length+b.length
decreasing_by all_goals (simp only [List.length_cons];omega)
theorem mergeV_nil_left (b:List GV):mergeV [] b=b:=by simp [mergeV]
theorem mergeV_nil (a:List GV):mergeV a []=a:=by cases a <;> simp [mergeV]
theorem mergeV_cons (x y:GV)(xs ys:List GV):mergeV (x :: xs) (y :: ys)=if cmpV x y<0 then x :: mergeV xs (y :: ys) else if cmpV x y=0 then x :: mergeV xs ys else y :: mergeV (x :: xs) ys:=by rw [mergeV]
theorem mergeV_mem:∀ (a b:List GV)(z:GV),z ∈ mergeV a b ↔ z ∈ a∨z ∈ b
 | [],b,z=>by simp [mergeV_nil_left]
 | x :: xs,[],z=>by simp [mergeV_nil]
 | x :: xs,y :: ys,z=>by
  rw [mergeV_cons]
  split
  ·rw [List.mem_cons,mergeV_mem xs (y :: ys) z];simp only [List.mem_cons]
   constructor
   ·rintro (h | h | (h | h))
    ·exact .inl (.inl h)
    ·exact .inl (.inr h)
    ·exact .inr (.inl h)
    ·exact .inr (.inr h)
   ·rintro ((h | h) | (h | h))
    ·exact .inl h
    ·exact .inr (.inl h)
    ·exact .inr (.inr (.inl h))
    ·exact .inr (.inr (.inr h))
  ·split
   ·next h0 =>
    have e:=cmpV_zero x y h0
    subst e
    rw [List.mem_cons,mergeV_mem xs ys z];simp only [List.mem_cons]
    constructor
    ·rintro (h | h | h)
     ·exact .inl (.inl h)
     ·exact .inl (.inr h)
     ·exact .inr (.inr h)
    ·rintro ((h | h) | (h | h))
     ·exact .inl h
     ·exact .inr (.inl h)
     ·exact .inl h
     ·exact .inr (.inr h)
   ·rw [List.mem_cons,mergeV_mem (x :: xs) ys z];simp only [List.mem_cons]
    constructor
    ·rintro (h | (h | h) | h)
     ·exact .inr (.inl h)
     ·exact .inl (.inl h)
     ·exact .inl (.inr h)
     ·exact .inr (.inr h)
    ·rintro ((h | h) | (h | h))
     ·exact .inr (.inl (.inl h))
     ·exact .inr (.inl (.inr h))
     ·exact .inl h
     ·exact .inr (.inr h)
termination_by a b=>a.length+b.length
decreasing_by all_goals (simp only [List.length_cons];omega)
theorem mergeV_inc:∀ (a b:List GV),Inc a→Inc b→Inc (mergeV a b)
 | [],b,_,hb=>by rw [mergeV_nil_left];exact hb
 | x :: xs,[],ha,_=>by rw [mergeV_nil];exact ha
 | x :: xs,y :: ys,ha,hb=>by
  have ha':=List.pairwise_cons.1 ha
  have hb':=List.pairwise_cons.1 hb
  rw [mergeV_cons]
  split
  ·next h =>
   refine List.pairwise_cons.2 ⟨fun z hz=>?_,mergeV_inc xs (y :: ys) ha'.2 hb⟩
   rcases (mergeV_mem xs (y :: ys) z).1 hz with hz | hz
   ·exact ha'.1 z hz
   ·rcases List.mem_cons.1 hz with rfl | hz
    ·exact h
    ·exact ltV.tr h (hb'.1 z hz)
  ·split
   ·next h0 =>
    have e:=cmpV_zero x y h0
    subst e
    refine List.pairwise_cons.2 ⟨fun z hz=>?_,mergeV_inc xs ys ha'.2 hb'.2⟩
    rcases (mergeV_mem xs ys z).1 hz with hz | hz
    ·exact ha'.1 z hz
    ·exact hb'.1 z hz
   ·next h h0 =>
    have hyx:ltV y x:=by unfold ltV;have:=cmpV_swap x y;omega
    refine List.pairwise_cons.2 ⟨fun z hz=>?_,mergeV_inc (x :: xs) ys ha hb'.2⟩
    rcases (mergeV_mem (x :: xs) ys z).1 hz with hz | hz
    ·rcases List.mem_cons.1 hz with rfl | hz
     ·exact hyx
     ·exact hyx.tr (ha'.1 z hz)
    ·exact hb'.1 z hz
termination_by a b=>a.length+b.length
decreasing_by all_goals (simp only [List.length_cons];omega)
theorem mergeV_sort {a b:List GV}(ha:Inc a)(hb:Inc b):mergeV a b=sortR (a ++ b) :=
 Inc.ext (mergeV_inc a b ha hb) (sortR_inc _) (fun z=>by rw [mergeV_mem,sortR_mem,List.mem_append])
def RetVs (P:Nat→Prop)(l:List GV)(w:World)(e:Ending)(w':World):Prop :=
 ∃ A c,e=.returned (.slice A l.length c)∧Vals w' (New P w.heap.size) (.slice A l.length c) l∧Ext w w'
theorem Vals.tail {w:World}{P:Nat→Prop}{b off c:Nat}{x:GV}{l:List GV}(h:Vals w P (.slice (some ⟨b,off,none⟩) (l.length+1) c) (x :: l)):Vals w P (.slice (some ⟨b,off+4,none⟩) l.length (c - 1)) l:=by
 obtain ⟨A,c',css,e,h1,h2,h3,h4⟩:=h
 injection e with e1 e2 e3
 subst e1 e3
 have h5:=h3.drop (k:=1) (by simp)
 have h6:=h4.drop 1
 simp only [List.drop_succ_cons,List.drop_zero,Nat.one_mul,List.length_cons,Nat.add_sub_cancel] at h5 h6
 simp only [List.length_cons] at h1 h2
 exact ⟨_,c - 1,_,rfl,by omega,by omega,h5,h6⟩
theorem Vals.nil_any (w:World)(P:Nat→Prop)(A:Option Addr)(c:Nat)(hc:c≤9223372036854775807):Vals w P (.slice A 0 c) []:=⟨A,c,[],rfl,by simp,⟨by simp,hc⟩,⟨rfl,fun h=>absurd h (by simp)⟩,rfl⟩
def MergeInv (a b:List GV)(P:Nat→Prop)(w:World)(B:Nat)(v0 v1 v5:Value)(wr:World):Prop :=
 ∃ (a' b' out:List GV) (xs:List Value),Vals wr P v0 a'∧Vals wr P v1 b'∧wr.ownsRow B 85 4 v5 out.length xs∧RVs wr P out xs∧Ext w wr∧out.length+a'.length+b'.length≤a.length+b.length∧mergeV a b=out ++ mergeV a' b'
set_option maxRecDepth 100000 in
set_option maxHeartbeats 4000000 in
theorem merged_any (a b:List GV)(P:Nat→Prop)(va vb:Value)(w:World)(ha:Vals w P va a)(hb:Vals w P vb b)(hla:a.length≤100000)(hlb:b.length≤100000)(hP:∀ b,P b→b<w.heap.size) :
  Calls Tryz.prog 217 #[va,vb] w (RetVs P (mergeV a b) w):=by
 have HA:=Lib.hid ha
 have HB:=Lib.hid hb
 have HPP:=Lib.hid hP
 obtain ⟨Aa,ca,ea,ha1,ha2⟩:=ha.form
 obtain ⟨Ab,cb,eb,hb1,hb2⟩:=hb.form
 subst ea eb
 clear ha hb hP
 obtain ⟨i0,hi,hz0,hz1,hz2⟩:=info_parts Tryz.info85
 have HI:=Lib.hid hi
 by_cases h0:a.length=0
 ·have hnil:a=[]:=List.length_eq_zero_iff.1 h0
  have HQ:=Lib.hid (show mergeV a b=b by rw [hnil,mergeV_nil_left])
  have t0:((a.length:Int) == 0)=true:=beq_iff_eq.2 (by omega)
  have t1:(a.length == 0)=true:=beq_iff_eq.2 h0
  have hle:¬ 0<a.length:=by omega
  clear hi hnil h0
  go_enter Tryz.func217,Tryz.ntmps217
  go_wp2_with fail
  go_ret
  rw [HQ.out]
  exact ⟨Ab,cb,rfl,HB.out.imp (fun _ _ h=>.inl h),Ext.refl _⟩
 have t0:((a.length:Int) == 0)=false:=beq_eq_false_iff_ne.2 (by omega)
 have t1:(a.length == 0)=false:=beq_eq_false_iff_ne.2 h0
 have hmk:∀ W:World,(Instr.makeSlice 83 (.int .i64 0) (.int .i64 ((a.length:Int)+(b.length:Int)))).run Tryz.prog W=.ok (.slice (some ⟨W.heap.size,0,none⟩) 0 (a.length+b.length)) (W.alloc (.cells (madeCells (Value.agg #[.int .i64 0,.int .i64 0,.string ByteArray.empty,.slice none 0 0]).cells ((a.length+b.length)*4)) 85)):=by
  intro W
  have h:=run_make (P:=Tryz.prog) W 83 85 i0 _ Tryz.underlying83 hi hz0 .i64 .i64 0 ((a.length:Int)+(b.length:Int)) (Int.le_refl _) (by omega) (by rw [hz2];omega) (by omega)
  rw [hz1] at h
  rw [h]
  have e:((a.length:Int)+(b.length:Int)).toNat=a.length+b.length:=by omega
  rw [e]
  rfl
 clear hi h0
 go_enter Tryz.func217,Tryz.ntmps217
 go_wp2_with fail
 have HOW:=Lib.hid (World.ownsRow_made (base:=w.heap.size) (e:=85) (size:=4) w (madeCells #[.int .i64 0,.int .i64 0,.string ByteArray.empty,.slice none 0 0] ((a.length+b.length)*4)) (a.length+b.length) (Nat.le_refl _) (by unfold maxLen;omega) (size_madeCells _ _))
 have HE:=Lib.hid (show Ext w (w.alloc (.cells (madeCells #[.int .i64 0,.int .i64 0,.string ByteArray.empty,.slice none 0 0] ((a.length+b.length)*4)) 85)) from (Ext.refl w).alloc' _)
 generalize hW:w.alloc (.cells (madeCells #[.int .i64 0,.int .i64 0,.string ByteArray.empty,.slice none 0 0] ((a.length+b.length)*4)) 85)=W at *
 clear hW hmk
 go_loopw [0,1,5] (fun v0 v1 v5 wr=>MergeInv a b P w w.heap.size v0 v1 v5 wr) (fun v0 v1 _ _=>lenOf v0+lenOf v1)
 case atStart=>exact ⟨a,b,[],[],HA.out.ext HE.out,HB.out.ext HE.out,HOW.out,rfl,HE.out,by simp,rfl⟩
 case round =>
  obtain ⟨a',b',out,xs,hva,hvb,hown,hrv,hx,hle,hmv⟩:=hrel
  have HVA:=Lib.hid hva
  have HVB:=Lib.hid hvb
  have HOWN:=Lib.hid hown
  have HRV:=Lib.hid hrv
  have HX:=Lib.hid hx
  have HMV:=Lib.hid hmv
  obtain ⟨A0,c0,e0,h01,h02⟩:=hva.form
  obtain ⟨A1,c1,e1,h11,h12⟩:=hvb.form
  obtain ⟨A5,c5,e5,-,-,-⟩:=Sl.of_own hown
  subst e0 e1 e5
  have hsz:=hx.size
  clear hva hvb hown hrv hx hmv
  rcases a' with _ | ⟨x,xs'⟩
  ·skip
   have HM2:=Lib.hid (HMV.out.trans (by rw [mergeV_nil_left]))
   obtain ⟨s0,hs0,hr0⟩:=HVA.out.slice_parts
   obtain ⟨s1,hs1,hr1⟩:=HVB.out.slice_parts
   have HS0:=Lib.hid hs0
   have HR0:=Lib.hid hr0
   have HS1:=Lib.hid hs1
   have HR1:=Lib.hid hr1
   clear hs0 hr0 hs1 hr1
   simp only [List.length_nil] at hle h01 h02 h11 h12
   go_wp2_with (first
    | (at_builtin;refine wpList_append_new _ rfl (.tmp 52) (.tmp 53) 83 (by rfl) w.heap.size 85 i0 _ 4 56 Tryz.underlying83 HI.out hz0 hz1 hz2 rfl (by omega) (.slice A5 out.length c5) _ _ rfl HOWN.out P A0 [].length c0 s0 rfl HS0.out HR0.out.oneCell (by simp;omega) (by simp;omega) (by omega) ?_;intro v6 w6 ho6 hbl6)
    | (at_builtin;refine wpList_append_new _ rfl (.tmp 54) (.tmp 55) 83 (by rfl) w.heap.size 85 i0 _ 4 56 Tryz.underlying83 HI.out hz0 hz1 hz2 rfl (by omega) v6 _ _ rfl ho6 P A1 b'.length c1 s1 rfl (HS1.out.carry (by omega) (Keeps.of_below hbl6 HPP.out) (fun _ _ h=>h)) HR1.out.oneCell (by simp;omega) (by simp;omega) (by have:=hbl6.size;omega) ?_;intro v7 w7 ho7 hbl7))
   have hbw:Below w.heap.size wr w7:=hbl6.trans hbl7
   have hk:Keeps P wr w7:=Keeps.of_below hbw HPP.out
   have hrv7:=RVs.append (RVs.append (RVs.carry (Q:=P) hk (fun _ _ h=>h) HRV.out) (RVs.carry (Q:=P) hk (fun _ _ h=>h) HR0.out)) (RVs.carry (Q:=P) hk (fun _ _ h=>h) HR1.out)
   have hv7:Vals w7 (New P w.heap.size) v7 (out ++ [] ++ b'):=Vals.of_own (ho7.len_cast (by simp) rfl) (RVs.carry (fun _ _ _=>rfl) (fun _ _ h=>.inl h) hrv7) (by simp;omega) (fun b hb=>.inr (ho7.block_ge hb))
   obtain ⟨A7,c7,e7,-,-⟩:=hv7.form
   subst e7
   have HV7:=Lib.hid hv7
   have HX7:=Lib.hid (HX.out.trans hbw)
   clear hv7 hrv7 hk hbw ho6 ho7 hbl6 hbl7
   go_ret
   have e:mergeV a b=out ++ [] ++ b':=HM2.out.trans (by simp)
   rw [e]
   exact ⟨A7,c7,rfl,HV7.out,HX7.out⟩
  rcases b' with _ | ⟨y,ys'⟩
  ·skip
   have HM2:=Lib.hid (HMV.out.trans (by rw [mergeV_nil]))
   obtain ⟨s0,hs0,hr0⟩:=HVA.out.slice_parts
   obtain ⟨s1,hs1,hr1⟩:=HVB.out.slice_parts
   have HS0:=Lib.hid hs0
   have HR0:=Lib.hid hr0
   have HS1:=Lib.hid hs1
   have HR1:=Lib.hid hr1
   clear hs0 hr0 hs1 hr1
   simp only [List.length_nil,List.length_cons] at hle h01 h02 h11 h12
   go_wp2_with (first
    | (at_builtin;refine wpList_append_new _ rfl (.tmp 52) (.tmp 53) 83 (by rfl) w.heap.size 85 i0 _ 4 56 Tryz.underlying83 HI.out hz0 hz1 hz2 rfl (by omega) (.slice A5 out.length c5) _ _ rfl HOWN.out P A0 (x :: xs').length c0 s0 rfl HS0.out HR0.out.oneCell (by simp;omega) (by simp;omega) (by omega) ?_;intro v6 w6 ho6 hbl6)
    | (at_builtin;refine wpList_append_new _ rfl (.tmp 54) (.tmp 55) 83 (by rfl) w.heap.size 85 i0 _ 4 56 Tryz.underlying83 HI.out hz0 hz1 hz2 rfl (by omega) v6 _ _ rfl ho6 P A1 [].length c1 s1 rfl (HS1.out.carry (by omega) (Keeps.of_below hbl6 HPP.out) (fun _ _ h=>h)) HR1.out.oneCell (by simp;omega) (by simp;omega) (by have:=hbl6.size;omega) ?_;intro v7 w7 ho7 hbl7))
   have hbw:Below w.heap.size wr w7:=hbl6.trans hbl7
   have hk:Keeps P wr w7:=Keeps.of_below hbw HPP.out
   have hrv7:=RVs.append (RVs.append (RVs.carry (Q:=P) hk (fun _ _ h=>h) HRV.out) (RVs.carry (Q:=P) hk (fun _ _ h=>h) HR0.out)) (RVs.carry (Q:=P) hk (fun _ _ h=>h) HR1.out)
   have hv7:Vals w7 (New P w.heap.size) v7 (out ++ (x :: xs') ++ []):=Vals.of_own (ho7.len_cast (by simp) rfl) (RVs.carry (fun _ _ _=>rfl) (fun _ _ h=>.inl h) hrv7) (by simp;omega) (fun b hb=>.inr (ho7.block_ge hb))
   obtain ⟨A7,c7,e7,-,-⟩:=hv7.form
   subst e7
   have HV7:=Lib.hid hv7
   have HX7:=Lib.hid (HX.out.trans hbw)
   clear hv7 hrv7 hk hbw ho6 ho7 hbl6 hbl7
   go_ret
   have e:mergeV a b=out ++ (x :: xs') ++ []:=HM2.out.trans (by simp)
   rw [e]
   exact ⟨A7,c7,rfl,HV7.out,HX7.out⟩
  simp only [List.length_cons] at hle h01 h02 h11 h12
  obtain ⟨b0,o0,A2,d2,rfl,-,hvx,g00,g01,g02,g03⟩:=HVA.out.get (i:=0) (by simp)
  obtain ⟨b1,o1,A3,d3,rfl,-,hvy,g10,g11,g12,g13⟩:=HVB.out.get (i:=0) (by simp)
  simp only [Nat.zero_mul,Nat.add_zero,List.getD_cons_zero] at g00 g01 g02 g03 g10 g11 g12 g13 hvx hvy
  have HVX:=Lib.hid hvx
  have HVY:=Lib.hid hvy
  have HTA:=Lib.hid (Vals.tail HVA.out)
  have HTB:=Lib.hid (Vals.tail HVB.out)
  have HMC:=Lib.hid (HMV.out.trans (congrArg (out ++ ·) (mergeV_cons x y xs' ys')))
  clear hvx hvy
  have hl0:(0:Int)<(xs'.length:Int)+1:=by omega
  have hl1:(0:Int)<(ys'.length:Int)+1:=by omega
  go_wp2_with fail
  go_still_tail 6,(by kernel_rfl)
  go_wp2_with fail
  refine (valuesCompare_any x y A2 A3 d2 d3 P P _ (HVX.out.ext (Ext.refl _).drew') (HVY.out.ext (Ext.refl _).drew')).mono ?_
  rintro e w1 ⟨rfl,hx1⟩
  have HX1:=Lib.hid ((Ext.refl wr).drew'.trans' hx1)
  have hs1:=hx1.size
  have k00:=cell_ext HX1.out g00
  have k01:=cell_ext HX1.out g01
  have k02:=cell_ext HX1.out g02
  have k03:=cell_ext HX1.out g03
  have k10:=cell_ext HX1.out g10
  have k11:=cell_ext HX1.out g11
  have k12:=cell_ext HX1.out g12
  have k13:=cell_ext HX1.out g13
  have lb0:=lt_of_cell k00
  have lb1:=lt_of_cell k10
  clear hx1 g00 g01 g02 g03 g10 g11 g12 g13
  generalize cmpV x y=cv at *
  have HO1:=Lib.hid (HOWN.out.ext_ HX1.out)
  have HRV1:=Lib.hid (RVs.carry (Q:=P) (Keeps.of_ext HX1.out) (fun _ _ h=>h) HRV.out)
  have hsw:w.heap.size≤w1.heap.size:=by have:=HX1.out.size;omega
  by_cases hneg:cv<0
  ·have t1:decide (cv≤0)=true:=decide_eq_true (by omega)
   have t2:decide (0≤cv)=false:=decide_eq_false (by omega)
   have HM2:=Lib.hid (HMC.out.trans (by rw [if_pos hneg]))
   by_cases hc0:c0=1
   ·skip
    subst hc0
    obtain rfl:xs'=[]:=List.length_eq_zero_iff.1 (by omega)
    go_wp2_with (at_builtin;go_must (refine wpList_append_new _ rfl (.tmp 34) (.tmp 38) 83 (by rfl) w.heap.size 85 i0 _ 4 56 Tryz.underlying83 HI.out hz0 hz1 hz2 rfl (by omega) (.slice A5 out.length c5) _ _ rfl (HO1.out.alloc _) (fun _=>True) (some ⟨w1.heap.size,0,none⟩) 1 1 [.int .i64 x.kind,.int .i64 x.n,.string x.s,.slice A2 x.kids.length d2] rfl (Sl.new w1 _ _ _ _ rfl) (by simp [Value.oneCell']) (by omega) (by omega) (by simp;omega) ?_);intro v6 w6 ho6 hbl6)
    go_roundw
    case rel =>
     have hbw:Below w.heap.size wr w6:=((HX1.out.mono hsz).alloc hsw _).trans hbl6
     have hk:Keeps P wr w6:=Keeps.of_below hbw HPP.out
     refine ⟨[],(y :: ys'),out ++ [x],_,Vals.nil_any _ _ _ _ (by omega),HVB.out.carry hk (fun _ _ h=>h),ho6.len_cast (by simp) rfl,RVs.append (RVs.carry hk (fun _ _ h=>h) HRV.out) (RVs.one ((HVX.out.carry hk (fun _ _ h=>h)).rv)),HX.out.trans hbw,by simp;omega,by rw [HM2.out];simp⟩
    case measure=>simp [lenOf];try omega
   ·skip
    go_wp2_with (at_builtin;go_must (refine wpList_append_new _ rfl (.tmp 34) (.tmp 38) 83 (by rfl) w.heap.size 85 i0 _ 4 56 Tryz.underlying83 HI.out hz0 hz1 hz2 rfl (by omega) (.slice A5 out.length c5) _ _ rfl (HO1.out.alloc _) (fun _=>True) (some ⟨w1.heap.size,0,none⟩) 1 1 [.int .i64 x.kind,.int .i64 x.n,.string x.s,.slice A2 x.kids.length d2] rfl (Sl.new w1 _ _ _ _ rfl) (by simp [Value.oneCell']) (by omega) (by omega) (by simp;omega) ?_);intro v6 w6 ho6 hbl6)
    go_roundw
    case rel =>
     have hbw:Below w.heap.size wr w6:=((HX1.out.mono hsz).alloc hsw _).trans hbl6
     have hk:Keeps P wr w6:=Keeps.of_below hbw HPP.out
     refine ⟨xs',(y :: ys'),out ++ [x],_,HTA.out.carry hk (fun _ _ h=>h),HVB.out.carry hk (fun _ _ h=>h),ho6.len_cast (by simp) rfl,RVs.append (RVs.carry hk (fun _ _ h=>h) HRV.out) (RVs.one ((HVX.out.carry hk (fun _ _ h=>h)).rv)),HX.out.trans hbw,by simp;omega,by rw [HM2.out];simp⟩
    case measure=>simp [lenOf];try omega
  by_cases hzero:cv=0
  ·have t1:decide (cv≤0)=true:=decide_eq_true (by omega)
   have t2:decide (0≤cv)=true:=decide_eq_true (by omega)
   have HM2:=Lib.hid (HMC.out.trans (by rw [if_neg hneg,if_pos hzero]))
   clear hzero
   by_cases hc0:c0=1
   ·by_cases hc1:c1=1
    ·skip
     subst hc0
     obtain rfl:xs'=[]:=List.length_eq_zero_iff.1 (by omega)
     subst hc1
     obtain rfl:ys'=[]:=List.length_eq_zero_iff.1 (by omega)
     go_wp2_with (at_builtin;go_must (refine wpList_append_new _ rfl (.tmp 34) (.tmp 38) 83 (by rfl) w.heap.size 85 i0 _ 4 56 Tryz.underlying83 HI.out hz0 hz1 hz2 rfl (by omega) (.slice A5 out.length c5) _ _ rfl (HO1.out.alloc _) (fun _=>True) (some ⟨w1.heap.size,0,none⟩) 1 1 [.int .i64 x.kind,.int .i64 x.n,.string x.s,.slice A2 x.kids.length d2] rfl (Sl.new w1 _ _ _ _ rfl) (by simp [Value.oneCell']) (by omega) (by omega) (by simp;omega) ?_);intro v6 w6 ho6 hbl6)
     go_roundw
     case rel =>
      have hbw:Below w.heap.size wr w6:=((HX1.out.mono hsz).alloc hsw _).trans hbl6
      have hk:Keeps P wr w6:=Keeps.of_below hbw HPP.out
      refine ⟨[],[],out ++ [x],_,Vals.nil_any _ _ _ _ (by omega),Vals.nil_any _ _ _ _ (by omega),ho6.len_cast (by simp) rfl,RVs.append (RVs.carry hk (fun _ _ h=>h) HRV.out) (RVs.one ((HVX.out.carry hk (fun _ _ h=>h)).rv)),HX.out.trans hbw,by simp;omega,by rw [HM2.out];simp⟩
     case measure=>simp [lenOf];try omega
    ·skip
     subst hc0
     obtain rfl:xs'=[]:=List.length_eq_zero_iff.1 (by omega)
     go_wp2_with (at_builtin;go_must (refine wpList_append_new _ rfl (.tmp 34) (.tmp 38) 83 (by rfl) w.heap.size 85 i0 _ 4 56 Tryz.underlying83 HI.out hz0 hz1 hz2 rfl (by omega) (.slice A5 out.length c5) _ _ rfl (HO1.out.alloc _) (fun _=>True) (some ⟨w1.heap.size,0,none⟩) 1 1 [.int .i64 x.kind,.int .i64 x.n,.string x.s,.slice A2 x.kids.length d2] rfl (Sl.new w1 _ _ _ _ rfl) (by simp [Value.oneCell']) (by omega) (by omega) (by simp;omega) ?_);intro v6 w6 ho6 hbl6)
     go_roundw
     case rel =>
      have hbw:Below w.heap.size wr w6:=((HX1.out.mono hsz).alloc hsw _).trans hbl6
      have hk:Keeps P wr w6:=Keeps.of_below hbw HPP.out
      refine ⟨[],ys',out ++ [x],_,Vals.nil_any _ _ _ _ (by omega),HTB.out.carry hk (fun _ _ h=>h),ho6.len_cast (by simp) rfl,RVs.append (RVs.carry hk (fun _ _ h=>h) HRV.out) (RVs.one ((HVX.out.carry hk (fun _ _ h=>h)).rv)),HX.out.trans hbw,by simp;omega,by rw [HM2.out];simp⟩
     case measure=>simp [lenOf];try omega
   ·by_cases hc1:c1=1
    ·skip
     subst hc1
     obtain rfl:ys'=[]:=List.length_eq_zero_iff.1 (by omega)
     go_wp2_with (at_builtin;go_must (refine wpList_append_new _ rfl (.tmp 34) (.tmp 38) 83 (by rfl) w.heap.size 85 i0 _ 4 56 Tryz.underlying83 HI.out hz0 hz1 hz2 rfl (by omega) (.slice A5 out.length c5) _ _ rfl (HO1.out.alloc _) (fun _=>True) (some ⟨w1.heap.size,0,none⟩) 1 1 [.int .i64 x.kind,.int .i64 x.n,.string x.s,.slice A2 x.kids.length d2] rfl (Sl.new w1 _ _ _ _ rfl) (by simp [Value.oneCell']) (by omega) (by omega) (by simp;omega) ?_);intro v6 w6 ho6 hbl6)
     go_roundw
     case rel =>
      have hbw:Below w.heap.size wr w6:=((HX1.out.mono hsz).alloc hsw _).trans hbl6
      have hk:Keeps P wr w6:=Keeps.of_below hbw HPP.out
      refine ⟨xs',[],out ++ [x],_,HTA.out.carry hk (fun _ _ h=>h),Vals.nil_any _ _ _ _ (by omega),ho6.len_cast (by simp) rfl,RVs.append (RVs.carry hk (fun _ _ h=>h) HRV.out) (RVs.one ((HVX.out.carry hk (fun _ _ h=>h)).rv)),HX.out.trans hbw,by simp;omega,by rw [HM2.out];simp⟩
     case measure=>simp [lenOf];try omega
    ·skip
     go_wp2_with (at_builtin;go_must (refine wpList_append_new _ rfl (.tmp 34) (.tmp 38) 83 (by rfl) w.heap.size 85 i0 _ 4 56 Tryz.underlying83 HI.out hz0 hz1 hz2 rfl (by omega) (.slice A5 out.length c5) _ _ rfl (HO1.out.alloc _) (fun _=>True) (some ⟨w1.heap.size,0,none⟩) 1 1 [.int .i64 x.kind,.int .i64 x.n,.string x.s,.slice A2 x.kids.length d2] rfl (Sl.new w1 _ _ _ _ rfl) (by simp [Value.oneCell']) (by omega) (by omega) (by simp;omega) ?_);intro v6 w6 ho6 hbl6)
     go_roundw
     case rel =>
      have hbw:Below w.heap.size wr w6:=((HX1.out.mono hsz).alloc hsw _).trans hbl6
      have hk:Keeps P wr w6:=Keeps.of_below hbw HPP.out
      refine ⟨xs',ys',out ++ [x],_,HTA.out.carry hk (fun _ _ h=>h),HTB.out.carry hk (fun _ _ h=>h),ho6.len_cast (by simp) rfl,RVs.append (RVs.carry hk (fun _ _ h=>h) HRV.out) (RVs.one ((HVX.out.carry hk (fun _ _ h=>h)).rv)),HX.out.trans hbw,by simp;omega,by rw [HM2.out];simp⟩
     case measure=>simp [lenOf];try omega
  have t1:decide (cv≤0)=false:=decide_eq_false (by omega)
  have t2:decide (0≤cv)=true:=decide_eq_true (by omega)
  have HM2:=Lib.hid (HMC.out.trans (by rw [if_neg hneg,if_neg hzero]))
  clear hzero hneg
  by_cases hc1:c1=1
  ·skip
   subst hc1
   obtain rfl:ys'=[]:=List.length_eq_zero_iff.1 (by omega)
   go_wp2_with (at_builtin;go_must (refine wpList_append_new _ rfl (.tmp 42) (.tmp 46) 83 (by rfl) w.heap.size 85 i0 _ 4 56 Tryz.underlying83 HI.out hz0 hz1 hz2 rfl (by omega) (.slice A5 out.length c5) _ _ rfl (HO1.out.alloc _) (fun _=>True) (some ⟨w1.heap.size,0,none⟩) 1 1 [.int .i64 y.kind,.int .i64 y.n,.string y.s,.slice A3 y.kids.length d3] rfl (Sl.new w1 _ _ _ _ rfl) (by simp [Value.oneCell']) (by omega) (by omega) (by simp;omega) ?_);intro v6 w6 ho6 hbl6)
   go_roundw
   case rel =>
    have hbw:Below w.heap.size wr w6:=((HX1.out.mono hsz).alloc hsw _).trans hbl6
    have hk:Keeps P wr w6:=Keeps.of_below hbw HPP.out
    refine ⟨(x :: xs'),[],out ++ [y],_,HVA.out.carry hk (fun _ _ h=>h),Vals.nil_any _ _ _ _ (by omega),ho6.len_cast (by simp) rfl,RVs.append (RVs.carry hk (fun _ _ h=>h) HRV.out) (RVs.one ((HVY.out.carry hk (fun _ _ h=>h)).rv)),HX.out.trans hbw,by simp;omega,by rw [HM2.out];simp⟩
   case measure=>simp [lenOf];try omega
  ·skip
   go_wp2_with (at_builtin;go_must (refine wpList_append_new _ rfl (.tmp 42) (.tmp 46) 83 (by rfl) w.heap.size 85 i0 _ 4 56 Tryz.underlying83 HI.out hz0 hz1 hz2 rfl (by omega) (.slice A5 out.length c5) _ _ rfl (HO1.out.alloc _) (fun _=>True) (some ⟨w1.heap.size,0,none⟩) 1 1 [.int .i64 y.kind,.int .i64 y.n,.string y.s,.slice A3 y.kids.length d3] rfl (Sl.new w1 _ _ _ _ rfl) (by simp [Value.oneCell']) (by omega) (by omega) (by simp;omega) ?_);intro v6 w6 ho6 hbl6)
   go_roundw
   case rel =>
    have hbw:Below w.heap.size wr w6:=((HX1.out.mono hsz).alloc hsw _).trans hbl6
    have hk:Keeps P wr w6:=Keeps.of_below hbw HPP.out
    refine ⟨(x :: xs'),ys',out ++ [y],_,HVA.out.carry hk (fun _ _ h=>h),HTB.out.carry hk (fun _ _ h=>h),ho6.len_cast (by simp) rfl,RVs.append (RVs.carry hk (fun _ _ h=>h) HRV.out) (RVs.one ((HVY.out.carry hk (fun _ _ h=>h)).rv)),HX.out.trans hbw,by simp;omega,by rw [HM2.out];simp⟩
   case measure=>simp [lenOf];try omega
end Go.Proofs.YtkoeecdjijfjnaaGreat
