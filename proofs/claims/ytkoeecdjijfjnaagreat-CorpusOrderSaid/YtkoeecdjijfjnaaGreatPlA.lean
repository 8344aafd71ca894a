/- Plain laws: the order of values is total and strict. Conditions: none. -/
import Derived.Test.YtkoeecdjijfjnaaGreatA3
namespace Go.Proofs.YtkoeecdjijfjnaaGreat
open Go.RowKit
theorem cmpI_zero {a b:Int}(h:cmpI a b=0):a=b:=by unfold cmpI at h;split at h <;> (try split at h) <;> omega
theorem cmpI_neg {a b:Int}:cmpI a b<0 ↔ a<b:=by unfold cmpI;split <;> (try split) <;> omega
theorem cmpI_swap (a b:Int):cmpI b a=- cmpI a b:=by unfold cmpI;split <;> (try split) <;> (try split) <;> omega
theorem bytesLess_tri:∀ a b:List UInt8,Op.bytesLess a b=true∨a=b∨Op.bytesLess b a=true
 | [],[]=>.inr (.inl rfl)
 | [],_ :: _=>.inl rfl
 | _ :: _,[]=>.inr (.inr rfl)
 | x :: xs,y :: ys=>by
  simp only [Op.bytesLess,Bool.or_eq_true,decide_eq_true_eq,Bool.and_eq_true,beq_iff_eq]
  rcases Nat.lt_trichotomy x.toNat y.toNat with h | h | h
  ·exact .inl (.inl (UInt8.lt_iff_toNat_lt.2 h))
  ·have e:x=y:=UInt8.toNat_inj.1 h
   subst e
   rcases bytesLess_tri xs ys with h | h | h
   ·exact .inl (.inr ⟨rfl,h⟩)
   ·exact .inr (.inl (by rw [h]))
   ·exact .inr (.inr (.inr ⟨rfl,h⟩))
  ·exact .inr (.inr (.inl (UInt8.lt_iff_toNat_lt.2 h)))
theorem bytesLess_trans:∀ a b c:List UInt8,Op.bytesLess a b=true→Op.bytesLess b c=true→Op.bytesLess a c=true
 | _,_,[],_,h=>by simp [Op.bytesLess] at h
 | _,[],_ :: _,h,_=>by simp [Op.bytesLess] at h
 | [],_ :: _,_ :: _,_,_=>rfl
 | x :: xs,y :: ys,z :: zs,h,k=>by
  simp only [Op.bytesLess,Bool.or_eq_true,decide_eq_true_eq,Bool.and_eq_true,beq_iff_eq,UInt8.lt_iff_toNat_lt] at h k ⊢
  rcases h with h | ⟨rfl,h⟩
  ·rcases k with k | ⟨rfl,k⟩
   ·exact .inl (by omega)
   ·exact .inl h
  ·rcases k with k | ⟨rfl,k⟩
   ·exact .inl k
   ·exact .inr ⟨rfl,bytesLess_trans xs ys zs h k⟩
theorem bytes_ext {a b:ByteArray}(h:a.toList=b.toList):a=b:=by
 rw [ByteArray.toList_eq,ByteArray.toList_eq] at h
 exact ByteArray.ext (Array.ext' h)
theorem cmpS_zero {a b:ByteArray}(h:cmpS a b=0):a=b:=by
 unfold cmpS at h
 split at h
 ·omega
 ·split at h
  ·next h'=>exact bytes_ext h'
  ·omega
theorem cmpS_neg {a b:ByteArray}:cmpS a b<0 ↔ Op.bytesLess a.toList b.toList=true:=by
 unfold cmpS
 by_cases h:Op.bytesLess a.toList b.toList=true
 ·simp [h]
 ·rw [if_neg h]
  constructor
  ·intro k;split at k <;> omega
  ·intro k;exact absurd k h
theorem cmpS_swap (a b:ByteArray):cmpS b a=- cmpS a b:=by
 rcases bytesLess_tri a.toList b.toList with h | h | h
 ·have h1:¬ Op.bytesLess b.toList a.toList=true:=fun k=>by have:=bytesLess_trans _ _ _ h k;rw [bytesLess_irrefl] at this;cases this
  have h2:¬ b.toList=a.toList:=fun k=>by rw [k,bytesLess_irrefl] at h;cases h
  unfold cmpS
  rw [if_neg h1,if_neg h2,if_pos h]
  rfl
 ·rw [cmpS_eq h,cmpS_eq h.symm];rfl
 ·have h1:¬ Op.bytesLess a.toList b.toList=true:=fun k=>by have:=bytesLess_trans _ _ _ h k;rw [bytesLess_irrefl] at this;cases this
  have h2:¬ a.toList=b.toList:=fun k=>by rw [k,bytesLess_irrefl] at h;cases h
  unfold cmpS
  rw [if_pos h,if_neg h1,if_neg h2]
theorem cmpS_tr {a b c:ByteArray}(h:cmpS a b<0)(k:cmpS b c<0):cmpS a c<0:=cmpS_neg.2 (bytesLess_trans _ _ _ (cmpS_neg.1 h) (cmpS_neg.1 k))
theorem lex_neg {a b:Int}:(if a=0 then b else a)<0 ↔ a<0∨(a=0∧b<0):=by split <;> omega
theorem lex_swap {a b a' b':Int}(h:a'=- a)(k:b'=- b):(if a'=0 then b' else a')=- (if a=0 then b else a):=by subst h k;split <;> split <;> omega
theorem lex_zero {a b:Int}(h:(if a=0 then b else a)=0):a=0∧b=0:=by split at h <;> omega
mutual
theorem cmpV_swap:∀ x y:GV,cmpV y x=- cmpV x y
 | .mk k n s l,.mk k' n' s' l'=>by
  simp only [cmpV]
  exact lex_swap (cmpI_swap k k') (lex_swap (cmpI_swap n n') (lex_swap (cmpS_swap s s') (cmpVs_swap l l')))
theorem cmpVs_swap:∀ x y:List GV,cmpVs y x=- cmpVs x y
 | [],[]=>rfl
 | [],_ :: _=>by simp only [cmpVs];rfl
 | _ :: _,[]=>by simp only [cmpVs]
 | x :: xs,y :: ys=>by
  simp only [cmpVs]
  exact lex_swap (cmpV_swap x y) (cmpVs_swap xs ys)
end
mutual
theorem cmpV_zero:∀ x y:GV,cmpV x y=0→x=y
 | .mk k n s l,.mk k' n' s' l',h=>by
  simp only [cmpV] at h
  obtain ⟨h1,h⟩:=lex_zero h
  obtain ⟨h2,h⟩:=lex_zero h
  obtain ⟨h3,h⟩:=lex_zero h
  rw [cmpI_zero h1,cmpI_zero h2,cmpS_zero h3,cmpVs_zero l l' h]
theorem cmpVs_zero:∀ x y:List GV,cmpVs x y=0→x=y
 | [],[],_=>rfl
 | [],_ :: _,h=>by simp only [cmpVs] at h;omega
 | _ :: _,[],h=>by simp only [cmpVs] at h;omega
 | x :: xs,y :: ys,h=>by
  simp only [cmpVs] at h
  obtain ⟨h1,h2⟩:=lex_zero h
  rw [cmpV_zero x y h1,cmpVs_zero xs ys h2]
end
theorem cmpV_self (x:GV):cmpV x x=0:=by have:=cmpV_swap x x;omega
theorem cmpVs_self (x:List GV):cmpVs x x=0:=by have:=cmpVs_swap x x;omega
mutual
theorem cmpV_tr:∀ x y z:GV,cmpV x y<0→cmpV y z<0→cmpV x z<0
 | .mk k n s l,.mk k' n' s' l',.mk k'' n'' s'' l'',h,h'=>by
  simp only [cmpV] at h h' ⊢
  rw [lex_neg] at h h' ⊢
  rcases h with h | ⟨e,h⟩
  ·rcases h' with h' | ⟨e',h'⟩
   ·rw [cmpI_neg] at h h' ⊢;exact .inl (by omega)
   ·rw [← cmpI_zero e'];exact .inl h
  ·rw [cmpI_zero e]
   rcases h' with h' | ⟨e',h'⟩
   ·exact .inl h'
   ·refine .inr ⟨e',?_⟩
    rw [lex_neg] at h h' ⊢
    rcases h with h | ⟨e,h⟩
    ·rcases h' with h' | ⟨e',h'⟩
     ·rw [cmpI_neg] at h h' ⊢;exact .inl (by omega)
     ·rw [← cmpI_zero e'];exact .inl h
    ·rw [cmpI_zero e]
     rcases h' with h' | ⟨e',h'⟩
     ·exact .inl h'
     ·refine .inr ⟨e',?_⟩
      rw [lex_neg] at h h' ⊢
      rcases h with h | ⟨e,h⟩
      ·rcases h' with h' | ⟨e',h'⟩
       ·exact .inl (cmpS_tr h h')
       ·rw [← cmpS_zero e'];exact .inl h
      ·rw [cmpS_zero e]
       rcases h' with h' | ⟨e',h'⟩
       ·exact .inl h'
       ·exact .inr ⟨e',cmpVs_tr l l' l'' h h'⟩
theorem cmpVs_tr:∀ x y z:List GV,cmpVs x y<0→cmpVs y z<0→cmpVs x z<0
 | _,_,[],_,h=>by
  rename_i y _
  cases y <;> simp [cmpVs] at h
 | _,[],_ :: _,h,_=>by
  rename_i x _ _ _
  cases x <;> simp [cmpVs] at h
 | [],_ :: _,_ :: _,_,_=>by simp [cmpVs]
 | x :: xs,y :: ys,z :: zs,h,h'=>by
  simp only [cmpVs] at h h' ⊢
  rw [lex_neg] at h h' ⊢
  rcases h with h | ⟨e,h⟩
  ·rcases h' with h' | ⟨e',h'⟩
   ·exact .inl (cmpV_tr x y z h h')
   ·rw [← cmpV_zero y z e'];exact .inl h
  ·rw [cmpV_zero x y e]
   rcases h' with h' | ⟨e',h'⟩
   ·exact .inl h'
   ·exact .inr ⟨e',cmpVs_tr xs ys zs h h'⟩
end
def ltV (x y:GV):Prop:=cmpV x y<0
theorem ltV.tr {x y z:GV}(h:ltV x y)(k:ltV y z):ltV x z:=cmpV_tr x y z h k
theorem ltV.irr {x:GV}(h:ltV x x):False:=by unfold ltV at h;rw [cmpV_self] at h;omega
abbrev Inc (l:List GV):Prop:=l.Pairwise ltV
theorem Inc.ext:∀ {a b:List GV},Inc a→Inc b→(∀ x,x ∈ a ↔ x ∈ b)→a=b
 | [],[],_,_,_=>rfl
 | [],y :: ys,_,_,h=>by have:=(h y).2 (by simp);simp at this
 | x :: xs,[],_,_,h=>by have:=(h x).1 (by simp);simp at this
 | x :: xs,y :: ys,ha,hb,h=>by
  have ha':=List.pairwise_cons.1 ha
  have hb':=List.pairwise_cons.1 hb
  have e:x=y:=by
   rcases List.mem_cons.1 ((h x).1 (by simp)) with e | hx
   ·exact e
   ·rcases List.mem_cons.1 ((h y).2 (by simp)) with e | hy
    ·exact e.symm
    ·exact absurd ((ha'.1 y hy).tr (hb'.1 x hx)) (fun k=>k.irr)
  subst e
  congr 1
  refine Inc.ext ha'.2 hb'.2 (fun z=>?_)
  have hz:=h z
  simp only [List.mem_cons] at hz
  constructor
  ·intro hm
   rcases hz.1 (.inr hm) with rfl | k
   ·exact absurd (ha'.1 _ hm) (fun k=>k.irr)
   ·exact k
  ·intro hm
   rcases hz.2 (.inr hm) with rfl | k
   ·exact absurd (hb'.1 _ hm) (fun k=>k.irr)
   ·exact k
end Go.Proofs.YtkoeecdjijfjnaaGreat
