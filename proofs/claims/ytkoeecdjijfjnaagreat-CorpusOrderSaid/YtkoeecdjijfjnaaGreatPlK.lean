/- Plain laws: the entries of a corpus. Conditions: none. Before it: Plain laws: the order of paths, and what a corpus keeps. Conditions: none. -/
import Derived.Test.YtkoeecdjijfjnaaGreatPlA
namespace Go.Proofs.YtkoeecdjijfjnaaGreat
theorem cmpL_swap:∀ x y:List Int,cmpL y x=- cmpL x y
 | [],[]=>rfl
 | [],_ :: _=>by simp only [cmpL];rfl
 | _ :: _,[]=>by simp only [cmpL]
 | x :: xs,y :: ys=>by
  simp only [cmpL]
  exact lex_swap (cmpI_swap x y) (cmpL_swap xs ys)
theorem cmpL_zero:∀ x y:List Int,cmpL x y=0→x=y
 | [],[],_=>rfl
 | [],_ :: _,h=>by simp only [cmpL] at h;omega
 | _ :: _,[],h=>by simp only [cmpL] at h;omega
 | x :: xs,y :: ys,h=>by
  simp only [cmpL] at h
  obtain ⟨h1,h2⟩:=lex_zero h
  rw [cmpI_zero h1,cmpL_zero xs ys h2]
theorem cmpL_tr:∀ x y z:List Int,cmpL x y<0→cmpL y z<0→cmpL x z<0
 | [],[],_,h,_=>by simp only [cmpL] at h;omega
 | [],_ :: _,[],_,h=>by simp only [cmpL] at h;omega
 | [],_ :: _,_ :: _,_,_=>by simp only [cmpL];omega
 | _ :: _,[],_,h,_=>by simp only [cmpL] at h;omega
 | _ :: _,_ :: _,[],_,h=>by simp only [cmpL] at h;omega
 | x :: xs,y :: ys,z :: zs,h,k=>by
  simp only [cmpL] at h k ⊢
  rw [lex_neg] at h k ⊢
  rcases h with h | ⟨e,h⟩ <;> rcases k with k | ⟨e',k⟩
  ·exact .inl (cmpI_neg.2 (by have:=cmpI_neg.1 h;have:=cmpI_neg.1 k;omega))
  ·exact .inl (by rw [← cmpI_zero e'];exact h)
  ·exact .inl (by rw [cmpI_zero e];exact k)
  ·exact .inr ⟨by rw [cmpI_zero e];exact e',cmpL_tr xs ys zs h k⟩
theorem cmpP_swap (x y:List Int):cmpP y x=- cmpP x y:=lex_swap (cmpI_swap _ _) (cmpL_swap x y)
theorem cmpP_zero {x y:List Int}(h:cmpP x y=0):x=y:=cmpL_zero x y (lex_zero h).2
theorem cmpP_tr {x y z:List Int}(h:cmpP x y<0)(k:cmpP y z<0):cmpP x z<0:=by
 unfold cmpP at h k ⊢
 rw [lex_neg] at h k ⊢
 rcases h with h | ⟨e,h⟩ <;> rcases k with k | ⟨e',k⟩
 ·exact .inl (cmpI_neg.2 (by have:=cmpI_neg.1 h;have:=cmpI_neg.1 k;omega))
 ·exact .inl (by rw [← cmpI_zero e'];exact h)
 ·exact .inl (by rw [cmpI_zero e];exact k)
 ·exact .inr ⟨by rw [cmpI_zero e];exact e',cmpL_tr x y z h k⟩
theorem cmpP_self (x:List Int):cmpP x x=0:=by have:=cmpP_swap x x;omega
theorem cmpP_len {x y:List Int}(h:cmpP x y<0):x.length≤y.length:=by
 unfold cmpP at h
 rw [lex_neg] at h
 rcases h with h | ⟨h,_⟩
 ·have:=cmpI_neg.1 h;omega
 ·have:=cmpI_zero h;omega
def ltP (x y:List Int):Prop:=cmpP x y<0
theorem ltP.tr {x y z:List Int}(h:ltP x y)(k:ltP y z):ltP x z:=cmpP_tr h k
theorem ltP.irr {x:List Int}(h:ltP x x):False:=by unfold ltP at h;rw [cmpP_self] at h;omega
theorem ltP_tri (x y:List Int):ltP x y∨x=y∨ltP y x:=by
 unfold ltP
 have:=cmpP_swap x y
 rcases Int.lt_trichotomy (cmpP x y) 0 with h | h | h
 ·exact .inl h
 ·exact .inr (.inl (cmpP_zero h))
 ·exact .inr (.inr (by omega))
abbrev IncP (l:List (List Int)):Prop:=l.Pairwise ltP
theorem IncP.ext:∀ {a b:List (List Int)},IncP a→IncP b→(∀ x,x ∈ a ↔ x ∈ b)→a=b
 | [],[],_,_,_=>rfl
 | [],y :: ys,_,_,h=>by have:=(h y).2 (by simp);simp at this
 | x :: xs,[],_,_,h=>by have:=(h x).1 (by simp);simp at this
 | x :: xs,y :: ys,ha,hb,h=>by
  have ha':=List.pairwise_cons.1 ha
  have hb':=List.pairwise_cons.1 hb
  have e:x=y:=by
   rcases List.mem_cons.1 ((h x).1 (by simp)) with e | hx
   ·exact e
   ·rcases List.mem_cons.1 ((h y).2 (by simp)) with e | hy
    ·exact e.symm
    ·exact absurd ((ha'.1 y hy).tr (hb'.1 x hx)) (fun k=>k.irr)
  subst e
  congr 1
  refine IncP.ext ha'.2 hb'.2 (fun z=>?_)
  have hz:=h z
  simp only [List.mem_cons] at hz
  constructor
  ·intro hm
   rcases hz.1 (.inr hm) with rfl | k
   ·exact absurd (ha'.1 _ hm) (fun k=>k.irr)
   ·exact k
  ·intro hm
   rcases hz.2 (.inr hm) with rfl | k
   ·exact absurd (hb'.1 _ hm) (fun k=>k.irr)
   ·exact k
def insS (x:List Int):List (List Int)→List (List Int)
 | []=>[x]
 | y :: ys=>if cmpP y x<0 then y :: insS x ys else if cmpP y x=0 then y :: ys else x :: y :: ys
theorem insS_mem (x:List Int):∀ (l:List (List Int))(z:List Int),z ∈ insS x l ↔ z=x∨z ∈ l
 | [],z=>by simp [insS]
 | y :: ys,z=>by
  simp only [insS]
  split
  ·simp only [List.mem_cons,insS_mem x ys z]
   constructor
   ·rintro (h | h | h) <;> simp [h]
   ·rintro (h | h | h) <;> simp [h]
  ·split
   ·next h=>rw [cmpP_zero h];simp
   ·simp
theorem insS_inc (x:List Int):∀ {l:List (List Int)},IncP l→IncP (insS x l)
 | [],_=>by simp [insS]
 | y :: ys,h=>by
  have h':=List.pairwise_cons.1 h
  simp only [insS]
  split
  ·next hlt =>
   refine List.pairwise_cons.2 ⟨fun z hz=>?_,insS_inc x h'.2⟩
   rcases (insS_mem x ys z).1 hz with rfl | hz
   ·exact hlt
   ·exact h'.1 z hz
  ·split
   ·exact h
   ·next h1 h2 =>
    have hxy:ltP x y:=by
     rcases ltP_tri x y with k | k | k
     ·exact k
     ·exact absurd (by rw [k];exact cmpP_self y) h2
     ·exact absurd k h1
    refine List.pairwise_cons.2 ⟨fun z hz=>?_,h⟩
    rcases List.mem_cons.1 hz with rfl | hz
    ·exact hxy
    ·exact hxy.tr (h'.1 z hz)
def fitP:Int→List (List Int)→List (List Int)
 | _,[]=>[]
 | b,y :: ys=>if 2+(y.length:Int)≤b then y :: fitP (b - (2+(y.length:Int))) ys else []
def sumP:List (List Int)→Int
 | []=>0
 | y :: ys=>2+(y.length:Int)+sumP ys
theorem sumP_nonneg:∀ l,0≤sumP l
 | []=>by simp [sumP]
 | y :: ys=>by have:=sumP_nonneg ys;simp only [sumP];omega
theorem fitP_sum:∀ (b:Int)(l:List (List Int)),0≤b→sumP (fitP b l)≤b
 | b,[],h=>by simp [fitP,sumP,h]
 | b,y :: ys,h=>by
  simp only [fitP]
  split
  ·have:=fitP_sum (b - (2+(y.length:Int))) ys (by omega)
   simp only [sumP];omega
  ·simp [sumP,h]
theorem fitP_all:∀ (b:Int)(l:List (List Int)),sumP l≤b→fitP b l=l
 | b,[],_=>by simp [fitP]
 | b,y :: ys,h=>by
  simp only [sumP] at h
  have:=sumP_nonneg ys
  simp only [fitP]
  rw [if_pos (by omega),fitP_all _ ys (by omega)]
theorem fitP_fitP (b:Int)(h:0≤b)(l:List (List Int)):fitP b (fitP b l)=fitP b l:=fitP_all _ _ (fitP_sum b l h)
theorem fitP_mem:∀ (b:Int)(l:List (List Int))(x:List Int),x ∈ fitP b l→x ∈ l
 | _,[],_,h=>by simp [fitP] at h
 | b,y :: ys,x,h=>by
  simp only [fitP] at h
  split at h
  ·rcases List.mem_cons.1 h with rfl | h
   ·simp
   ·exact List.mem_cons_of_mem _ (fitP_mem _ ys x h)
  ·simp at h
theorem fitP_inc:∀ (b:Int){l:List (List Int)},IncP l→IncP (fitP b l)
 | _,[],_=>by simp [fitP]
 | b,y :: ys,h=>by
  have h':=List.pairwise_cons.1 h
  simp only [fitP]
  split
  ·exact List.pairwise_cons.2 ⟨fun z hz=>h'.1 z (fitP_mem _ _ _ hz),fitP_inc _ h'.2⟩
  ·simp
theorem fitP_ins (x:List Int):∀ (b:Int)(l:List (List Int)),IncP l→fitP b (insS x (fitP b l))=fitP b (insS x l)
 | b,[],_=>by simp [fitP]
 | b,y :: ys,h=>by
  have h':=List.pairwise_cons.1 h
  by_cases hy:2+(y.length:Int)≤b
  ·have ih:=fitP_ins x (b - (2+(y.length:Int))) ys h'.2
   have e:fitP b (y :: ys)=y :: fitP (b - (2+(y.length:Int))) ys:=by simp only [fitP];rw [if_pos hy]
   rw [e]
   simp only [insS]
   by_cases h1:cmpP y x<0
   ·rw [if_pos h1,if_pos h1]
    simp only [fitP]
    rw [if_pos hy,if_pos hy,ih]
   ·rw [if_neg h1,if_neg h1]
    by_cases h2:cmpP y x=0
    ·rw [if_pos h2,if_pos h2]
     simp only [fitP]
     rw [if_pos hy,if_pos hy,fitP_fitP _ (by omega)]
    ·rw [if_neg h2,if_neg h2]
     simp only [fitP]
     split
     ·congr 1
      split
      ·congr 1
       have hsub:∀ (c d:Int) (l:List (List Int)),c≤d→fitP c (fitP d l)=fitP c l:=by
        intro c d l
        induction l generalizing c d with
        | nil=>intro _;simp [fitP]
        | cons u us ih =>
         intro hcd
         simp only [fitP]
         by_cases hu:2+(u.length:Int)≤c
         ·rw [if_pos (by omega:2+(u.length:Int)≤d),if_pos hu]
          simp only [fitP]
          rw [if_pos hu,ih _ _ (by omega)]
         ·rw [if_neg hu]
          split
          ·simp only [fitP];rw [if_neg hu]
          ·simp [fitP]
       exact hsub _ _ _ (by omega)
      ·rfl
     ·rfl
  ·have e:fitP b (y :: ys)=[]:=by simp only [fitP];rw [if_neg hy]
   rw [e]
   simp only [insS]
   by_cases h1:cmpP y x<0
   ·have:=cmpP_len h1
    rw [if_pos h1]
    simp only [fitP]
    rw [if_neg hy,if_neg (by omega)]
   ·rw [if_neg h1]
    by_cases h2:cmpP y x=0
    ·have:=cmpP_zero h2
     subst this
     rw [if_pos h2]
     simp only [fitP]
     rw [if_neg hy,if_neg hy]
    ·rw [if_neg h2]
     simp only [fitP]
     split
     ·rw [if_neg (by omega)]
     ·rfl
def allS (ok:List Int→Bool):List (List Int)→List (List Int)→List (List Int)
 | Q,[]=>Q
 | Q,x :: xs=>allS ok (if ok x then insS x Q else Q) xs
theorem allS_inc (ok:List Int→Bool):∀ (l Q:List (List Int)),IncP Q→IncP (allS ok Q l)
 | [],_,h=>h
 | x :: xs,Q,h=>by
  simp only [allS]
  refine allS_inc ok xs _ ?_
  split
  ·exact insS_inc x h
  ·exact h
theorem allS_mem (ok:List Int→Bool):∀ (l Q:List (List Int))(z:List Int),z ∈ allS ok Q l ↔ z ∈ Q∨(z ∈ l∧ok z=true)
 | [],Q,z=>by simp [allS]
 | x :: xs,Q,z=>by
  simp only [allS]
  rw [allS_mem ok xs]
  by_cases hx:ok x=true
  ·rw [if_pos hx,insS_mem]
   simp only [List.mem_cons]
   constructor
   ·rintro ((h | h) | h)
    ·subst h;exact .inr ⟨.inl rfl,hx⟩
    ·exact .inl h
    ·exact .inr ⟨.inr h.1,h.2⟩
   ·rintro (h | ⟨h | h,k⟩)
    ·exact .inl (.inr h)
    ·exact .inl (.inl h)
    ·exact .inr ⟨h,k⟩
  ·rw [if_neg hx]
   simp only [List.mem_cons]
   constructor
   ·rintro (h | h)
    ·exact .inl h
    ·exact .inr ⟨.inr h.1,h.2⟩
   ·rintro (h | ⟨h | h,k⟩)
    ·exact .inl h
    ·subst h;exact absurd k hx
    ·exact .inr ⟨h,k⟩
theorem allS_perm (ok:List Int→Bool){a b:List (List Int)}(h:∀ x,x ∈ a ↔ x ∈ b):allS ok [] a=allS ok [] b :=
 IncP.ext (allS_inc ok a [] .nil) (allS_inc ok b [] .nil) (fun x=>by rw [allS_mem,allS_mem,h x])
end Go.Proofs.YtkoeecdjijfjnaaGreat
namespace Go.Proofs.YtkoeecdjijfjnaaGreat
open Go.RowKit
structure GE where
 path:List Int
 kind:Int
 at_:Int
 code:Int
 fresh:Bool
 hits:Int
instance:Inhabited GE:=⟨⟨[],0,0,0,false,0⟩⟩
def wE (e:GE):Int:=2+(e.path.length:Int)
def bytesE:List GE→Int
 | []=>0
 | e :: es=>wE e+bytesE es
def findE (p:List Int):List GE→Nat
 | []=>0
 | e :: es=>if cmpP e.path p<0 then findE p es+1 else 0
def hasE (p:List Int)(L:List GE):Bool:=decide (findE p L<L.length) && decide (cmpP (L.getD (findE p L) default).path p=0)
def touched (e x:GE):GE:={ e with hits:=wrap64 (e.hits+x.hits),fresh:=e.fresh || x.fresh }
def joinE (L:List GE)(x:GE):List GE :=
 if hasE x.path L then L.set (findE x.path L) (touched (L.getD (findE x.path L) default) x) else L.take (findE x.path L) ++ x :: L.drop (findE x.path L)
def cutFrom:Nat→Nat→List GE→Nat
 | _,k,[]=>k
 | i,k,e :: es=>cutFrom (i+1) (if e.fresh then k else i) es
def cutAt (L:List GE):Nat:=cutFrom 0 (L.length - 1) L
def cutF (b:Int):Nat→List GE→List GE
 | 0,L=>L
 | n+1,L=>if b<bytesE L∨256<L.length then cutF b n (L.eraseIdx (cutAt L)) else L
def cutE (b:Int)(L:List GE):List GE:=cutF b L.length L
def addE (ok:List Int→Bool)(b:Int)(L:List GE)(x:GE):List GE :=
 if ok x.path then (if hasE x.path L then joinE L x else cutE b (joinE L x)) else L
def addB (ok:List Int→Bool)(b:Int)(L:List GE)(x:GE):Bool :=
 if ok x.path then (if hasE x.path L then false else hasE x.path (cutE b (joinE L x))) else false
def addI (ok:List Int→Bool)(x:GE):Int:=if ok x.path then 0 else 11
def joinS:List GE→GE→List GE
 | [],x=>[x]
 | e :: es,x=>if cmpP e.path x.path<0 then e :: joinS es x else if cmpP e.path x.path=0 then touched e x :: es else x :: e :: es
theorem findE_le (p:List Int):∀ L,findE p L≤L.length
 | []=>by simp [findE]
 | e :: es=>by have:=findE_le p es;simp only [findE];split <;> simp <;> omega
theorem findE_lt {p:List Int}{e:GE}{es:List GE}(h:cmpP e.path p<0):findE p (e :: es)=findE p es+1:=by simp only [findE];rw [if_pos h]
theorem findE_ge {p:List Int}{e:GE}{es:List GE}(h:¬ cmpP e.path p<0):findE p (e :: es)=0:=by simp only [findE];rw [if_neg h]
theorem joinE_eq:∀ (L:List GE)(x:GE),joinE L x=joinS L x
 | [],x=>by simp [joinE,joinS,hasE,findE]
 | e :: es,x=>by
  have ih:=joinE_eq es x
  simp only [joinS]
  unfold joinE hasE at ih ⊢
  by_cases h1:cmpP e.path x.path<0
  ·have hf:=findE_lt (es:=es) h1
   generalize findE x.path (e :: es)=k at *
   subst hf
   rw [if_pos h1,← ih]
   simp only [List.length_cons,List.getD_cons_succ,List.set_cons_succ,List.take_succ_cons,List.drop_succ_cons,Nat.add_lt_add_iff_right]
   split <;> simp
  ·have hf:=findE_ge (es:=es) h1
   generalize findE x.path (e :: es)=k at *
   subst hf
   rw [if_neg h1]
   by_cases h2:cmpP e.path x.path=0
   ·rw [if_pos h2]
    simp [h2]
   ·rw [if_neg h2]
    simp [h2]
theorem joinS_paths:∀ (L:List GE)(x:GE),(joinS L x).map GE.path=insS x.path (L.map GE.path)
 | [],x=>rfl
 | e :: es,x=>by
  simp only [joinS,List.map_cons,insS]
  split
  ·simp [joinS_paths es x]
  ·split
   ·rfl
   ·rfl
theorem join_paths (L:List GE)(x:GE):(joinE L x).map GE.path=insS x.path (L.map GE.path):=by rw [joinE_eq,joinS_paths]
abbrev IncE (L:List GE):Prop:=IncP (L.map GE.path)
theorem IncE.join {L:List GE}(h:IncE L)(x:GE):IncE (joinE L x):=by unfold IncE;rw [join_paths];exact insS_inc _ h
theorem findE_pre (p:List Int):∀ (L:List GE)(k:Nat),k<findE p L→cmpP (L.getD k default).path p<0
 | [],k,h=>by simp [findE] at h
 | e :: es,k,h=>by
  simp only [findE] at h
  split at h
  ·next hlt =>
   cases k with
   | zero=>exact hlt
   | succ k=>exact findE_pre p es k (by omega)
  ·omega
theorem findE_post {p:List Int}:∀ {L:List GE},IncE L→∀ (k:Nat),findE p L≤k→k<L.length→¬ cmpP (L.getD k default).path p<0
 | [],_,k,_,h=>by simp at h
 | e :: es,hi,k,h1,h2=>by
  have hi':=List.pairwise_cons.1 hi
  simp only [findE] at h1
  split at h1
  ·cases k with
   | zero=>omega
   | succ k=>exact findE_post hi'.2 k (by omega) (by simpa using h2)
  ·next hn =>
   cases k with
   | zero=>exact hn
   | succ k =>
    intro hk
    apply hn
    have hk2:k<es.length:=by simpa using h2
    have hm:es.getD k default ∈ es:=by
     have h3:es.getD k default=es[k]:=by simp [hk2]
     rw [h3];exact List.getElem_mem hk2
    exact cmpP_tr (hi'.1 _ (List.mem_map.2 ⟨es.getD k default,hm,rfl⟩)) hk
theorem findE_uniq {p:List Int}{L:List GE}(hi:IncE L){k:Nat}(hk:k≤L.length)(h1:∀ j,j<k→cmpP (L.getD j default).path p<0)(h2:∀ j,k≤j→j<L.length→¬ cmpP (L.getD j default).path p<0):k=findE p L:=by
 rcases Nat.lt_trichotomy k (findE p L) with h | h | h
 ·have:=findE_le p L
  exact absurd (findE_pre p L k h) (h2 k (Nat.le_refl _) (by omega))
 ·exact h
 ·exact absurd (h1 _ h) (findE_post hi _ (Nat.le_refl _) (by omega))
theorem inc_lt {L:List GE}(hi:IncE L){i j:Nat}(hij:i<j)(hj:j<L.length):cmpP (L.getD i default).path (L.getD j default).path<0:=by
 have:=List.pairwise_iff_getElem.1 hi i j (by simp;omega) (by simpa using hj) hij
 have h1:L.getD i default=L[i]:=by simp [show i<L.length by omega]
 have h2:L.getD j default=L[j]:=by simp [hj]
 rw [h1,h2]
 simpa [ltP] using this
theorem inc_mono {L:List GE}(hi:IncE L)(p:List Int){i j:Nat}(hij:i≤j)(hj:j<L.length)(h:cmpP (L.getD j default).path p<0):cmpP (L.getD i default).path p<0:=by
 rcases Nat.eq_or_lt_of_le hij with rfl | hij
 ·exact h
 ·exact cmpP_tr (inc_lt hi hij hj) h
theorem hasE_mem {p:List Int}{L:List GE}(h:hasE p L=true):p ∈ L.map GE.path:=by
 unfold hasE at h
 simp only [Bool.and_eq_true,decide_eq_true_eq] at h
 refine List.mem_map.2 ⟨L.getD (findE p L) default,?_,cmpP_zero h.2⟩
 have:L.getD (findE p L) default=L[findE p L]:=by simp [h.1]
 rw [this];exact List.getElem_mem _
theorem bytesE_eq:∀ L:List GE,bytesE L=sumP (L.map GE.path)
 | []=>rfl
 | e :: es=>by simp only [bytesE,List.map_cons,sumP,wE,bytesE_eq es]
theorem cutFrom_lt:∀ (L:List GE)(i k n:Nat),k<n→i+L.length≤n→cutFrom i k L<n
 | [],i,k,n,h,_=>by simp only [cutFrom];exact h
 | e :: es,i,k,n,h,h2=>by
  simp only [List.length_cons] at h2
  simp only [cutFrom]
  refine cutFrom_lt es (i+1) _ n ?_ (by omega)
  split <;> omega
theorem cutAt_lt {L:List GE}(h:0<L.length):cutAt L<L.length:=cutFrom_lt L 0 _ _ (by omega) (by omega)
def AllF (f:Bool)(L:List GE):Prop:=∀ e ∈ L,e.fresh=f
theorem cutFrom_true:∀ (L:List GE)(i k:Nat),AllF true L→cutFrom i k L=k
 | [],_,_,_=>rfl
 | e :: es,i,k,h=>by
  simp only [cutFrom,h e (by simp),if_true]
  exact cutFrom_true es _ _ (fun x hx=>h x (by simp [hx]))
theorem cutFrom_false:∀ (L:List GE)(i k:Nat),AllF false L→L ≠ []→cutFrom i k L=i+(L.length - 1)
 | [],_,_,_,h=>absurd rfl h
 | [e],i,k,h,_=>by simp [cutFrom,h e (by simp)]
 | e :: e' :: es,i,k,h,_=>by
  have ih:=cutFrom_false (e' :: es) (i+1) (if e.fresh then k else i) (fun x hx=>h x (by simp only [List.mem_cons] at hx ⊢;exact .inr hx)) (by simp)
  simp only [cutFrom] at ih ⊢
  rw [ih]
  simp
  omega
theorem cutAt_all {f:Bool}{L:List GE}(h:AllF f L)(hne:L ≠ []):cutAt L=L.length - 1:=by
 unfold cutAt
 cases f
 ·rw [cutFrom_false L _ _ h hne];omega
 ·exact cutFrom_true L _ _ h
theorem eraseLast {α:Type}:∀ (L:List α),L.eraseIdx (L.length - 1)=L.dropLast
 | []=>rfl
 | [_]=>rfl
 | x :: y :: ys=>by
  have ih:=eraseLast (y :: ys)
  simp only [List.length_cons,Nat.add_sub_cancel,List.eraseIdx_cons_succ,List.dropLast_cons_cons] at ih ⊢
  rw [ih]
theorem fitP_drop:∀ (Q:List (List Int))(b:Int),b<sumP Q→fitP b Q=fitP b Q.dropLast
 | [],b,_=>rfl
 | [y],b,h=>by
  simp only [sumP] at h
  simp only [fitP,List.dropLast_singleton]
  rw [if_neg (by omega)]
 | y :: z :: zs,b,h=>by
  have ih:=fitP_drop (z :: zs) (b - (2+(y.length:Int))) (by simp only [sumP] at h ⊢;omega)
  rw [List.dropLast_cons_cons]
  simp only [fitP] at ih ⊢
  rw [ih]
theorem cutF_paths {f:Bool}{b:Int}(hb:0≤b):∀ (n:Nat)(L:List GE),L.length≤n→L.length≤256→AllF f L→(cutF b n L).map GE.path=fitP b (L.map GE.path)∧AllF f (cutF b n L)∧(cutF b n L).length≤L.length
 | 0,L,h,_,ha=>by
  have:L=[]:=List.eq_nil_of_length_eq_zero (by omega)
  subst this
  exact ⟨rfl,ha,Nat.le_refl _⟩
 | n+1,L,h,h2,ha=>by
  simp only [cutF]
  split
  ·next hc =>
   have hbl:b<bytesE L:=by rcases hc with hc | hc <;> omega
   have hne:L ≠ []:=by rintro rfl;simp [bytesE] at hbl;omega
   have hpos:0<L.length:=List.length_pos_iff.2 hne
   rw [cutAt_all ha hne,eraseLast]
   obtain ⟨i1,i2,i3⟩:=cutF_paths hb n L.dropLast (by simp;omega) (by simp;omega) (fun x hx=>ha x (List.dropLast_subset _ hx))
   refine ⟨?_,i2,by simp at i3;omega⟩
   rw [i1,List.map_dropLast,← fitP_drop]
   rw [← bytesE_eq];exact hbl
  ·next hc =>
   refine ⟨?_,ha,Nat.le_refl _⟩
   rw [fitP_all]
   rw [← bytesE_eq];omega
theorem AllF.join {f:Bool}{L:List GE}(h:AllF f L){x:GE}(hx:x.fresh=f):AllF f (joinE L x):=by
 rw [joinE_eq]
 induction L with
 | nil=>intro e he;simp [joinS] at he;subst he;exact hx
 | cons e es ih =>
  have h0:=h e (by simp)
  have h':AllF f es:=fun y hy=>h y (by simp [hy])
  intro y hy
  simp only [joinS] at hy
  split at hy
  ·rcases List.mem_cons.1 hy with rfl | hy
   ·exact h0
   ·exact ih h' y hy
  ·split at hy
   ·rcases List.mem_cons.1 hy with rfl | hy
    ·simp [touched,h0,hx]
    ·exact h' y hy
   ·rcases List.mem_cons.1 hy with rfl | hy
    ·exact hx
    ·exact h y hy
theorem joinS_len:∀ (L:List GE)(x:GE),(joinS L x).length≤L.length+1
 | [],x=>by simp [joinS]
 | e :: es,x=>by have:=joinS_len es x;simp only [joinS];split <;> (try split) <;> simp <;> omega
structure Kept (ok:List Int→Bool)(b:Int)(f:Bool)(ps:List (List Int))(L:List GE):Prop where
 paths:L.map GE.path=fitP b (allS ok [] ps)
 all:AllF f L
 len:L.length≤ps.length
theorem Kept.nil (ok:List Int→Bool)(b:Int)(f:Bool):Kept ok b f [] []:=⟨rfl,fun e he=>by simp at he,Nat.le_refl _⟩
theorem allS_snoc (ok:List Int→Bool):∀ (l Q:List (List Int))(x:List Int),allS ok Q (l ++ [x])=if ok x then insS x (allS ok Q l) else allS ok Q l
 | [],Q,x=>rfl
 | y :: ys,Q,x=>by simp only [List.cons_append,allS];exact allS_snoc ok ys _ x
theorem Kept.inc {ok:List Int→Bool}{b:Int}{f:Bool}{ps:List (List Int)}{L:List GE}(h:Kept ok b f ps L):IncE L:=by
 unfold IncE;rw [h.paths];exact fitP_inc _ (allS_inc ok ps [] .nil)
theorem Kept.bytes {ok:List Int→Bool}{b:Int}{f:Bool}{ps:List (List Int)}{L:List GE}(h:Kept ok b f ps L)(hb:0≤b):bytesE L≤b:=by
 rw [bytesE_eq,h.paths];exact fitP_sum _ _ hb
theorem Kept.add {ok:List Int→Bool}{b:Int}{f:Bool}{ps:List (List Int)}{L:List GE}(h:Kept ok b f ps L)(hb:0≤b)(hl:ps.length≤255){x:GE}(hx:x.fresh=f):Kept ok b f (ps ++ [x.path]) (addE ok b L x):=by
 have hs:=allS_inc ok ps [] .nil
 unfold addE
 by_cases hok:ok x.path=true
 ·rw [if_pos hok]
  have hj:=join_paths L x
  have hjl:(joinE L x).length≤L.length+1:=by rw [joinE_eq];exact joinS_len L x
  have hll:=h.len
  have e1:fitP b (allS ok [] (ps ++ [x.path]))=fitP b (insS x.path (L.map GE.path)):=by
   rw [allS_snoc,if_pos hok,h.paths,fitP_ins _ _ _ hs]
  split
  ·next hh =>
   refine ⟨?_,h.all.join hx,by simp;omega⟩
   rw [e1,hj]
   have e2:insS x.path (L.map GE.path)=L.map GE.path:=IncP.ext (insS_inc _ h.inc) h.inc (fun z=>by
    rw [insS_mem]
    constructor
    ·rintro (rfl | k)
     ·exact hasE_mem hh
     ·exact k
    ·exact .inr)
   rw [e2,h.paths,fitP_fitP _ hb]
  ·next hh =>
   obtain ⟨c1,c2,c3⟩:=cutF_paths hb (joinE L x).length (joinE L x) (Nat.le_refl _) (by omega) (h.all.join hx)
   unfold cutE
   refine ⟨?_,c2,by simp;omega⟩
   rw [e1,c1,hj]
 ·rw [if_neg hok]
  refine ⟨?_,h.all,by have:=h.len;simp;omega⟩
  rw [allS_snoc,if_neg hok];exact h.paths
end Go.Proofs.YtkoeecdjijfjnaaGreat
