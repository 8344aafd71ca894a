/- Contracts of functions, plain laws. Conditions: none. -/
import Derived.Test.YtkoeecdjijfjnaaGreatH1
import Derived.Test.YtkoeecdjijfjnaaGreatG3
set_option maxRecDepth 100000
set_option maxHeartbeats 8000000
namespace Go.Proofs.YtkoeecdjijfjnaaGreat
theorem wR:∀ x y:List Int,iZ y x=- iZ x y
 | [],[]=>rfl
 | [],_ :: _=>by simp only [iZ];rfl
 | _ :: _,[]=>by simp only [iZ]
 | x :: xs,y :: ys=>by
  simp only [iZ];exact kB (lQ x y) (wR xs ys)
theorem wQ:∀ x y:List Int,iZ x y=0->x=y
 | [],[],_=>rfl
 | [],_ :: _,h=>by simp only [iZ] at h;omega
 | _ :: _,[],h=>by simp only [iZ] at h;omega
 | x :: xs,y :: ys,h=>by
  simp only [iZ] at h;obtain ⟨h1,h2⟩:=jZ h;rw [dC h1,wQ xs ys h2]
theorem aFf:∀ x y z:List Int,iZ x y<0->iZ y z<0->iZ x z<0
 | [],[],_,h,_=>by simp only [iZ] at h;omega
 | [],_ :: _,[],_,h=>by simp only [iZ] at h;omega
 | [],_ :: _,_ :: _,_,_=>by simp only [iZ];omega
 | _ :: _,[],_,h,_=>by simp only [iZ] at h;omega
 | _ :: _,_ :: _,[],_,h=>by simp only [iZ] at h;omega
 | x :: xs,y :: ys,z :: zs,h,k=>by
  simp only [iZ] at h k ⊢;rw [mJ] at h k ⊢;rcases h with h | ⟨e,h⟩ <;> rcases k with k | ⟨e',k⟩
  ·exact .inl (gC.2 (by have:=gC.1 h;have:=gC.1 k;omega))
  ·exact .inl (by rw [<- dC e'];exact h)
  ·exact .inl (by rw [dC e];exact k)
  ·exact .inr ⟨by rw [dC e];exact e',aFf xs ys zs h k⟩
theorem pT (x y:List Int):gP y x=- gP x y:=kB (lQ _ _) (wR x y)
theorem pS {x y:List Int}(h:gP x y=0):x=y:=wQ x y (jZ h).2
theorem yR {x y z:List Int}(h:gP x y<0)(k:gP y z<0):gP x z<0:=by
 unfold gP at h k ⊢;rw [mJ] at h k ⊢;rcases h with h | ⟨e,h⟩ <;> rcases k with k | ⟨e',k⟩
 ·exact .inl (gC.2 (by have:=gC.1 h;have:=gC.1 k;omega))
 ·exact .inl (by rw [<- dC e'];exact h)
 ·exact .inl (by rw [dC e];exact k)
 ·exact .inr ⟨by rw [dC e];exact e',aFf x y z h k⟩
theorem pU (x:List Int):gP x x=0:=by have:=pT x x;omega
def ltP (x y:List Int):Prop:=gP x y<0
theorem ltP.tr {x y z:List Int}(h:ltP x y)(k:ltP y z):ltP x z:=yR h k
theorem aOy (x y:List Int):ltP x y∨x=y∨ltP y x:=by
 unfold ltP;have:=pT x y;rcases Int.lt_trichotomy (gP x y) 0 with h | h | h
 ·exact .inl h
 ·exact .inr (.inl (pS h))
 ·exact .inr (.inr D)
abbrev aXl (l:List (List Int)):Prop:=l.Pairwise ltP
def aEs (x:List Int):List (List Int)->List (List Int)
 | []=>[x]
 | y :: ys=>if gP y x<0 then y :: aEs x ys else if gP y x=0 then y :: ys else x :: y :: ys
theorem zZ (x:List Int):∀ (l:List (List Int))(z:List Int),z ∈ aEs x l ↔ z=x∨z ∈ l
 | [],z=>by simp [aEs]
 | y :: ys,z=>by
  simp only [aEs]
  split
  ·simp only [List.mem_cons,zZ x ys z]
   constructor
   ·rintro (h | h | h) <;> simp [h]
   ·rintro (h | h | h) <;> simp [h]
  ·split
   ·next h=>rw [pS h];simp
   ·simp
theorem aAa (x:List Int):∀ {l:List (List Int)},aXl l->aXl (aEs x l)
 | [],_=>by simp [aEs]
 | y :: ys,h=>by
  have h':=List.pairwise_cons.1 h;simp only [aEs]
  split
  ·next hlt =>
   refine List.pairwise_cons.2 ⟨fun z hz=>?_,aAa x h'.2⟩;rcases (zZ x ys z).1 hz with rfl | hz
   ·exact hlt
   ·exact h'.1 z hz
  ·split
   ·exact h
   ·next h1 h2 =>
    have hxy:ltP x y:=by
     rcases aOy x y with k | k | k
     ·exact k
     ·exact absurd (by rw [k];exact pU y) h2
     ·exact absurd k h1
    refine List.pairwise_cons.2 ⟨fun z hz=>?_,h⟩;rcases List.mem_cons.1 hz with rfl | hz
    ·exact hxy
    ·exact hxy.tr (h'.1 z hz)
def aX3:Int->List (List Int)->List (List Int)
 | _,[]=>[]
 | b,y :: ys=>if 2+(y.length:Int)<=b then y :: aX3 (b - (2+(y.length:Int))) ys else []
def aYd:List (List Int)->Int
 | []=>0
 | y :: ys=>2+(y.length:Int)+aYd ys
def aX6 (ok:List Int->Bool):List (List Int)->List (List Int)->List (List Int)
 | Q,[]=>Q
 | Q,x :: xs=>aX6 ok (if ok x then aEs x Q else Q) xs
end Go.Proofs.YtkoeecdjijfjnaaGreat
namespace Go.Proofs.YtkoeecdjijfjnaaGreat
open Go.RowKit
structure GE where
 path:List Int
 kind:Int
 at_:Int
 code:Int
 fresh:Bool
 hits:Int
instance:Inhabited GE:=⟨⟨[],0,0,0,false,0⟩⟩
def wE (e:GE):Int:=2+(e.path.length:Int)
def dF:List GE->Int
 | []=>0
 | e :: es=>wE e+dF es
def bE (p:List Int):List GE->Nat
 | []=>0
 | e :: es=>if gP e.path p<0 then bE p es+1 else 0
def fG (p:List Int)(L:List GE):Bool:=decide (bE p L<L.length) && decide (gP (L.getD (bE p L) default).path p=0)
def aX (e x:GE):GE:={ e with hits:=wrap64 (e.hits+x.hits),fresh:=e.fresh || x.fresh }
def dE (L:List GE)(x:GE):List GE :=
 if fG x.path L then L.set (bE x.path L) (aX (L.getD (bE x.path L) default) x) else L.take (bE x.path L) ++ x :: L.drop (bE x.path L)
def iS:Nat->Nat->List GE->Nat
 | _,k,[]=>k
 | i,k,e :: es=>iS (i+1) (if e.fresh then k else i) es
def nG (L:List GE):Nat:=iS 0 (L.length - 1) L
def aO7 (b:Int):Nat->List GE->List GE
 | 0,L=>L
 | n+1,L=>if b<dF L∨256<L.length then aO7 b n (L.eraseIdx (nG L)) else L
def tO (b:Int)(L:List GE):List GE:=aO7 b L.length L
def pX (ok:List Int->Bool)(b:Int)(L:List GE)(x:GE):List GE :=
 if ok x.path then (if fG x.path L then dE L x else tO b (dE L x)) else L
def uF (ok:List Int->Bool)(b:Int)(L:List GE)(x:GE):Bool :=
 if ok x.path then (if fG x.path L then false else fG x.path (tO b (dE L x))) else false
def aAt (ok:List Int->Bool)(x:GE):Int:=if ok x.path then 0 else 11
def tC:List GE->GE->List GE
 | [],x=>[x]
 | e :: es,x=>if gP e.path x.path<0 then e :: tC es x else if gP e.path x.path=0 then aX e x :: es else x :: e :: es
theorem kD (p:List Int):∀ L,bE p L<=L.length
 | []=>by simp [bE]
 | e :: es=>by have:=kD p es;simp only [bE];split <;> simp <;> omega
theorem aIw {p:List Int}{e:GE}{es:List GE}(h:gP e.path p<0):bE p (e :: es)=bE p es+1:=by simp only [bE];rw [if_pos h]
theorem aIx {p:List Int}{e:GE}{es:List GE}(h:¬ gP e.path p<0):bE p (e :: es)=0:=by simp only [bE];rw [if_neg h]
theorem nS:∀ (L:List GE)(x:GE),dE L x=tC L x
 | [],x=>by simp [dE,tC,fG,bE]
 | e :: es,x=>by
  have ih:=nS es x;simp only [tC];unfold dE fG at ih ⊢
  by_cases h1:gP e.path x.path<0
  ·have hf:=aIw (es:=es) h1
   generalize bE x.path (e :: es)=k at *;subst hf;rw [if_pos h1,<- ih];simp only [List.length_cons,List.getD_cons_succ,List.set_cons_succ,List.take_succ_cons,List.drop_succ_cons,Nat.add_lt_add_iff_right]
   split <;> simp
  ·have hf:=aIx (es:=es) h1
   generalize bE x.path (e :: es)=k at *;subst hf;rw [if_neg h1]
   by_cases h2:gP e.path x.path=0
   ·rw [if_pos h2]
    simp [h2]
   ·rw [if_neg h2]
    simp [h2]
theorem pA:∀ (L:List GE)(x:GE),(tC L x).map GE.path=aEs x.path (L.map GE.path)
 | [],x=>rfl
 | e :: es,x=>by
  simp only [tC,List.map_cons,aEs]
  split
  ·simp [pA es x]
  ·split
   ·rfl
   ·rfl
theorem aBw (L:List GE)(x:GE):(dE L x).map GE.path=aEs x.path (L.map GE.path):=by rw [nS,pA]
abbrev xB (L:List GE):Prop:=aXl (L.map GE.path)
theorem xB.join {L:List GE}(h:xB L)(x:GE):xB (dE L x):=by unfold xB;rw [aBw];exact aAa _ h
theorem wK (p:List Int):∀ (L:List GE)(k:Nat),k<bE p L->gP (L.getD k default).path p<0
 | [],k,h=>by simp [bE] at h
 | e :: es,k,h=>by
  simp only [bE] at h
  split at h
  ·next hlt =>
   cases k with
   | zero=>exact hlt
   | succ k=>exact wK p es k D
  ·omega
theorem rG {p:List Int}:∀ {L:List GE},xB L->∀ (k:Nat),bE p L<=k->k<L.length->¬ gP (L.getD k default).path p<0
 | [],_,k,_,h=>by simp at h
 | e :: es,hi,k,h1,h2=>by
  have hi':=List.pairwise_cons.1 hi;simp only [bE] at h1
  split at h1
  ·cases k with
   | zero=>omega
   | succ k=>exact rG hi'.2 k D ia
  ·next hn =>
   cases k with
   | zero=>exact hn
   | succ k =>
    intro hk
    apply hn
    have hk2:k<es.length:=ia
    have hm:es.getD k default ∈ es:=by
     have h3:es.getD k default=es[k]:=by simp [hk2]
     rw [h3];exact List.getElem_mem hk2
    exact yR (hi'.1 _ (List.mem_map.2 ⟨es.getD k default,hm,rfl⟩)) hk
theorem mN {p:List Int}{L:List GE}(hi:xB L){k:Nat}(hk:k<=L.length)(h1:∀ j,j<k->gP (L.getD j default).path p<0)(h2:∀ j,k<=j->j<L.length->¬ gP (L.getD j default).path p<0):k=bE p L:=by
 rcases Nat.lt_trichotomy k (bE p L) with h | h | h
 ·have:=kD p L
  exact absurd (wK p L k h) (h2 k (Nat.le_refl _) D)
 ·exact h
 ·exact absurd (h1 _ h) (rG hi _ (Nat.le_refl _) D)
theorem aEt {L:List GE}(hi:xB L){i j:Nat}(hij:i<j)(hj:j<L.length):gP (L.getD i default).path (L.getD j default).path<0:=by
 have:=List.pairwise_iff_getElem.1 hi i j aa iz hij;have h1:L.getD i default=L[i]:=by simp [show i<L.length by omega]
 have h2:L.getD j default=L[j]:=by simp [hj]
 rw [h1,h2]
 simpa [ltP] using this
theorem tD {L:List GE}(hi:xB L)(p:List Int){i j:Nat}(hij:i<=j)(hj:j<L.length)(h:gP (L.getD j default).path p<0):gP (L.getD i default).path p<0:=by
 rcases Nat.eq_or_lt_of_le hij with rfl | hij
 ·exact h
 ·exact yR (aEt hi hij hj) h
theorem aIm {p:List Int}{L:List GE}(h:fG p L=true):p ∈ L.map GE.path:=by
 unfold fG at h;simp only [Bool.and_eq_true,decide_eq_true_eq] at h;refine List.mem_map.2 ⟨L.getD (bE p L) default,?_,pS h.2⟩;have:L.getD (bE p L) default=L[bE p L]:=by simp [h.1]
 rw [this];exact List.getElem_mem _
theorem rH:∀ (L:List GE)(i k n:Nat),k<n->i+L.length<=n->iS i k L<n
 | [],i,k,n,h,_=>by simp only [iS];exact h
 | e :: es,i,k,n,h,h2=>by
  simp only [List.length_cons] at h2;simp only [iS];refine rH es (i+1) _ n ?_ D
  split <;> omega
theorem aAl {L:List GE}(h:0<L.length):nG L<L.length:=rH L 0 _ _ D D
def aZg (f:Bool)(L:List GE):Prop:=∀ e ∈ L,e.fresh=f
theorem pB:∀ (L:List GE)(x:GE),(tC L x).length<=L.length+1
 | [],x=>by simp [tC]
 | e :: es,x=>by have:=pB es x;simp only [tC];split <;> (try split) <;> simp <;> omega
structure aZt (ok:List Int->Bool)(b:Int)(f:Bool)(ps:List (List Int))(L:List GE):Prop where
 paths:L.map GE.path=aX3 b (aX6 ok [] ps)
 all:aZg f L
 len:L.length<=ps.length
end Go.Proofs.YtkoeecdjijfjnaaGreat
namespace Go.Proofs.YtkoeecdjijfjnaaGreat
open Go.RowKit
structure EAt (w:World)(P:Nat->Prop)(e:GE)(A:Option Addr)(c:Nat):Prop where
 path:bM w P (.slice A e.path.length c) e.path
 kind:I64 e.kind
 at_:I64 e.at_
 code:I64 e.code
 hits:I64 e.hits
def bG (e:GE)(A:Option Addr)(c:Nat):List Value:=[.slice A e.path.length c,.int .i64 e.kind,.int .i64 e.at_,.int .i64 e.code,.bool e.fresh,.int .i64 e.hits]
abbrev aB6 (e:GE)(A:Option Addr)(c:Nat):Value:=.agg #[.slice A e.path.length c,↑e.kind,↑e.at_,↑e.code,.bool e.fresh,↑e.hits]
def REn (w:World)(P:Nat->Prop)(e:GE)(cs:List Value):Prop:=∃ A c,cs=bG e A c∧EAt w P e A c
section
variable {w w':World}{P Q:Nat->Prop}
theorem EAt.carry {e:GE}{A:Option Addr}{c:Nat}(h:EAt w P e A c)(hk:aB P w w')(hPQ:∀ b,b<w.heap.size->P b->Q b):EAt w' Q e A c:=⟨h.path.carry hk hPQ,h.kind,h.at_,h.code,h.hits⟩
theorem EAt.ext {e:GE}{A:Option Addr}{c:Nat}(h:EAt w P e A c)(hx:Ext w w'):EAt w' P e A c:=h.carry (aB.of_ext hx) (fun _ _ h=>h)
theorem fB:aLr 6 REn:=⟨fun _ _ _ _ h=>by obtain ⟨A,c,rfl,_⟩:=h;rfl,fun _ _ _ _ _ _ h hk hPQ=>by obtain ⟨A,c,e,h⟩:=h;exact ⟨A,c,e,h.carry hk hPQ⟩⟩
end
def Ens (w:World)(P:Nat->Prop)(v:Value)(L:List GE):Prop:=Lst w P 6 (REn w P) v L
section
variable {w w':World}{P Q:Nat->Prop}
theorem Ens.carry {v:Value}{L:List GE}(h:Ens w P v L)(hk:aB P w w')(hPQ:∀ b,b<w.heap.size->P b->Q b):Ens w' Q v L:=Lst.carry h D hk hPQ (fun x _ cs hx=>fB.carry _ _ _ _ _ _ hx hk hPQ)
theorem Ens.ext {v:Value}{L:List GE}(h:Ens w P v L)(hx:Ext w w'):Ens w' P v L:=h.carry (aB.of_ext hx) (fun _ _ h=>h)
theorem Ens.get {A:Option Addr}{n c:Nat}{L:List GE}(h:Ens w P (.slice A n c) L){i:Nat}(hi:i<L.length):∃ b off A' d,A=some ⟨b,off,none⟩∧P b∧EAt w P (L.getD i default) A' d∧(∀ j u,(bG (L.getD i default) A' d)[j]?=some u->w.cell? ⟨b,off+i*6+j,none⟩=some u):=by
 obtain ⟨b,off,c',cs,e,hb,_,_,⟨A',d,rfl,hv⟩,hc⟩:=Lst.at_ (fB.len w P) h default hi;injection e with e _ _;exact ⟨b,off,A',d,e,hb,hv,hc⟩
end
theorem cB {w:World}{g:Nat}{t:TypeId}{u0 u1 u2 u3 u4 u5:Value}(h:Blk w g t #[u0,u1,u2,u3,u4,u5]):w.cell? ⟨g,0,none⟩=some u0∧w.cell? ⟨g,1,none⟩=some u1∧w.cell? ⟨g,2,none⟩=some u2∧w.cell? ⟨g,3,none⟩=some u3∧w.cell? ⟨g,4,none⟩=some u4∧w.cell? ⟨g,5,none⟩=some u5:=⟨h.cell' 0 rfl,h.cell' 1 rfl,h.cell' 2 rfl,h.cell' 3 rfl,h.cell' 4 rfl,h.cell' 5 rfl⟩
theorem rM (x y:GE)(A B:Option Addr)(c d:Nat)(P Q:Nat->Prop)(w:World)(hx:EAt w P x A c)(hy:EAt w Q y B d) :
  Calls Tryz.prog 56 #[aB6 x A c,aB6 y B d] w (cT (.int .i64 (gP x.path y.path)) w):=by
 have HX:=aZv hx;have HY:=aZv hy;clear hx hy;go_enter Tryz.func56,Tryz.ntmps56;go_wp2_with fail;refine (nE x.path y.path P Q _ _ _ (HX.out.path.ext (((Ext.refl _).alloc' _).alloc' _)) (HY.out.path.ext (((Ext.refl _).alloc' _).alloc' _))).mono ?_;rintro e w1 ⟨rfl,hx1⟩;have HX1:=aZv ((((Ext.refl w).alloc' _).alloc' _).trans' hx1);clear hx1;go_wp2_with fail;go_ret;exact ⟨rfl,HX1.out⟩
def aXu (l:List GE)(p:List Int)(W:World)(s9 s10:Value)(wr:World):Prop:=∃ i j:Nat,i<=j∧j<=l.length∧s9=↑i∧s10=↑j∧Ext W wr∧(∀ k,k<i->gP (l.getD k default).path p<0)∧(∀ k,j<=k->k<l.length->0<=gP (l.getD k default).path p)
theorem aAh {l:List GE}{p:List Int}{i:Nat}(hinc:xB l)(hi:i<=l.length)(h1:∀ k,k<i->gP (l.getD k default).path p<0)(h2:∀ k,i<=k->k<l.length->¬ gP (l.getD k default).path p<0) :
  bE p l=i∧fG p l=(decide (i<l.length) && decide (gP (l.getD i default).path p=0)):=by
 have h:=mN hinc hi h1 h2;unfold fG;rw [<- h];exact ⟨rfl,rfl⟩
theorem wV (l:List GE)(x:GE)(A:Option Addr)(c:Nat)(P Q:Nat->Prop)(v:Value)(w:World)(hl:Ens w P v l)(hx:EAt w Q x A c)(hinc:xB l)(hlen:l.length<=1000000) :
  Calls Tryz.prog 107 #[v,aB6 x A c,.func (.func 56) #[] #[]] w (aF2 (.int .i64 (bE x.path l)) (.bool (fG x.path l)) w):=by
 have HL:=aZv hl;have HX:=aZv hx;have HI:=aZv hinc;obtain ⟨Al,cl,el,h1,h2⟩:=Lst.form hl;subst el;clear hl hx hinc;go_enter Tryz.func107,Tryz.ntmps107;go_wp2_with fail;have HE:=aZv ((Ext.refl w).alloc' (.cells #[.slice A x.path.length c,↑x.kind,↑x.at_,↑x.code,.bool x.fresh,↑x.hits] 102));have HB:=aZv (Blk.new w 102 #[.slice A x.path.length c,↑x.kind,↑x.at_,↑x.code,.bool x.fresh,↑x.hits]);generalize w.alloc (.cells #[.slice A x.path.length c,↑x.kind,↑x.at_,↑x.code,.bool x.fresh,↑x.hits] 102)=W at *;go_loopw [9,10] (fun a b wr=>aXu l x.path W a b wr) (fun a b _=>(intOf b).toNat - (intOf a).toNat)
 case atStart=>exact ⟨0,l.length,Nat.zero_le _,Nat.le_refl _,rfl,rfl,Ext.refl _,fun k hk=>by omega,fun k hk hk'=>by omega⟩
 case round =>
  obtain ⟨i,j,hij,hj,rfl,rfl,hE,hlo,hhi⟩:=hrel;have HE1:=aZv hE;have HLO:=aZv hlo;have HHI:=aZv hhi;clear hE hlo hhi
  by_cases hlt:i<j
  ·go_upto_region 5 with fail
   obtain ⟨h,hh⟩:∃ h:Nat,((i:Int)+(j:Int)) / 2=(h:Int):=⟨(((i:Int)+(j:Int)) / 2).toNat,D⟩;have h1':i<=h:=by omega
   have h2':h<j:=D
   rw [hh];clear hh;have hhl:h<l.length:=by omega
   obtain ⟨b1,o1,A1,d1,rfl,-,hv1,hgc⟩:=(HL.out.ext (HE.out.trans' HE1.out)).get hhl;have HV1:=aZv hv1;have HMX:=aZv (HX.out.ext (HE.out.trans' HE1.out));obtain ⟨x0,x1,x2,x3,x4,x5⟩:=cB (HB.out.ext HE1.out);have HG:=aZv (show ∃ y,y=l.getD h default from ⟨_,rfl⟩);obtain ⟨y,hy⟩:=HG.out;have HY:=aZv hy;rw [<- hy] at HV1 hgc;have g10:=hgc 0 _ rfl;have g11:=hgc 1 _ rfl;have g12:=hgc 2 _ rfl;have g13:=hgc 3 _ rfl;have g14:=hgc 4 _ rfl;have g15:=hgc 5 _ rfl;rw [Nat.add_zero] at g10;clear hgc;clear hv1 hy HG;have hq0:(0:Int)<=(h:Int):=by omega
   have hq1:(h:Int)<(l.length:Int):=D
   go_still_tail 6,Y;go_wp2_with fail;refine (rM y x A1 A d1 c P Q _ (HV1.out.ext (Ext.refl _).drew') (HMX.out.ext (Ext.refl _).drew')).mono ?_;rintro e w2 ⟨rfl,hx2⟩;have HX2:=aZv (HE1.out.trans' ((Ext.refl _).drew'.trans' hx2));clear hx2
   by_cases hz:gP y.path x.path<0
   ·have HZ:=aZv hz
    go_wp2_with fail;go_roundw
    case rel=>exact ⟨h+1,j,D,hj,by go_num,rfl,HX2.out,fun k hk=>tD HI.out x.path (show k<=h by omega) hhl (by rw [<- HY.out];exact HZ.out),HHI.out⟩
    case measure=>simp [intOf];omega
   ·have HZ:=aZv hz
    go_wp2_with fail;go_roundw
    case rel=>exact ⟨i,h,h1',D,rfl,rfl,HX2.out,HLO.out,fun k hk hk'=>Int.not_lt.1 (fun hc=>absurd (show gP y.path x.path<0 by rw [HY.out];exact tD HI.out x.path hk hk' hc) (Int.not_lt.2 HZ.out))⟩
    case measure=>simp [intOf];omega
  ·obtain rfl:i=j:=by omega
   have HF:=aZv (aAh (p:=x.path) HI.out hj HLO.out (fun k hk hk'=>Int.not_lt.2 (HHI.out k hk hk')));clear HLO HHI
   by_cases hn:i<l.length
   ·have hd:decide (i<l.length)=true:=aZy hn
    have hd':decide ((i:Int)<(l.length:Int))=true:=aZy D;obtain ⟨b1,o1,A1,d1,rfl,-,hv1,hgc⟩:=(HL.out.ext (HE.out.trans' HE1.out)).get hn;have HF2:=aZv (show fG x.path l=decide (gP (l.getD i default).path x.path=0) by rw [HF.out.2,hd];rfl);have HMX:=aZv (HX.out.ext (HE.out.trans' HE1.out));have HV1:=aZv hv1;obtain ⟨x0,x1,x2,x3,x4,x5⟩:=cB (HB.out.ext HE1.out);generalize l.getD i default=y at *;have g10:=hgc 0 _ rfl;have g11:=hgc 1 _ rfl;have g12:=hgc 2 _ rfl;have g13:=hgc 3 _ rfl;have g14:=hgc 4 _ rfl;have g15:=hgc 5 _ rfl;rw [Nat.add_zero] at g10;clear hgc;have hq0:(0:Int)<=(i:Int):=by omega
    have hq1:(i:Int)<(l.length:Int):=D
    clear hv1;go_upto_region 8 with fail
    go_region_held3 (fun w'=>w'.cell? ⟨b1,o1+i*6,none⟩=some (.slice A1 y.path.length d1)∧w'.cell? ⟨b1,o1+i*6+1,none⟩=some (.int .i64 y.kind)∧w'.cell? ⟨b1,o1+i*6+2,none⟩=some (.int .i64 y.at_)∧w'.cell? ⟨b1,o1+i*6+3,none⟩=some (.int .i64 y.code)∧w'.cell? ⟨b1,o1+i*6+4,none⟩=some (.bool y.fresh)∧w'.cell? ⟨b1,o1+i*6+5,none⟩=some (.int .i64 y.hits)∧w'.cell? ⟨w.heap.size,0,none⟩=some (.slice A x.path.length c)∧w'.cell? ⟨w.heap.size,1,none⟩=some (.int .i64 x.kind)∧w'.cell? ⟨w.heap.size,2,none⟩=some (.int .i64 x.at_)∧w'.cell? ⟨w.heap.size,3,none⟩=some (.int .i64 x.code)∧w'.cell? ⟨w.heap.size,4,none⟩=some (.bool x.fresh)∧w'.cell? ⟨w.heap.size,5,none⟩=some (.int .i64 x.hits))
     (first
      | go_keep
      | (go_split_ands
         exact ⟨aA hx2 ‹_›,aA hx2 ‹_›,aA hx2 ‹_›,aA hx2 ‹_›,aA hx2 ‹_›,aA hx2 ‹_›,aA hx2 ‹_›,aA hx2 ‹_›,aA hx2 ‹_›,aA hx2 ‹_›,aA hx2 ‹_›,aA hx2 ‹_›⟩))
     (first
      | (go_at_call 56;refine (rM y x A1 A d1 c P Q _ (HV1.out.ext (Ext.refl _).drew') (HMX.out.ext (Ext.refl _).drew')).mono ?_;rintro e w2 ⟨rfl,hx2⟩))
    have HX2:=aZv (HE1.out.trans' ((Ext.refl _).drew'.trans' hx2));clear hx2;go_wp2_with fail;go_ret2;exact ⟨ft,HE.out.trans' HX2.out⟩
   ·have hd:decide (i<l.length)=false:=aZz hn
    have hd':decide ((i:Int)<(l.length:Int))=false:=aZz D;have HF2:=aZv (show fG x.path l=false by rw [HF.out.2,hd];rfl);go_wp2_with fail;go_quiet (fail);go_wp2_with fail;go_ret2;exact ⟨ft,HE.out.trans' (HE1.out.trans' (Ext.drewN _ _))⟩
theorem vM (l:List GE)(x:GE)(A:Option Addr)(c:Nat)(P Q:Nat->Prop)(v:Value)(w:World)(hl:Ens w P v l)(hx:EAt w Q x A c)(hinc:xB l)(hlen:l.length<=1000000) :
  Calls Tryz.prog 55 #[v,aB6 x A c,.func (.func 56) #[] #[]] w (aF2 (.int .i64 (bE x.path l)) (.bool (fG x.path l)) w):=by
 have HC:=aZv (fun (W:World) (h:Ext w W)=>wV l x A c P Q v W (hl.ext h) (hx.ext h) hinc hlen);obtain ⟨Al,cl,el,h1,h2⟩:=Lst.form hl;subst el;clear hl hx hinc;go_enter Tryz.func55,Tryz.ntmps55;go_wp2_with fail;refine (HC.out _ ((Ext.refl w).alloc' _)).mono ?_;rintro e w1 ⟨rfl,hx1⟩;have HX1:=aZv (((Ext.refl w).alloc' _).trans' hx1);clear hx1;go_wp2_with fail;go_ret2;exact ⟨rfl,HX1.out⟩
theorem aA5 (x:GE)(A:Option Addr)(c:Nat)(w:World)(h:x.path.length<=1000000000)(h2:c<=9223372036854775807)(h3:x.path.length<=c):Calls Tryz.prog 53 #[aB6 x A c] w (cT (.int .i64 (wE x)) w):=by
 have HW:=aZv (show wE x=2+(x.path.length:Int) from rfl);go_enter Tryz.func53,Tryz.ntmps53;go_wp2_with fail;go_ret;exact ⟨aL HW.out.symm,(Ext.refl _).alloc' _⟩
end Go.Proofs.YtkoeecdjijfjnaaGreat
