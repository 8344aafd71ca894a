/- Contracts and laws. Conditions: none. -/
import Derived.Lib.Overlaps
import Derived.Lib.AppendZerosOnto
import Derived.Laws.Externs
import Derived.Test.YtkoeecdjijfjnaaGreatDoorH6
set_option linter.all false
set_option maxRecDepth 100000
set_option maxHeartbeats 8000000
namespace Go.Proofs.YtkoeecdjijfjnaaGreatDoor
theorem zF:∀ x y:List Int,jM y x=- jM x y
 | [],[]=>rfl
 | [],_ :: _=>by simp only [jM];rfl
 | _ :: _,[]=>by simp only [jM]
 | x :: xs,y :: ys=>by
  simp only [jM];exact kN (mS x y) (zF xs ys)
theorem zD:∀ x y:List Int,jM x y=0->x=y
 | [],[],_=>rfl
 | [],_ :: _,h=>by simp only [jM] at h;omega
 | _ :: _,[],h=>by simp only [jM] at h;omega
 | x :: xs,y :: ys,h=>by
  simp only [jM] at h;obtain ⟨h1,h2⟩:=kM h;rw [dJ h1,zD xs ys h2]
theorem su:∀ x y z:List Int,jM x y<0->jM y z<0->jM x z<0
 | [],[],_,h,_=>by simp only [jM] at h;omega
 | [],_ :: _,[],_,h=>by simp only [jM] at h;omega
 | [],_ :: _,_ :: _,_,_=>by simp only [jM];omega
 | _ :: _,[],_,h,_=>by simp only [jM] at h;omega
 | _ :: _,_ :: _,[],_,h=>by simp only [jM] at h;omega
 | x :: xs,y :: ys,z :: zs,h,k=>by
  simp only [jM] at h k ⊢;rw [nK] at h k ⊢;rcases h with h | ⟨e,h⟩ <;> rcases k with k | ⟨e',k⟩
  ·exact .inl (gH.2 (by have:=gH.1 h;have:=gH.1 k;omega))
  ·exact .inl (by rw [<- dJ e'];exact h)
  ·exact .inl (by rw [dJ e];exact k)
  ·exact .inr ⟨by rw [dJ e];exact e',su xs ys zs h k⟩
theorem rG (x y:List Int):iA y x=- iA x y:=kN (mS _ _) (zF x y)
theorem rF {x y:List Int}(h:iA x y=0):x=y:=zD x y (kM h).2
theorem qm {x y z:List Int}(h:iA x y<0)(k:iA y z<0):iA x z<0:=by
 unfold iA at h k ⊢;rw [nK] at h k ⊢;rcases h with h | ⟨e,h⟩ <;> rcases k with k | ⟨e',k⟩
 ·exact .inl (gH.2 (by have:=gH.1 h;have:=gH.1 k;omega))
 ·exact .inl (by rw [<- dJ e'];exact h)
 ·exact .inl (by rw [dJ e];exact k)
 ·exact .inr ⟨by rw [dJ e];exact e',su x y z h k⟩
theorem rH (x:List Int):iA x x=0:=by have:=rG x x;omega
def ltP (x y:List Int):Prop:=iA x y<0
theorem ltP.tr {x y z:List Int}(h:ltP x y)(k:ltP y z):ltP x z:=qm h k
theorem Ip (x y:List Int):ltP x y∨x=y∨ltP y x:=by
 unfold ltP;have:=rG x y;rcases Int.lt_trichotomy (iA x y) 0 with h | h | h
 ·exact .inl h
 ·exact .inr (.inl (rF h))
 ·exact .inr (.inr I)
abbrev pa (l:List (List Int)):Prop:=l.Pairwise ltP
def ku (x:List Int):List (List Int)->List (List Int)
 | []=>[x]
 | y :: ys=>if iA y x<0 then y :: ku x ys else if iA y x=0 then y :: ys else x :: y :: ys
theorem BZ (x:List Int):∀ (l:List (List Int))(z:List Int),z ∈ ku x l ↔ z=x∨z ∈ l
 | [],z=>by simp [ku]
 | y :: ys,z=>by
  simp only [ku];split
  ·simp only [ao,BZ x ys z]
   constructor
   ·rintro (h | h | h) <;> simp [h]
   ·rintro (h | h | h) <;> simp [h]
  ·split
   ·next h=>rw [rF h];simp
   ·simp
theorem CG (x:List Int):∀ {l:List (List Int)},pa l->pa (ku x l)
 | [],_=>by simp [ku]
 | y :: ys,h=>by
  have h':=List.pairwise_cons.1 h;simp only [ku];split
  ·next hlt =>
   refine List.pairwise_cons.2 ⟨fun z hz=>?_,CG x h'.2⟩;rcases (BZ x ys z).1 hz with rfl | hz
   ·exact hlt
   ·exact h'.1 z hz
  ·split
   ·exact h
   ·next h1 h2 =>
    have hxy:ltP x y:=by
     rcases Ip x y with k | k | k
     ·exact k
     ·exact absurd (by rw [k];exact rH y) h2
     ·exact absurd k h1
    refine List.pairwise_cons.2 ⟨fun z hz=>?_,h⟩;rcases ao.1 hz with rfl | hz
    ·exact hxy
    ·exact hxy.tr (h'.1 z hz)
end Go.Proofs.YtkoeecdjijfjnaaGreatDoor
namespace Go.Proofs.YtkoeecdjijfjnaaGreatDoor
open Go.RowKit
structure GE where
 path:List Int
 kind:Int
 at_:Int
 code:Int
 fresh:Bool
 hits:Int
instance:Inhabited GE:=⟨⟨[],0,0,0,false,0⟩⟩
def wE (e:GE):Int:=2+(e.path:Int)
def dK:List GE->Int
 | []=>0
 | e :: es=>wE e+dK es
def bO (p:List Int):List GE->Nat
 | []=>0
 | e :: es=>if iA e.path p<0 then bO p es+1 else 0
def hU (p:List Int)(L:List GE):Bool:=decide (bO p L<L) && decide (iA (L.getD (bO p L) default).path p=0)
def aY (e x:GE):GE:={ e with hits:=wrap64 (e.hits+x.hits),fresh:=e.fresh || x.fresh }
def dN (L:List GE)(x:GE):List GE :=
 if hU x.path L then L.set (bO x.path L) (aY (L.getD (bO x.path L) default) x) else L.take (bO x.path L) ++ x :: L.drop (bO x.path L)
def jD:Nat->Nat->List GE->Nat
 | _,k,[]=>k
 | i,k,e :: es=>jD (i+1) (if e.fresh then k else i) es
def oN (L:List GE):Nat:=jD 0 (L.length - 1) L
def l7 (b:Int):Nat->List GE->List GE
 | 0,L=>L
 | n+1,L=>if b<dK L∨256<L.length then l7 b n (L.eraseIdx (oN L)) else L
def qZ (b:Int)(L:List GE):List GE:=l7 b L L
def rQ (ok:List Int->Bool)(b:Int)(L:List GE)(x:GE):List GE :=
 if ok x.path then (if hU x.path L then dN L x else qZ b (dN L x)) else L
def wZ (ok:List Int->Bool)(b:Int)(L:List GE)(x:GE):Bool :=
 if ok x.path then (if hU x.path L then false else hU x.path (qZ b (dN L x))) else false
def ka (ok:List Int->Bool)(x:GE):Int:=if ok x.path then 0 else 11
def vO:List GE->GE->List GE
 | [],x=>[x]
 | e :: es,x=>if iA e.path x.path<0 then e :: vO es x else if iA e.path x.path=0 then aY e x :: es else x :: e :: es
theorem mP (p:List Int):∀ L,bO p L<=L
 | []=>by simp [bO]
 | e :: es=>by have:=mP p es;simp only [bO];split <;> simp <;> omega
theorem Dy {p:List Int}{e:GE}{es:List GE}(h:iA e.path p<0):bO p (e :: es)=bO p es+1:=by simp only [bO];rw [if_pos h]
theorem KU {p:List Int}{e:GE}{es:List GE}(h:¬ iA e.path p<0):bO p (e :: es)=0:=by simp only [bO];rw [if_neg h]
theorem pB:∀ (L:List GE)(x:GE),dN L x=vO L x
 | [],x=>by simp [dN,vO,hU,bO]
 | e :: es,x=>by
  have ih:=pB es x;simp only [vO];unfold dN hU at ih ⊢;by_cases h1:iA e.path x.path<0
  ·have hf:=Dy (es:=es) h1
   generalize bO x.path (e :: es)=k at *;subst hf;rw [if_pos h1,<- ih];simp only [ai,List.getD_cons_succ,List.set_cons_succ,List.take_succ_cons,List.drop_succ_cons,Nat.add_lt_add_iff_right];split <;> simp
  ·have hf:=KU (es:=es) h1
   generalize bO x.path (e :: es)=k at *;subst hf;rw [if_neg h1];by_cases h2:iA e.path x.path=0
   ·rw [if_pos h2]
    simp [h2]
   ·rw [if_neg h2]
    simp [h2]
theorem qK:∀ (L:List GE)(x:GE),(vO L x).map GE.path=ku x.path (L.map GE.path)
 | [],x=>rfl
 | e :: es,x=>by
  simp only [vO,List.map_cons,ku];split
  ·simp [qK es x]
  ·split
   ·rfl
   ·rfl
theorem FC (L:List GE)(x:GE):(dN L x).map GE.path=ku x.path (L.map GE.path):=by rw [pB,qK]
abbrev xB (L:List GE):Prop:=pa (L.map GE.path)
theorem xB.join {L:List GE}(h:xB L)(x:GE):xB (dN L x):=by unfold xB;rw [FC];exact CG _ h
theorem yZ (p:List Int):∀ (L:List GE)(k:Nat),k<bO p L->iA (L.getD k default).path p<0
 | [],k,h=>by simp [bO] at h
 | e :: es,k,h=>by
  simp only [bO] at h;split at h
  ·next hlt =>
   cases k with
   | zero=>exact hlt
   | succ k=>exact yZ p es k I
  ·omega
theorem tJ {p:List Int}:∀ {L:List GE},xB L->∀ (k:Nat),bO p L<=k->k<L->¬ iA (L.getD k default).path p<0
 | [],_,k,_,h=>by simp at h
 | e :: es,hi,k,h1,h2=>by
  have hi':=List.pairwise_cons.1 hi;simp only [bO] at h1;split at h1
  ·cases k with
   | zero=>omega
   | succ k=>exact tJ hi'.2 k I jh
  ·next hn =>
   cases k with
   | zero=>exact hn
   | succ k =>
    intro hk;apply hn;have hk2:k<es:=jh
    have hm:es.getD k default ∈ es:=by
     have h3:es.getD k default=es[k]:=by simp [hk2]
     rw [h3];exact List.getElem_mem hk2
    exact qm (hi'.1 _ (List.mem_map.2 ⟨es.getD k default,hm,rfl⟩)) hk
theorem nN {p:List Int}{L:List GE}(hi:xB L){k:Nat}(hk:k<=L)(h1:∀ j,j<k->iA (L.getD j default).path p<0)(h2:∀ j,k<=j->j<L.length->¬ iA (L.getD j default).path p<0):k=bO p L:=by
 rcases Nat.lt_trichotomy k (bO p L) with h | h | h
 ·have:=mP p L
  exact absurd (yZ p L k h) (h2 k (ab _) I)
 ·exact h
 ·exact absurd (h1 _ h) (tJ hi _ (ab _) I)
theorem rq {L:List GE}(hi:xB L){i j:Nat}(hij:i<j)(hj:j<L):iA (L.getD i default).path (L.getD j default).path<0:=by
 have:=List.pairwise_iff_getElem.1 hi i j bh j5 hij;have h1:L.getD i default=L[i]:=by simp [show i<L by omega]
 have h2:L.getD j default=L[j]:=by simp [hj]
 rw [h1,h2]
 simpa [ltP] using this
theorem vP {L:List GE}(hi:xB L)(p:List Int){i j:Nat}(hij:i<=j)(hj:j<L)(h:iA (L.getD j default).path p<0):iA (L.getD i default).path p<0:=by
 rcases Nat.eq_or_lt_of_le hij with rfl | hij
 ·exact h
 ·exact qm (rq hi hij hj) h
theorem JB {p:List Int}{L:List GE}(h:hU p L=true):p ∈ L.map GE.path:=by
 unfold hU at h;simp only [Bool.and_eq_true,decide_eq_true_eq] at h;refine List.mem_map.2 ⟨L.getD (bO p L) default,?_,rF h.2⟩;have:L.getD (bO p L) default=L[bO p L]:=by simp [h.1]
 rw [this];exact List.getElem_mem _
theorem tK:∀ (L:List GE)(i k n:Nat),k<n->i+L<=n->jD i k L<n
 | [],i,k,n,h,_=>by simp only [jD];exact h
 | e :: es,i,k,n,h,h2=>by
  simp only [ai] at h2;simp only [jD];refine tK es (i+1) _ n ?_ I;split <;> omega
theorem uk {L:List GE}(h:0<L.length):oN L<L:=tK L 0 _ _ I I
theorem qL:∀ (L:List GE)(x:GE),(vO L x).length<=L+1
 | [],x=>by simp [vO]
 | e :: es,x=>by have:=qL es x;simp only [vO];split <;> (try split) <;> simp <;> omega
end Go.Proofs.YtkoeecdjijfjnaaGreatDoor
namespace Go.Proofs.YtkoeecdjijfjnaaGreatDoor
open Go.RowKit
structure EAt (w:World)(P:Nat->Prop)(e:GE)(A:Option Addr)(c:Nat):Prop where
 path:bL w P (.slice A e.path c) e.path
 kind:I64 e.kind
 at_:I64 e.at_
 code:I64 e.code
 hits:I64 e.hits
def bC (e:GE)(A:Option Addr)(c:Nat):List Value:=[.slice A e.path c,e.kind,e.at_,e.code,e.fresh,e.hits]
abbrev wF (e:GE)(A:Option Addr)(c:Nat):Value:=.agg #[.slice A e.path c,e.kind,e.at_,e.code,e.fresh,e.hits]
def REn (w:World)(P:Nat->Prop)(e:GE)(cs:List Value):Prop:=∃ A c,cs=bC e A c∧EAt w P e A c
section
variable {w w':World}{P Q:Nat->Prop}
theorem EAt.carry {e:GE}{A:Option Addr}{c:Nat}(h:EAt w P e A c)(hk:aB P w w')(hPQ:∀ b,b<w.heap.size->P b->Q b):EAt w' Q e A c:=⟨h.path.carry hk hPQ,h.kind,h.at_,h.code,h.hits⟩
theorem EAt.ext {e:GE}{A:Option Addr}{c:Nat}(h:EAt w P e A c)(hx:Ext w w'):EAt w' P e A c:=h.carry (aB.of_ext hx) (fun _ _ h=>h)
theorem fF:ll 6 REn:=⟨fun _ _ _ _ h=>by obtain ⟨A,c,rfl,_⟩:=h;rfl,fun _ _ _ _ _ _ h hk hPQ=>by obtain ⟨A,c,e,h⟩:=h;exact ⟨A,c,e,h.carry hk hPQ⟩⟩
end
def Ens (w:World)(P:Nat->Prop)(v:Value)(L:List GE):Prop:=Lst w P 6 (REn w P) v L
section
variable {w w':World}{P Q:Nat->Prop}
theorem Ens.carry {v:Value}{L:List GE}(h:Ens w P v L)(hk:aB P w w')(hPQ:∀ b,b<w.heap.size->P b->Q b):Ens w' Q v L:=Lst.carry h I hk hPQ (fun x _ cs hx=>fF.carry _ _ _ _ _ _ hx hk hPQ)
theorem Ens.ext {v:Value}{L:List GE}(h:Ens w P v L)(hx:Ext w w'):Ens w' P v L:=h.carry (aB.of_ext hx) (fun _ _ h=>h)
theorem Ens.get {A:Option Addr}{n c:Nat}{L:List GE}(h:Ens w P (.slice A n c) L){i:Nat}(hi:i<L):∃ b off A' d,A=some ↑(qt b off)∧P b∧EAt w P (L.getD i default) A' d∧(∀ j u,(bC (L.getD i default) A' d)[j]?=some u->qc w b (off+i*6+j) u):=by
 obtain ⟨b,off,c',cs,e,hb,_,_,⟨A',d,rfl,hv⟩,hc⟩:=Lst.at_ (fF.len w P) h default hi;injection e with e _ _;exact ⟨b,off,A',d,e,hb,hv,hc⟩
end
theorem cF {w:World}{g:Nat}{t:TypeId}{u0 u1 u2 u3 u4 u5:Value}(h:Blk w g t #[u0,u1,u2,u3,u4,u5]):qc w g 0 u0∧qc w g 1 u1∧qc w g 2 u2∧qc w g 3 u3∧qc w g 4 u4∧qc w g 5 u5:=⟨h.cell' 0 rfl,h.cell' 1 rfl,h.cell' 2 rfl,h.cell' 3 rfl,h.cell' 4 rfl,h.cell' 5 rfl⟩
theorem tQ (x y:GE)(A B:Option Addr)(c d:Nat)(P Q:Nat->Prop)(w:World)(hx:EAt w P x A c)(hy:EAt w Q y B d) :
  qg 51 #[wF x A c,wF y B d] w (dE (.int .i64 (iA x.path y.path)) w):=by
 have HX:=aYf hx;have HY:=aYf hy;clear hx hy;go_enter Tryz.func51,Tryz.ntmps51;go_wp2_with fail;refine (oL x.path y.path P Q _ _ _ (HX.out.path.ext (((aq _).alloc' _).alloc' _)) (HY.out.path.ext (((aq _).alloc' _).alloc' _))).mono ?_;rintro e w1 ⟨rfl,hx1⟩;have HX1:=aYf ((((aq w).alloc' _).alloc' _).trans' hx1);clear hx1;go_wp2_with fail;go_ret;exact ⟨rfl,HX1.out⟩
def J4 (l:List GE)(p:List Int)(W:World)(s9 s10:Value)(wr:World):Prop:=∃ i j:Nat,i<=j∧j<=l.length∧s9=↑i∧s10=↑j∧Ext W wr∧(∀ k,k<i->iA (l.getD k default).path p<0)∧(∀ k,j<=k->k<l.length->0<=iA (l.getD k default).path p)
theorem uq {l:List GE}{p:List Int}{i:Nat}(hinc:xB l)(hi:i<=l)(h1:∀ k,k<i->iA (l.getD k default).path p<0)(h2:∀ k,i<=k->k<l.length->¬ iA (l.getD k default).path p<0) :
  bO p l=i∧hU p l=(decide (i<l) && decide (iA (l.getD i default).path p=0)):=by
 have h:=nN hinc hi h1 h2;unfold hU;rw [<- h];exact ⟨rfl,rfl⟩
theorem zK (l:List GE)(x:GE)(A:Option Addr)(c:Nat)(P Q:Nat->Prop)(v:Value)(w:World)(hl:Ens w P v l)(hx:EAt w Q x A c)(hinc:xB l)(hlen:l.length<=1000000000) :
  qg 79 #[v,wF x A c,.func (.func 51) #[] #[]] w (zN (.int .i64 (bO x.path l)) (hU x.path l) w):=by
 have HL:=aYf hl;have HX:=aYf hx;have HI:=aYf hinc;obtain ⟨Al,cl,el,h1,h2⟩:=Lst.form hl;subst el;clear hl hx hinc;go_enter Tryz.func79,Tryz.ntmps79;go_wp2_with fail;have HE:=aYf ((aq w).alloc' (qk #[.slice A x.path c,x.kind,x.at_,x.code,x.fresh,x.hits] 80));have HB:=aYf (aw w 80 #[.slice A x.path c,x.kind,x.at_,x.code,x.fresh,x.hits]);generalize w.alloc (qk #[.slice A x.path c,x.kind,x.at_,x.code,x.fresh,x.hits] 80)=W at *;go_loopw [9,10] (fun a b wr=>J4 l x.path W a b wr) (fun a b _=>(intOf b).toNat - (intOf a).toNat)
 case atStart=>exact ⟨0,l.length,af _,ab _,rfl,rfl,aq _,fun k hk=>by omega,fun k hk hk'=>by omega⟩
 case round =>
  obtain ⟨i,j,hij,hj,rfl,rfl,hE,hlo,hhi⟩:=hrel;have HE1:=aYf hE;have HLO:=aYf hlo;have HHI:=aYf hhi;clear hE hlo hhi;by_cases hlt:i<j
  ·go_upto_region 5 with fail
   obtain ⟨h,hh⟩:∃ h:Nat,((i:Int)+(j:Int)) / 2=(h:Int):=⟨(((i:Int)+(j:Int)) / 2).toNat,I⟩;have h1':i<=h:=by omega
   have h2':h<j:=I;rw [hh];clear hh;have hhl:h<l.length:=by omega
   obtain ⟨b1,o1,A1,d1,rfl,-,hv1,hgc⟩:=(HL.out.ext (HE.out.trans' HE1.out)).get hhl;have HV1:=aYf hv1;have HMX:=aYf (HX.out.ext (HE.out.trans' HE1.out));obtain ⟨x0,x1,x2,x3,x4,x5⟩:=cF (HB.out.ext HE1.out);have HG:=aYf (show ∃ y,y=l.getD h default from ⟨_,rfl⟩);obtain ⟨y,hy⟩:=HG.out;have HY:=aYf hy;rw [<- hy] at HV1 hgc;have g10:=hgc 0 _ rfl;have g11:=hgc 1 _ rfl;have g12:=hgc 2 _ rfl;have g13:=hgc 3 _ rfl;have g14:=hgc 4 _ rfl;have g15:=hgc 5 _ rfl;rw [Nat.add_zero] at g10;clear hgc;clear hv1 hy HG;have hq0:(0:Int)<=(h:Int):=by omega
   have hq1:(h:Int)<(l:Int):=I
   go_still_tail 6,av;go_wp2_with fail;refine (tQ y x A1 A d1 c P Q _ (HV1.out.ext (aq _).drew') (HMX.out.ext (aq _).drew')).mono ?_;rintro e w2 ⟨rfl,hx2⟩;have HX2:=aYf (HE1.out.trans' ((aq _).drew'.trans' hx2));clear hx2;by_cases hz:iA y.path x.path<0
   ·have HZ:=aYf hz
    go_wp2_with fail;go_roundw
    case rel=>exact ⟨h+1,j,I,hj,by go_num,rfl,HX2.out,fun k hk=>vP HI.out x.path (show k<=h by omega) hhl (by rw [<- HY.out];exact HZ.out),HHI.out⟩
    case measure=>simp [intOf];omega
   ·have HZ:=aYf hz
    go_wp2_with fail;go_roundw
    case rel=>exact ⟨i,h,h1',I,rfl,rfl,HX2.out,HLO.out,fun k hk hk'=>Int.not_lt.1 (fun hc=>absurd (show iA y.path x.path<0 by rw [HY.out];exact vP HI.out x.path hk hk' hc) (Int.not_lt.2 HZ.out))⟩
    case measure=>simp [intOf];omega
  ·obtain rfl:i=j:=by omega
   have HF:=aYf (uq (p:=x.path) HI.out hj HLO.out (fun k hk hk'=>Int.not_lt.2 (HHI.out k hk hk')));clear HLO HHI;by_cases hn:i<l
   ·have hd:decide (i<l)=true:=aYi hn
    obtain ⟨b1,o1,A1,d1,rfl,-,hv1,hgc⟩:=(HL.out.ext (HE.out.trans' HE1.out)).get hn;have HF2:=aYf (show hU x.path l=decide (iA (l.getD i default).path x.path=0) by rw [HF.out.2,hd];rfl);have HMX:=aYf (HX.out.ext (HE.out.trans' HE1.out));have HV1:=aYf hv1;obtain ⟨x0,x1,x2,x3,x4,x5⟩:=cF (HB.out.ext HE1.out);generalize l.getD i default=y at *;have g10:=hgc 0 _ rfl;have g11:=hgc 1 _ rfl;have g12:=hgc 2 _ rfl;have g13:=hgc 3 _ rfl;have g14:=hgc 4 _ rfl;have g15:=hgc 5 _ rfl;rw [Nat.add_zero] at g10;clear hgc;have hq0:(0:Int)<=(i:Int):=by omega
    have hq1:(i:Int)<(l:Int):=I;clear hv1;go_upto_region 8 with fail
    go_region_held3 (fun w'=>qc w' b1 (o1+i*6) (.slice A1 y.path d1)∧qc w' b1 (o1+i*6+1) y.kind∧qc w' b1 (o1+i*6+2) y.at_∧qc w' b1 (o1+i*6+3) y.code∧qc w' b1 (o1+i*6+4) y.fresh∧qc w' b1 (o1+i*6+5) y.hits∧qc w' w 0 (.slice A x.path c)∧qc w' w 1 x.kind∧qc w' w 2 x.at_∧qc w' w 3 x.code∧qc w' w 4 x.fresh∧qc w' w 5 x.hits)
     (first
      | go_keep
      | (go_split_ands
         exact ⟨aA hx2 ‹_›,aA hx2 ‹_›,aA hx2 ‹_›,aA hx2 ‹_›,aA hx2 ‹_›,aA hx2 ‹_›,aA hx2 ‹_›,aA hx2 ‹_›,aA hx2 ‹_›,aA hx2 ‹_›,aA hx2 ‹_›,aA hx2 ‹_›⟩))
     (first
      | (go_at_call 51;refine (tQ y x A1 A d1 c P Q _ (HV1.out.ext (aq _).drew') (HMX.out.ext (aq _).drew')).mono ?_;rintro e w2 ⟨rfl,hx2⟩))
    have HX2:=aYf (HE1.out.trans' ((aq _).drew'.trans' hx2));clear hx2;go_wp2_with fail;go_ret2;exact ⟨il,HE.out.trans' HX2.out⟩
   ·have hd:decide (i<l)=false:=aYj hn
    have HF2:=aYf (show hU x.path l=false by rw [HF.out.2,hd];rfl);go_wp2_with fail;go_quiet (fail);go_wp2_with fail;go_ret2;exact ⟨il,HE.out.trans' (HE1.out.trans' (Ext.drewN _ _))⟩
theorem yH (l:List GE)(x:GE)(A:Option Addr)(c:Nat)(P Q:Nat->Prop)(v:Value)(w:World)(hl:Ens w P v l)(hx:EAt w Q x A c)(hinc:xB l)(hlen:l.length<=1000000000) :
  qg 50 #[v,wF x A c,.func (.func 51) #[] #[]] w (zN (.int .i64 (bO x.path l)) (hU x.path l) w):=by
 have HC:=aYf (fun (W:World) (h:Ext w W)=>zK l x A c P Q v W (hl.ext h) (hx.ext h) hinc hlen);obtain ⟨Al,cl,el,h1,h2⟩:=Lst.form hl;subst el;clear hl hx hinc;go_enter Tryz.func50,Tryz.ntmps50;go_wp2_with fail;refine (HC.out _ ((aq w).alloc' _)).mono ?_;rintro e w1 ⟨rfl,hx1⟩;have HX1:=aYf (((aq w).alloc' _).trans' hx1);clear hx1;go_wp2_with fail;go_ret2;exact ⟨rfl,HX1.out⟩
theorem DO (x:GE)(A:Option Addr)(c:Nat)(w:World)(h:x.path.length<=1000000000)(h2:c<=9223372036854775807)(h3:x.path<=c):qg 42 #[wF x A c] w (dE (.int .i64 (wE x)) w):=by
 have HW:=aYf (show wE x=2+(x.path:Int) from rfl);go_enter Tryz.func42,Tryz.ntmps42;go_wp2_with fail;go_ret;exact ⟨aK HW.out.symm,(aq _).alloc' _⟩
end Go.Proofs.YtkoeecdjijfjnaaGreatDoor
namespace Go.Proofs.YtkoeecdjijfjnaaGreatDoor
open Go.RowKit
structure CA where
 c:Nat
 w:Nat
 s:Nat
 l:Nat
 f:Nat
structure dM (t:List GN)(vn:Value)(b:Int)(L:List GE)(g:CA)(P:Nat->Prop)(ve:Value)(w:World):Prop where
 box:Blk w g.c 79 #[vn,qp g.w,↑b,ve]
 walk:dY t vn g.w g.s g.l g.f P w
 own:∃ xs,w.ownsRow 0 80 6 ve L xs∧RL (REn w P) L xs
 excl:∀ k,P k->k ≠ g.c∧some k ≠ ve.ownBlock
 ne:some g.c ≠ ve.ownBlock
 inc:xB L
 bI:0<=b∧b<=1099511627776
 few:L.length<=100000
 short:∀ e ∈ L,e.path.length<=1000000000
 good:aO t t
def CA.M (g:CA)(ve:Value):Nat->Prop:=fun k=>k=g.c∨some k=ve.ownBlock
section
variable {t:List GN}{vn:Value}{b:Int}{L:List GE}{g:CA}{P Q:Nat->Prop}{ve:Value}{w w':World}
theorem dM.carry (h:dM t vn b L g P ve w)(hk:aB (fun k=>P k∨g.M ve k) w w')(hPQ:∀ k,k<w.heap.size->P k->Q k)(hQ:∀ k,Q k->k ≠ g.c∧some k ≠ ve.ownBlock):dM t vn b L g Q ve w':=by
 obtain ⟨xs,h1,h2⟩:=h.own;have hkP:aB P w w':=fun k hk' hp=>hk k hk' (.inl hp)
 refine ⟨(hk _ h.box.lt (.inr (.inl rfl))).trans h.box,h.walk.carry hkP hPQ,⟨xs,⟨h1.1,?_⟩,h2.move fF hkP hPQ⟩,hQ,h.ne,h.inc,h.bI,h.few,h.short,h.good⟩;rcases h1.2 with h3 | ⟨g',cap,cur,h4,h5,h6,h7⟩
 ·exact .inl h3
 ·exact .inr ⟨g',cap,cur,h4,h5,(hk g' (Blk.lt (t:=80) h6) (.inr (.inr (by rw [h4];rfl)))).trans h6,h7⟩
theorem dM.ext (h:dM t vn b L g P ve w)(hx:Ext w w'):dM t vn b L g P ve w':=h.carry (aB.of_ext hx) (fun _ _ h=>h) h.excl
theorem dM.ens (h:dM t vn b L g P ve w):Ens w (fun k=>P k∨some k=ve.ownBlock) ve L:=by
 obtain ⟨xs,h1,h2⟩:=h.own;exact Lst.of_own h1 (h2.move fF (fun _ _ _=>rfl) (fun _ _ h=>.inl h)) (by have:=h.few;omega) (fun k hk=>.inr hk.symm)
theorem dM.cell3 (h:dM t vn b L g P ve w):qc w g.c 3 ve:=h.box.cell' 3 rfl
end
def CF (L:List GE)(W:World)(n i:Value)(wr:World):Prop:=∃ (k:Nat)(s:Int),k<=L∧i=↑k∧n=↑s∧Ext W wr∧0<=s∧s<=1000000002*k∧s+dK (L.drop k)=dK L
theorem rP (t:List GN)(vn:Value)(b:Int)(L:List GE)(g:CA)(P:Nat->Prop)(ve:Value)(w:World)(h:dM t vn b L g P ve w):qg 16 #[qp g.c] w (dE (.int .i64 (dK L)) w):=by
 have HE:=aYf h.ens;have c3:=h.cell3;have HSH:=aYf h.short;have hfw:=h.few;obtain ⟨Al,cl,el,h1,h2⟩:=Lst.form h.ens;subst el;clear h;go_enter Tryz.func16,Tryz.ntmps16;go_wp2_with fail;go_loopw [3,11] (fun n i wr=>CF L w n i wr) (fun _ i _=>L.length - (intOf i).toNat)
 case atStart=>exact ⟨0,0,af _,rfl,rfl,aq _,Int.le_refl _,I,U⟩
 case round =>
  obtain ⟨k,s,hk,rfl,rfl,hx,s0,s1,hs⟩:=hrel;have HX:=aYf hx;have HS:=aYf hs;clear hx hs;by_cases hlt:k<L
  ·obtain ⟨b1,o1,A1,d1,rfl,-,hv1,hgc⟩:=(HE.out.ext HX.out).get hlt
   have hpl:=HSH.out _ (aC (d:=default) hlt);have HD:=aYf (show s+(wE (L.getD k default)+dK (L.drop (k+1)))=dK L by rw [<- HS.out,aJ default hlt];rfl);generalize L.getD k default=y at *;have g10:=hgc 0 _ rfl;have g11:=hgc 1 _ rfl;have g12:=hgc 2 _ rfl;have g13:=hgc 3 _ rfl;have g14:=hgc 4 _ rfl;have g15:=hgc 5 _ rfl;rw [Nat.add_zero] at g10;have hle:=hv1.path.le;clear hgc hv1;go_wp2_with fail;refine (DO y A1 d1 _ I hle.2.2 hle.1).mono ?_;rintro e w2 ⟨rfl,hx2⟩;have HX2:=aYf (HX.out.trans' (((aq _).alloc' _).trans' hx2));have hw1:wE y=2+(y.path:Int):=rfl;have hw2:0<=wE y:=by omega
   have hw3:wE y<=1000000002:=I;clear hx2 hw1;generalize wE y=wy at *;go_wp2_with fail;go_roundw
   case rel=>exact ⟨k+1,s+wy,I,by go_num,rfl,HX2.out,I,I,by have:=HD.out;omega⟩
   case measure=>simp [intOf];omega
  ·have HF:=aYf (show dK L=s by have:=HS.out;rw [drop_nil I] at this;simp [dK] at this;omega)
   go_wp2_with fail;go_ret;exact ⟨aK HF.out.symm,HX.out⟩
theorem xr (t:List GN)(vn:Value)(b:Int)(L:List GE)(g:CA)(P Pp:Nat->Prop)(ve vp:Value)(path:List Int)(w:World)(h:dM t vn b L g P ve w)(hp:bL w Pp vp path):qg 43 #[qp g.c,vp] w (dE (hU path L) w):=by
 obtain ⟨Ap,cp,ep,hp1,hp2⟩:=hp.form;subst ep;have c3:=h.cell3;have hfw:=h.few;have hz:I64 0:=by unfold I64;omega
 have HC:=aYf (yH L ⟨path,0,0,0,false,0⟩ Ap cp _ Pp ve w h.ens ⟨hp,hz,hz,hz,hz⟩ h.inc I);obtain ⟨Al,cl,el,h1,h2⟩:=Lst.form h.ens;subst el;clear h hp;simp only at HC;generalize bO path L=fi at *;generalize hU path L=hb at *;go_enter Tryz.func43,Tryz.ntmps43;go_wp2_with fail;refine HC.out.mono ?_;rintro e w1 ⟨rfl,hx1⟩;have HX1:=aYf hx1;clear hx1;go_wp2_with fail;go_ret;exact ⟨rfl,HX1.out⟩
end Go.Proofs.YtkoeecdjijfjnaaGreatDoor
namespace Go.Proofs.YtkoeecdjijfjnaaGreatDoor
open Go.RowKit
theorem Tryz.info80:(Tryz.prog.info? 80).map (fun i=>(i.zero,i.size,i.bytes))=some (some (.agg #[qn,qz,qz,qz,false,qz]),6,64):=av
def zE:List Value:=[qn,qz,qz,qz,false,qz]
section
variable {P:Program}
theorem xE (w:World){o:Oper}{a:Act}{K:Act->World->Prop}{Q:Exit->Act->World->Prop}(s:Operand)(t:TypeId)
  (ho:o.op=.call { callee:=.builtin .clear,args:=#[s],argTypes:=#[t] })(v:Value)(hd:a.eval s=v){v':Value}{w':World}
  (hr:(Builtin.clear_ #[t] o.type #[v]).run P w=.ok v' w')(h:K (a.put o.dst v') w'):o.wp P a w K Q:=by
 unfold Oper.wp execOp;simp only [ho,resolve,invoke,builtin,Sem.run_bind,Sem.run_pure,Result.andThen_ok,List.map_toArray,List.map_cons,List.map_nil,hd,hr];exact h
theorem jK (w:World){ops:Array Oper}{rest:List Oper}{o:Oper}{a:Act}{Q:Exit->Act->World->Prop}(hgd:o.guard=none)(s:Operand)(t:TypeId)
  (ho:o.op=.call { callee:=.builtin .clear,args:=#[s],argTypes:=#[t] })(v:Value)(hd:a.eval s=v){v':Value}{w':World}
  (hr:(Builtin.clear_ #[t] o.type #[v]).run P w=.ok v' w')(h:wpList P ops Q rest (a.put o.dst v') w'):wpList P ops Q (o :: rest) a w :=
 wpList_plain hgd fun _ hK=>xE w s t ho v hd hr (hK _ _ h)
end
theorem sY (w:World)(ty:TypeId)(g o c:Nat)(cs:List Value)(hB:Blk w g 80 cs.toArray)(ho:o+6<=cs) :
  (Builtin.clear_ #[77] ty #[.slice (qt g o) 1 c]).run Tryz.prog w=.ok (.tuple #[]) (w.setCells g o zE):=by
 obtain ⟨i0,hi,hz0,hz1,hz2⟩:=info_parts Tryz.info80;have hst:=run_storeCells_cells (P:=Tryz.prog) g o zE 0 w (fun j hj=>by simp only [zE,ai,List.length_nil] at hj;rw [Nat.add_zero,hB.cell];simp;omega) (fun j hj=>by rw [Nat.add_zero];exact hB.frozen _) (by intro v hv;simp only [zE,ao,List.not_mem_nil,or_false] at hv;rcases hv with rfl | rfl | rfl | rfl | rfl | rfl <;> rfl);rw [Nat.add_zero] at hst;have hv:∀ w,(zeroValue 80).run Tryz.prog w=.ok (.agg #[qn,qz,qz,qz,false,qz]) w:=fun w=>by simp [zeroValue,typeInfo,hi,hz0]
 have hc:(Builtin.zeroCells (Value.agg #[qn,qz,qz,qz,false,qz]).cells 1).toList=zE:=av;simp [Builtin.clear_,run_underlying Tryz.underlying77,hv,hc,hst]
def J9 (g n cap i:Nat)(cur:List Value)(w:World)(e:Ending)(w':World):Prop:=e=.returned (.slice (qp g) (n - 1) cap) ∧
 ∃ cur':List Value,Blk w' g 80 cur'.toArray∧cur'.length=cap*6∧cur'.take ((n - 1)*6)=cur.take (i*6) ++ (cur.take (n*6)).drop ((i+1)*6)∧Fr (fun k=>k=g) w w'
theorem Lv (g n cap i:Nat)(cur:List Value)(w:World)(hB:Blk w g 80 cur.toArray)(hcl:cur=cap*6)(hn:n<=cap)(hi:i<n)(hnn:n<=100000)(hcap:cap<=9223372036854775807)(h1:∀ u ∈ cur.take (n*6),u.oneCell'=true) :
  qg 54 #[.slice (qp g) n cap,↑i,.int .i64 ((i:Int)+1)] w (J9 g n cap i cur w):=by
 obtain ⟨m,rfl⟩:∃ m,n=i+1+m:=⟨n - (i+1),I⟩;have HB:=aYf hB;have HCL:=aYf hcl;obtain ⟨i0,hi0,hz0,hz1,hz2⟩:=info_parts Tryz.info80;have HI:=aYf hi0;obtain ⟨news,hnews⟩:∃ news,news=(cur.take ((i+1+m)*6)).drop ((i+1)*6):=⟨_,rfl⟩;have HNE:=aYf hnews;have hnl:news.length=m*6:=by rw [hnews];simp only [am,ak];omega
 have HNL:=aYf hnl;have HN1:=aYf (show ∀ u ∈ news,u.oneCell'=true from fun u hu=>h1 u (by rw [hnews] at hu;exact List.mem_of_mem_drop hu))
 have HNC:=aYf (show ∀ j u,news[j]?=some u->w.cell? (qt g ((i+1)*6+j))=some u from fun j u hu=>by
  rw [hnews,List.getElem?_drop,List.getElem?_take] at hu;split at hu
  ·rw [hB.cell];simpa using hu
  ·cases hu)
 clear hB hcl hi0 hnews hnl h1;have t1:((i:Int) == (i:Int)+1)=false:=aYg I;have hi1:(0:Int)<=(i:Int):=by omega
 have hi2:(i:Int)+1<=((i+1+m:Nat):Int):=I;have hi3:((i:Int)+1).toNat=i+1:=I;have hi4:(i:Int)<=(i:Int)+1:=I;have hi5:(0:Int)<=(i:Int)+1:=I;have hic:i<=cap:=I;have hi6:(i:Int)+1<=(i:Int)+1+(m:Int):=I;have hsub:i+1+m - (i+1)=m:=I
 have hcells:∀ (A:Addr),(A=↑(qt g ((i+1)*6))∨m=0)->∀ j u,news[j]?=some u->w.drew.cell? (A.add j)=some u:=fun A hA j u hu=>by
  rcases hA with rfl | hA
  ·rw [dP];exact HNC.out j u hu
  ·have h0:=HNL.out
   rw [hA] at h0;have:news=[]:=List.eq_nil_of_length_eq_zero I;rw [this] at hu;simp at hu
 have hspare:∀ j,j<news.length->(w.drew.cell? (qt g (0+i*6+j))).isSome=true∧w.drew.frozen? (qt g (0+i*6+j))=false:=fun j hj=>by
  have h1:=HNL.out;have h2:=HCL.out;obtain ⟨y,hy⟩:=HB.out.some_ (i:=0+i*6+j) I;exact ⟨by rw [fK,hy];rfl,HB.out.frozen _⟩
 have HCE:=aYf hcells;have HSP:=aYf hspare;have hB1:=aF news (w:=w.drew) (i*6) HB.out.drew (by have:=HNL.out;have:=HCL.out;omega);have HB1:=aYf hB1;have HL1:=aYf (show (cur.take (i*6) ++ news ++ cur.drop (i*6+news.length)).length=cap*6 by have h1:=HNL.out;have h2:=HCL.out;simp only [aa,ak,am];omega);clear hcells hspare hB1;by_cases hc:cap=i+1
 ·obtain rfl:m=0:=by omega
  subst hc;have HCE0:=aYf (HCE.out (qp g) (.inr rfl));have HNLZ:=aYf (show news.length=0*6 from HNL.out);have HLZ:=aYf HL1.out;clear HCE HNL HL1 hsub;go_enter Tryz.func54,Tryz.ntmps54;go_wp2_with fail;go_region_law (refine step_append_room rfl (.tmp 22) (.tmp 25) 77 rfl 80 i0 6 Tryz.underlying77 HI.out hz1 g 0 i (i+1) (by simp [Act.eval,Act.put]) (qp g) 0 0 news (by simp [Act.eval,Act.put]) (by have:=HNLZ.out;omega) HCE0.out HN1.out (by omega) HSP.out ?_)
  (try rw [Nat.zero_add])
  have HFR:=aYf (show Fr (fun k=>k=g) w (w.drew.setCells g (i*6) news) from ((au _ w).drew).setCells news _ (.inl rfl));generalize w.drew.setCells g (i*6) news=W1 at *;have HCLR:=aYf (fun ty c=>sY W1 ty g (i*6) c _ HB1.out (by rw [HLZ.out];omega));have h7:¬ i+1=i:=by omega
  have h9:(i:Int)+1<=((i+1:Nat):Int):=I;have h10:i+1 - i=1:=I;go_wp2_with (with_reducible refine jK _ rfl (.tmp 31) 77 rfl (.slice (qt g (i*6)) 1 1) rfl (HCLR.out _ _) ?_);go_ret;have hB2:=aF zE (w:=W1) (i*6) HB1.out (by rw [HLZ.out];show i*6+6<=(i+1)*6;omega);refine ⟨by rw [show i+1+0 - 1=i by omega];rfl,_,hB2,?_,?_,HFR.out.setCells zE _ (.inl rfl)⟩
  ·have h1:=HLZ.out
   generalize cur.take (i*6) ++ news ++ cur.drop (i*6+news.length)=c1 at *;simp only [aa,ak,am,zE,ai,List.length_nil];omega
  ·have h2:=HNLZ.out
   have h3:=HCL.out;have h4:news=[]:=List.eq_nil_of_length_eq_zero I;have h5:=HNE.out;rw [<- h5,h4];simp only [List.append_nil,List.length_nil,Nat.add_zero,List.take_append_drop];rw [show i+1 - 1=i by omega,ah,List.take_left' fd]
 ·have hc':¬ (cap=i):=by omega
  go_enter Tryz.func54,Tryz.ntmps54;go_wp2_with fail;go_region_law (refine step_append_room rfl (.tmp 22) (.tmp 25) 77 rfl 80 i0 6 Tryz.underlying77 HI.out hz1 g 0 i cap (by simp [Act.eval,Act.put]) (qt g ((i+1)*6)) m (cap - (i+1)) news (by simp [Act.eval,Act.put]) HNL.out (HCE.out _ (.inl rfl)) HN1.out (by omega) HSP.out ?_)
  (try rw [Nat.zero_add])
  have HFR:=aYf (show Fr (fun k=>k=g) w (w.drew.setCells g (i*6) news) from ((au _ w).drew).setCells news _ (.inl rfl));generalize w.drew.setCells g (i*6) news=W1 at *;have HCLR:=aYf (fun ty c=>sY W1 ty g ((i+m)*6) c _ HB1.out (by have h1:=HL1.out;omega));have h7:¬ cap=i+m:=by omega
  have h8:(i:Int)+(m:Int)<=(i:Int)+1+(m:Int):=I;have h9:(i:Int)+1+(m:Int)<=(cap:Int):=I;have h10:i+1+m - (i+m)=1:=I;have h11:(0:Int)<=(i:Int)+(m:Int):=I;have h12:((i:Int)+1+(m:Int)).toNat=i+1+m:=I;have h13:((i:Int)+(m:Int)).toNat=i+m:=I;go_wp2_with (with_reducible refine jK _ rfl (.tmp 31) 77 rfl (.slice (qt g ((i+m)*6)) 1 (cap - (i+m))) rfl (HCLR.out _ _) ?_);go_ret;have hB2:=aF zE (w:=W1) ((i+m)*6) HB1.out (by rw [HL1.out];show (i+m)*6+6<=cap*6;omega);refine ⟨by rw [show i+1+m - 1=i+m by omega];rfl,_,hB2,?_,?_,HFR.out.setCells zE _ (.inl rfl)⟩
  ·have h1:=HL1.out
   generalize cur.take (i*6) ++ news ++ cur.drop (i*6+news.length)=c1 at *;simp only [aa,ak,am,zE,ai,List.length_nil];omega
  ·have h1:=HL1.out
   have h2:=HNL.out;have h3:=HCL.out;rw [show i+1+m - 1=i+m by omega,ah,List.take_left' fd];rw [List.take_append_of_le_length (by rw [aa,ak];omega),an (by rw [aa,ak];omega),HNE.out]
end Go.Proofs.YtkoeecdjijfjnaaGreatDoor
namespace Go.Proofs.YtkoeecdjijfjnaaGreatDoor
open Go.RowKit
section
variable {P:Program}
theorem nT (w:World){o:Oper}{a:Act}{K:Act->World->Prop}{Q:Exit->Act->World->Prop}(d s:Operand)(t t':TypeId)
  (ho:o.op=.call { callee:=.builtin .copy,args:=#[d,s],argTypes:=#[t,t'] })(v u:Value)(hd:a.eval d=v)(hs:a.eval s=u){v':Value}{w':World}
  (hr:(Builtin.copy_ #[t,t'] o.type #[v,u]).run P w=.ok v' w')(h:K (a.put o.dst v') w'):o.wp P a w K Q:=by
 unfold Oper.wp execOp;simp only [ho,resolve,invoke,builtin,Sem.run_bind,Sem.run_pure,Result.andThen_ok,List.map_toArray,List.map_cons,List.map_nil,hd,hs,hr];exact h
theorem jJ (w:World){ops:Array Oper}{rest:List Oper}{o:Oper}{a:Act}{Q:Exit->Act->World->Prop}(hgd:o.guard=none)(d s:Operand)(t t':TypeId)
  (ho:o.op=.call { callee:=.builtin .copy,args:=#[d,s],argTypes:=#[t,t'] })(v u:Value)(hd:a.eval d=v)(hs:a.eval s=u){v':Value}{w':World}
  (hr:(Builtin.copy_ #[t,t'] o.type #[v,u]).run P w=.ok v' w')(h:wpList P ops Q rest (a.put o.dst v') w'):wpList P ops Q (o :: rest) a w :=
 wpList_plain hgd fun _ hK=>nT w d s t t' ho v u hd hs hr (hK _ _ h)
theorem kZ {ops:Array Oper}{o:Oper}{a:Act}{w:World}{K:Act->World->Prop}{Q:Exit->Act->World->Prop}{E:Prop}
  (hg:o.guard=none)(d x:Operand)(dT sT:TypeId)(hop:o.op=Op.call { callee:=Callee.builtin Builtin.copy,args:=#[d,x],argTypes:=#[dT,sT] })
  (v u:Value)(hd:a.eval d=v)(hx:a.eval x=u){v':Value}{w':World}(hr:(Builtin.copy_ #[dT,sT] o.type #[v,u]).run P w=.ok v' w')(hK:K (a.put o.dst v') w') :
  if Region.wanted o (yielded ops a.tmps)=true then Oper.wp P o a w K Q else E:=by
 have hw:Region.wanted o (yielded ops a.tmps)=true:=dy;rw [if_pos hw];exact nT w d x dT sT hop v u hd hx hr hK
end
theorem mB (w:World)(ty:TypeId)(b o dLen dCap:Nat)(a:Addr)(sLen sCap k:Nat)(cs cur:List Value)(hB:Blk w b 80 cur.toArray)(hn:k=Nat.min sLen dLen)(hl:cs=k*6)
  (hsrc:∀ j v,cs[j]?=some v->w.cell? (a.add j)=some v)(ho:o+k*6<=cur)(h1:∀ v ∈ cs,v.oneCell'=true) :
  (Builtin.copy_ #[77,77] ty #[.slice (qt b o) dLen dCap,.slice (some a) sLen sCap]).run Tryz.prog w=.ok (goInt k) (w.setCells b o cs):=by
 obtain ⟨i0,hi,hz0,hz1,hz2⟩:=info_parts Tryz.info80;have hf:=run_firstCells_some (P:=Tryz.prog) w 6 k a sLen sCap cs hl hsrc;have hst:=run_storeCells_cells (P:=Tryz.prog) b o cs 0 w (fun j hj=>by rw [Nat.add_zero,hB.cell];simp;omega) (fun j hj=>by rw [Nat.add_zero];exact hB.frozen _) h1;rw [Nat.add_zero] at hst;simp [Builtin.copy_,run_underlying Tryz.underlying77,Builtin.lenOf,sizeOf,typeInfo,hi,hz1,<- hn,hf,hst]
end Go.Proofs.YtkoeecdjijfjnaaGreatDoor
namespace Go.Proofs.YtkoeecdjijfjnaaGreatDoor
open Go.RowKit
def Ja (g n cap i:Nat)(cur us:List Value)(w:World)(e:Ending)(w':World):Prop:=e=.returned (.slice (qp g) (n+1) cap) ∧
 ∃ cur':List Value,Blk w' g 80 cur'.toArray∧cur'.length=cap*6∧cur'.take ((n+1)*6)=cur.take (i*6) ++ us ++ (cur.take (n*6)).drop (i*6)∧Fr (fun k=>k=g) w w'
theorem Mx {cur us:List Value}{i n cap:Nat}(hu:us.length=6)(hi:i<n)(hn:n<cap)(hcl:cur=cap*6)(c1 c2:List Value)
  (h1:c1=cur.take ((i+1)*6) ++ (cur.take (n*6)).drop (i*6) ++ cur.drop ((i+1)*6+(n - i)*6))
  (h2:c2=c1.take (i*6) ++ us ++ c1.drop (i*6+6)) :
  c2.length=cap*6∧c2.take ((n+1)*6)=cur.take (i*6) ++ us ++ (cur.take (n*6)).drop (i*6):=by
 have hs:((cur.take (n*6)).drop (i*6))=(n - i)*6:=by simp only [am,ak];omega
 have hL:c1=cap*6:=by rw [h1];simp only [aa,hs,ak,am];omega
 have ht:c1.take (i*6)=cur.take (i*6):=by
  rw [h1,ah,List.take_append_of_le_length fd,List.take_take,Nat.min_eq_left I]
 have hd:c1.drop (i*6+6)=(cur.take (n*6)).drop (i*6) ++ cur.drop ((i+1)*6+(n - i)*6):=by
  rw [h1,ah,List.drop_left' fd]
 refine ⟨by rw [h2];simp only [aa,ak,am,hu];omega,?_⟩;rw [h2,ht,hd,<- ah,List.take_left' (by simp only [aa,hs,ak,hu];omega)]
theorem J5 (g n cap i vb vc:Nat)(tv:TypeId)(cur us:List Value)(w:World)(hB:Blk w g 80 cur.toArray)(hV:Blk w vb tv us.toArray)(hne:vb ≠ g)(hu:us.length=6)(hcl:cur=cap*6)(hn:n<cap)(hi:i<n)(hnn:n<=100000)(hcap:cap<=9223372036854775807)
  (h1:∀ u ∈ cur.take (n*6),u.oneCell'=true)(h1u:∀ u ∈ us,u.oneCell'=true) :
  qg 52 #[.slice (qp g) n cap,↑i,.slice (qp vb) 1 vc] w (Ja g n cap i cur us w):=by
 obtain ⟨i0,hi0,hz0,hz1,hz2⟩:=info_parts Tryz.info80;have hz:∀ w,(Go.sizeOf 80).run Tryz.prog w=.ok 6 w:=fun w=>by simp [Go.sizeOf,typeInfo,hi0,hz1]
 have hov:∀ lb cb,(callFunc 81 #[.slice (qp vb) 1 vc,.slice (qt g ((i+1)*6)) lb cb]).run Tryz.prog w=.ok (.value false) w:=fun lb cb=>by
  rw [run_callFunc_extern Tryz.func81 av av av (e:=Extern.SlicesOverlaps.overlaps #[77,77] #[4]) av,
   Lib.run_overlaps_apart w 77 4 80 Tryz.underlying77 6 hz (qp vb) (qt g ((i+1)*6)) 1 vc lb cb hne tv 80 us.toArray.size cur.toArray.size (by unfold Blk at hV;simp [World.shape?,hV]) (by unfold Blk at hB;simp [World.shape?,hB]) (by simp only [List.size_toArray];omega) (hV.frozen _) (hV.frozen _)]
  rfl
 obtain ⟨cs,hcs⟩:∃ cs,cs=(cur.take (n*6)).drop (i*6):=⟨_,rfl⟩;have hsl:cs.length=(n - i)*6:=by rw [hcs];simp only [am,ak];omega
 have hcp1:∀ ty dc sc,(Builtin.copy_ #[77,77] ty #[.slice (qt g ((i+1)*6)) (n+1 - (i+1)) dc,.slice (qt g (i*6)) (n+1 - i) sc]).run Tryz.prog w.drew=.ok (goInt ((n - i:Nat):Int)) (w.drew.setCells g ((i+1)*6) cs):=fun ty dc sc =>
  mB w.drew ty g ((i+1)*6) _ dc (qt g (i*6)) _ sc (n - i) cs cur hB.drew fc hsl (fun j v hj=>by
   rw [dP,fK,hB.cell];rw [hcs,List.getElem?_drop,List.getElem?_take] at hj;split at hj
   ·simpa using hj
   ·cases hj) I (fun v hv=>h1 v (by rw [hcs] at hv;exact List.mem_of_mem_drop hv))
 have hB1:=aF cs (w:=w.drew) ((i+1)*6) hB.drew I;have hV1:Blk (w.drew.setCells g ((i+1)*6) cs) vb tv us.toArray:=Blk.farCells hne cs _ hV.drew;have hF1:Fr (fun k=>k=g) w (w.drew.setCells g ((i+1)*6) cs):=((au _ w).drew).setCells cs _ (.inl rfl);rw [hsl] at hB1;obtain ⟨c1,hc1⟩:∃ c1,c1=cur.take ((i+1)*6) ++ cs ++ cur.drop ((i+1)*6+(n - i)*6):=⟨_,rfl⟩;rw [<- hc1] at hB1;have hl1:c1.length=cap*6:=by rw [hc1];simp only [aa,ak,am];omega
 have hcp2:∀ ty dc,(Builtin.copy_ #[77,77] ty #[.slice (qt g (i*6)) (n+1 - i) dc,.slice (qp vb) 1 vc]).run Tryz.prog (w.drew.setCells g ((i+1)*6) cs)=.ok (goInt ((1:Nat):Int)) ((w.drew.setCells g ((i+1)*6) cs).setCells g (i*6) us):=fun ty dc =>
  mB _ ty g (i*6) _ dc (qp vb) _ vc 1 us c1 hB1 fc I (fun j v hj=>by
   rw [dP,Nat.zero_add];exact hV1.cell' j j5) I h1u
 have hB2:=aF us (w:=w.drew.setCells g ((i+1)*6) cs) (i*6) hB1 I;have hF2:=hF1.setCells us (i*6) (.inl rfl);have hfin:=Mx hu hi hn hcl c1 _ (by rw [hc1,hcs]) rfl;have HB2:=aYf hB2;have HF2:=aYf hF2;have HFIN:=aYf hfin;have HC1:=aYf hcp1;have HC2:=aYf hcp2;have HOV:=aYf hov;have HU:=aYf hu;clear hB hV hne hcl h1 h1u hi0 hz0 hz1 hz2 hz hov hcs hsl hcp1 hcp2 hB1 hV1 hF1 hc1 hl1 hB2 hF2 hfin hu;have hi1:(0:Int)<=(i:Int):=by omega
 have hi2:(i:Int)<=(n:Int):=I;have hi3:((i:Int)+1).toNat=i+1:=I;have hi4:((n:Int)+1).toNat=n+1:=I;have hi6:(i:Int)<=(n:Int)+1:=I;have hi7:¬ (cap=i):=I;have hi8:¬ (cap=i+1):=I;have hi9:(0:Int)<=(i:Int)+1:=I;have hi10:(i:Int)+1<=(n:Int)+1:=I;go_enter Tryz.func52,Tryz.ntmps52;go_wp2_with (simp only [HOV.out]);have hw1:IntKind.i64.wrap ((i:Int)+1)=(i:Int)+1:=by rw [IntKind.wrap_i64];omega
 go_region_law (refine kZ rfl (.tmp 73) (.tmp 76) 77 77 rfl (.slice (qt g ((i+1)*6)) (n+1 - (i+1)) (cap - (i+1))) (.slice (qt g (i*6)) (n+1 - i) (cap - i)) (by simp [Act.eval,Act.put]) (by simp [Act.eval,Act.put]) (HC1.out _ _ _) ?_);clear hw1;generalize w.drew.setCells g ((i+1)*6) cs=W1 at *;go_wp2_with (with_reducible refine jJ _ rfl (.tmp 80) (.tmp 81) 77 77 rfl (.slice (qt g (i*6)) (n+1 - i) (cap - i)) (.slice (qp vb) 1 vc) rfl rfl (HC2.out _ _) ?_);go_ret;have h:=HB2.out;rw [HU.out] at h;exact ⟨rfl,_,h,HFIN.out.1,HFIN.out.2,HF2.out⟩
end Go.Proofs.YtkoeecdjijfjnaaGreatDoor
namespace Go.Proofs.YtkoeecdjijfjnaaGreatDoor
open Go.RowKit
def we (n i:Nat)(cur us:List Value)(w:World)(e:Ending)(w':World):Prop:=∃ cap,e=.returned (.slice (qp w) (n+1) cap)∧n+1<=cap∧cap<=maxLen ∧
 ∃ cur':List Value,Blk w' w 80 cur'.toArray∧cur'.length=cap*6∧cur'.take ((n+1)*6)=cur.take (i*6) ++ us ++ (cur.take (n*6)).drop (i*6)∧Ext w w'
theorem DI {row us cs pre:List Value}{i n cap:Nat}(hu:us.length=6)(hi:i<n)(hn:n<cap)(hrl:row=cap*6)(hp:row.take (i*6)=pre)(hpl:pre=i*6)(hs:cs=(n - i)*6)(c1 c2:List Value)
  (h1:c1=row.take (i*6) ++ us ++ row.drop (i*6+6))
  (h2:c2=c1.take ((i+1)*6) ++ cs ++ c1.drop ((i+1)*6+(n - i)*6)) :
  c1.length=cap*6∧c2=cap*6∧c2.take ((n+1)*6)=pre ++ us ++ cs:=by
 have hL:c1=cap*6:=by rw [h1];simp only [aa,hu,ak,am];omega
 have ht:c1.take ((i+1)*6)=pre ++ us:=by
  rw [h1,hp,List.take_left' jo]
 refine ⟨hL,by rw [h2];simp only [aa,ak,am,hs];omega,?_⟩;rw [h2,ht,List.take_left' (by simp only [aa,hs,hu];omega)]
theorem Gf (g n cap i vb vc:Nat)(tv:TypeId)(cur us:List Value)(w:World)(hB:Blk w g 80 cur.toArray)(hV:Blk w vb tv us.toArray)(hu:us.length=6)(hcl:cur=cap*6)(hn:n=cap)(hi:i<n)(hnn:n<=100000)
  (h1:∀ u ∈ cur.take (n*6),u.oneCell'=true)(h1u:∀ u ∈ us,u.oneCell'=true) :
  qg 52 #[.slice (qp g) n cap,↑i,.slice (qp vb) 1 vc] w (we n i cur us w):=by
 subst hn;obtain ⟨i0,hi0,hz0,hz1,hz2⟩:=info_parts Tryz.info80
 have hold:(Builtin.firstCells i0.size i (.slice (qp g) i n)).run Tryz.prog w.drew=.ok (cur.take (i*6)).toArray w.drew:=by
  rw [hz1]
  exact run_firstCells_some w.drew 6 i (qp g) i n (cur.take (i*6)) fd (fun j v hj=>by
   rw [dP,Nat.zero_add,fK,hB.cell];rw [List.getElem?_take] at hj;split at hj
   ·simpa using hj
   ·cases hj)
 have hkk:(n:Int)+1 - (i:Int)=((n+1 - i:Nat):Int):=I;have hik:i+(n+1 - i)=n+1:=I;have hrz:=fun ty=>Lib.run_append_grow_zeros w 77 3 ty 80 i0 _ .i64 .i64 Tryz.underlying77 Tryz.underlying3 hi0 hz0 (qp g) i n (cur.take (i*6)) hold (n+1 - i) I I I I fp (by rw [hz2,hik];exact growslice_fits I I)
 simp only [hik] at hrz;simp only [<- hkk] at hrz;have hGn:n+1<=grownCap w (n+1) n 80:=grownCap_ge w _ _ _;have hGm:grownCap w (n+1) n 80<=maxLen:=grownCap_le_maxLen w (n+1) n 80 du;generalize grownCap w (n+1) n 80=G at *;obtain ⟨row,hrow⟩:∃ row:List Value,row=((cur.take (i*6)).toArray ++ Builtin.zeroCells (Value.agg #[qn,qz,qz,qz,false,qz]).cells (n+1 - i) ++ Builtin.zeroCells (Value.agg #[qn,qz,qz,qz,false,qz]).cells (G - (n+1))).toList:=⟨_,rfl⟩;have hrow':((cur.take (i*6)).toArray ++ Builtin.zeroCells (Value.agg #[qn,qz,qz,qz,false,qz]).cells (n+1 - i) ++ Builtin.zeroCells (Value.agg #[qn,qz,qz,qz,false,qz]).cells (G - (n+1)))=row.toArray:=by rw [hrow]
 have hzl:∀ k,(Builtin.zeroCells (Value.agg #[qn,qz,qz,qz,false,qz]).cells k).size=k*6:=fun k=>by
  have h6:(Value.agg #[qn,qz,qz,qz,false,qz]).cells.size=6:=av;simp [Builtin.zeroCells,h6]
 have hrl:row=G*6:=by
  rw [hrow];simp only [Array.length_toList,Array.size_append,hzl,List.size_toArray,ak];omega
 have hrp:row.take (i*6)=cur.take (i*6):=by
  rw [hrow,Array.toList_append,Array.toList_append,ah,List.take_left' (by simp only [ak];omega)]
 rw [hrow'] at hrz;obtain ⟨W1,hW1⟩:∃ W1,W1=w.drew.alloc (qk row.toArray 80):=⟨_,rfl⟩;rw [<- hW1] at hrz;have hN:Blk W1 w 80 row.toArray:=by rw [hW1];exact aw w.drew 80 row.toArray
 have hE:Ext w W1:=by rw [hW1];exact ((aq w).drew').alloc' _
 clear hrow hrow' hW1 hzl hold hkk hik hi0 hz0 hz1 hz2;obtain ⟨cs,hcs⟩:∃ cs,cs=(cur.take (n*6)).drop (i*6):=⟨_,rfl⟩;have hsl:cs.length=(n - i)*6:=by rw [hcs];simp only [am,ak];omega
 have hgl:=hB.lt;have hvl:=hV.lt;have hBW:=hB.ext hE;have hVW:=hV.ext hE;obtain ⟨N,hNe⟩:∃ N,N=w.heap.size:=⟨_,rfl⟩;rw [<- hNe] at hN hrz hgl hvl
 have hcp1:∀ ty dc,(Builtin.copy_ #[77,77] ty #[.slice (qt N (i*6)) (n+1 - i) dc,.slice (qp vb) 1 vc]).run Tryz.prog W1=.ok (goInt ((1:Nat):Int)) (W1.setCells N (i*6) us):=fun ty dc =>
  mB W1 ty N (i*6) _ dc (qp vb) _ vc 1 us row hN fc I (fun j v hj=>by
   rw [dP,Nat.zero_add];exact hVW.cell' j j5) I h1u
 have hB1:=aF us (w:=W1) (i*6) hN I;rw [hu] at hB1;have hG1:Blk (W1.setCells N (i*6) us) g 80 cur.toArray:=Blk.farCells I us _ hBW;have hfin:=DI hu hi I hrl hrp fd hsl _ _ rfl rfl;obtain ⟨c1,hc1⟩:∃ c1,c1=row.take (i*6) ++ us ++ row.drop (i*6+6):=⟨_,rfl⟩;rw [<- hc1] at hB1 hfin;obtain ⟨W2,hW2⟩:∃ W2,W2=W1.setCells N (i*6) us:=⟨_,rfl⟩;have hF2:Fr (fun k=>k=N) w W2:=by rw [hW2];exact (ar hE).setCells us _ (.inl rfl)
 rw [<- hW2] at hcp1 hB1 hG1
 have hcp2:∀ ty dc sc,(Builtin.copy_ #[77,77] ty #[.slice (qt N ((i+1)*6)) (n+1 - (i+1)) dc,.slice (qt g (i*6)) (n - i) sc]).run Tryz.prog W2.drew=.ok (goInt ((n - i:Nat):Int)) (W2.drew.setCells N ((i+1)*6) cs):=fun ty dc sc =>
  mB W2.drew ty N ((i+1)*6) _ dc (qt g (i*6)) _ sc (n - i) cs c1 hB1.drew fc hsl (fun j v hj=>by
   rw [dP,fK,hG1.cell];rw [hcs,List.getElem?_drop,List.getElem?_take] at hj;split at hj
   ·simpa using hj
   ·cases hj) (by rw [hfin.1];omega) (fun v hv=>h1 v (by rw [hcs] at hv;exact List.mem_of_mem_drop hv))
 have hB2:=aF cs (w:=W2.drew) ((i+1)*6) hB1.drew (by rw [hfin.1];omega);rw [hsl] at hB2;have hF3:=(hF2.drew).setCells cs ((i+1)*6) (.inl rfl)
 have HRES:=aYf (show we n i cur us w (.returned (.slice (qp N) (n+1) G)) (W2.drew.setCells N ((i+1)*6) cs) from
  ⟨G,by rw [hNe],hGn,hGm,_,by rw [<- hNe];exact hB2,hfin.2.1,by rw [hfin.2.2,hcs],hF3.new_ext (fun k hk=>by omega)⟩)
 have HC1:=aYf hcp1;have HC2:=aYf hcp2;have HRZ:=aYf hrz;clear hB hV hu hcl h1 h1u hGm hrl hrp hrz hN hE hcs hsl hBW hVW hcp1 hcp2 hB1 hG1 hfin hc1 hW2 hF2 hB2 hF3 hNe;have hi1:(0:Int)<=(i:Int):=by omega
 have hi2:(i:Int)<=(n:Int):=I;have hi3:((i:Int)+1).toNat=i+1:=I;have hi5:(n:Int)<(n:Int)+1:=I;have hi6:(i:Int)<=(n:Int)+1:=I;have hi7:¬ (n=i):=I;have hi8:¬ (G=i+1):=I;have hi11:¬ (G=i):=I;have hi9:(0:Int)<=(i:Int)+1:=I;have hi10:(i:Int)+1<=(n:Int)+1:=I;go_enter Tryz.func52,Tryz.ntmps52;go_wp2_with (first | (at_builtin;refine Lib.wpList_append_run _ rfl _ _ _ _ rfl _ _ rfl rfl _ _ (HRZ.out _) ?_) | (with_reducible refine jJ _ rfl (.tmp 43) (.tmp 44) 77 77 rfl (.slice (qt N (i*6)) (n+1 - i) (G - i)) (.slice (qp vb) 1 vc) rfl rfl (HC1.out _ _) ?_));have hw1:IntKind.i64.wrap ((i:Int)+1)=(i:Int)+1:=by rw [IntKind.wrap_i64];omega
 go_region_law (refine kZ rfl (.tmp 50) (.tmp 53) 77 77 rfl (.slice (qt N ((i+1)*6)) (n+1 - (i+1)) (G - (i+1))) (.slice (qt g (i*6)) (n - i) (n - i)) (by simp [Act.eval,Act.put]) (by simp [Act.eval,Act.put]) (HC2.out _ _ _) ?_);clear hw1;go_wp2_with fail;go_ret;exact HRES.out
end Go.Proofs.YtkoeecdjijfjnaaGreatDoor
namespace Go.Proofs.YtkoeecdjijfjnaaGreatDoor
open Go.RowKit
def rp (ve:Value)(n i:Nat)(xs us:List Value)(w:World)(e:Ending)(w':World):Prop:=∃ v',e=.returned v'∧w'.ownsRow 0 80 6 v' (n+1) (xs.take (i*6) ++ us ++ xs.drop (i*6)) ∧
 Fr (fun k=>some k=ve.ownBlock) w w'∧(v'.ownBlock=ve.ownBlock∨v'.ownBlock=some w.heap.size)
theorem IX (ve:Value)(n vb vc:Nat)(tv:TypeId)(xs us:List Value)(w:World)(hO:w.ownsRow 0 80 6 ve n xs)(hV:Blk w vb tv us.toArray)(hu:us.length=6)(hnn:n<=100000)(h1u:∀ u ∈ us,u.oneCell'=true) :
  qg 52 #[ve,↑n,.slice (qp vb) 1 vc] w (rp ve n n xs us w):=by
 obtain ⟨i0,hi0,hz0,hz1,hz2⟩:=info_parts Tryz.info80;have hS:Sl w (fun k=>k=vb) 6 (qp vb) 1 us:=⟨I,fun _=>⟨vb,0,rfl,rfl,fun j u hj=>by rw [Nat.zero_add];exact hV.cell' j j5⟩⟩;have hxl:=hO.1;have hxt:xs.take (n*6)=xs:=an I;have hxd:xs.drop (n*6)=[]:=List.drop_eq_nil_of_le I;have HO:=aYf hO;have HS:=aYf hS;have HI:=aYf hi0;have H1:=aYf h1u;have HXT:=aYf hxt;have HXD:=aYf hxd;have hfin:∀ v' w',w'.ownsRow 0 80 6 v' (n+1) (xs ++ us)->Fr (fun k=>some k=ve.ownBlock) w w'->(v'.ownBlock=ve.ownBlock∨v'.ownBlock=some w.heap.size)->rp ve n n xs us w (.returned v') w':=fun v' w' a b c=>⟨v',rfl,by rw [hxt,hxd,List.append_nil];exact a,b,c⟩
 have HF:=aYf hfin
 obtain ⟨A,c,rfl,hA,hnc,hc63⟩:∃ A c,ve=.slice A n c∧(A=none->n=0∧c=0)∧n<=c∧c<=9223372036854775807:=by
  rcases hO.2 with ⟨h1,h2⟩ | ⟨g,cap,cur,h1,-,-,h4,h5,-⟩
  ·subst h2;exact ⟨none,0,h1,fun _=>⟨rfl,rfl⟩,ab _,I⟩
  ·exact ⟨_,cap,h1,fun h=>by simp at h,h4,ij⟩
 clear hO hV hu h1u hi0 hS hxl hxt hxd hfin;have t1:(0:Int)<=(n:Int):=by omega
 cases A with
 | none =>
  obtain ⟨rfl,rfl⟩:=hA rfl;go_enter Tryz.func52,Tryz.ntmps52;go_wp2_with (at_builtin;go_must (refine aS _ rfl (.tmp 23) (.tmp 24) 77 dd 0 80 i0 _ 6 64 Tryz.underlying77 HI.out hz0 hz1 hz2 av I qn 0 xs rfl HO.out (fun k=>k=vb) (qp vb) 1 vc us rfl HS.out H1.out I I I ?_);intro v1 w1 ho1 hb1 hc1;have HR:=aYf (HF.out v1 w1 ho1 hb1 hc1);clear ho1 hb1 hc1);go_ret;exact HR.out
 | some A =>
  by_cases hc:c=n
  ·subst hc
   go_enter Tryz.func52,Tryz.ntmps52;go_wp2_with (at_builtin;go_must (refine aS _ rfl (.tmp 23) (.tmp 24) 77 dd 0 80 i0 _ 6 64 Tryz.underlying77 HI.out hz0 hz1 hz2 av I (.slice (some A) c c) c xs rfl HO.out (fun k=>k=vb) (qp vb) 1 vc us rfl HS.out H1.out I I I ?_);intro v1 w1 ho1 hb1 hc1;have HR:=aYf (HF.out v1 w1 ho1 hb1 hc1);clear ho1 hb1 hc1);go_ret;exact HR.out
  ·go_enter Tryz.func52,Tryz.ntmps52
   go_wp2_with (at_builtin;go_must (refine aS _ rfl (.tmp 23) (.tmp 24) 77 dd 0 80 i0 _ 6 64 Tryz.underlying77 HI.out hz0 hz1 hz2 av I (.slice (some A) n c) n xs rfl HO.out (fun k=>k=vb) (qp vb) 1 vc us rfl HS.out H1.out I I I ?_);intro v1 w1 ho1 hb1 hc1;have HR:=aYf (HF.out v1 w1 ho1 hb1 hc1);clear ho1 hb1 hc1);go_ret;exact HR.out
theorem DZ (ve:Value)(n i vb vc:Nat)(tv:TypeId)(xs us:List Value)(w:World)(hO:w.ownsRow 0 80 6 ve n xs)(hV:Blk w vb tv us.toArray)(hne:some vb ≠ ve.ownBlock)(hu:us.length=6)(hi:i<=n)(hnn:n<=100000)
  (h1:∀ u ∈ xs,u.oneCell'=true)(h1u:∀ u ∈ us,u.oneCell'=true) :
  qg 52 #[ve,↑i,.slice (qp vb) 1 vc] w (rp ve n i xs us w):=by
 by_cases hin:i=n
 ·subst hin;exact IX ve i vb vc tv xs us w hO hV hu hnn h1u
 rcases hO with ⟨hxl,⟨h2,h3⟩ | ⟨g,cap,cur,rfl,-,h3,h4,h5,h6,h7⟩⟩
 ·omega
 have hB:Blk w g 80 cur.toList.toArray:=by unfold Blk;simpa using h3
 have hcl:cur.toList=cap*6:=j4;have hgv:vb ≠ g:=fun h=>hne (by simp [Value.ownBlock,h])
 have h63:cap<=9223372036854775807:=ij;have h1':∀ u ∈ cur.toList.take (n*6),u.oneCell'=true:=by rw [h7];exact h1
 have ht:cur.toList.take (i*6)=xs.take (i*6):=by rw [<- h7,List.take_take,Nat.min_eq_left I]
 have hlen:(xs.take (i*6) ++ us ++ xs.drop (i*6)).length=(n+1)*6:=by simp only [aa,ak,am];omega
 rcases Nat.lt_or_ge n cap with hc | hc
 ·refine (J5 g n cap i vb vc tv cur.toList us w hB hV hgv hu hcl hc I hnn h63 h1' h1u).mono ?_
  rintro e w' ⟨rfl,cur',hB',hl',ht',hF⟩;refine ⟨_,rfl,⟨hlen,.inr ⟨g,cap,cur'.toArray,rfl,af _,hB',I,h5,by simpa using hl',?_⟩⟩,?_,.inl rfl⟩
  ·show cur'.take ((n+1)*6)=_
   rw [ht',ht,h7]
  ·exact ⟨hF.os,hF.tape,hF.output,hF.size,fun k hk hm=>hF.block k hk (fun e=>hm (by simp [Value.ownBlock,e]))⟩
 ·refine (Gf g n cap i vb vc tv cur.toList us w hB hV hu hcl I I hnn h1' h1u).mono ?_
  rintro e w' ⟨cap',rfl,hc1,hc2,cur',hB',hl',ht',hE⟩;refine ⟨_,rfl,⟨hlen,.inr ⟨_,cap',cur'.toArray,rfl,af _,hB',hc1,hc2,by simpa using hl',?_⟩⟩,ar hE,.inr rfl⟩;show cur'.take ((n+1)*6)=_;rw [ht',ht,h7]
end Go.Proofs.YtkoeecdjijfjnaaGreatDoor
