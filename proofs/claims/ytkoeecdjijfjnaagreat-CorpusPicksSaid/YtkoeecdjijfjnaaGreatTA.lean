/- Contracts of functions. Conditions: none. -/
import Derived.Test.YtkoeecdjijfjnaaGreatO1
set_option maxRecDepth 100000
set_option maxHeartbeats 8000000
namespace Go.Proofs.YtkoeecdjijfjnaaGreat
open Go.RowKit
structure MAt (t:List GN)(vn:Value)(b:Int)(L:List GE)(m:Nat)(P:Nat->Prop)(ve:Value)(w:World):Prop where
 box:Blk w m 35 #[vn,↑b,ve]
 tree:Nds w P vn t
 own:∃ xs,w.ownsRow 0 60 6 ve L.length xs∧RL (REn w P) L xs
 excl:∀ k,P k->k ≠ m∧some k ≠ ve.ownBlock
 ne:some m ≠ ve.ownBlock
 inc:uW L
 bI:0<=b∧b<=1099511627776
 few:L.length<=100000
 short:∀ e ∈ L,e.path.length<=1000
 lt:∀ k,P k->k<w.heap.size
def mM (m:Nat)(ve:Value):Nat->Prop:=fun k=>k=m∨some k=ve.ownBlock
def dA (t:List GN)(vn:Value)(b:Int)(L':List GE)(m:Nat)(P:Nat->Prop)(ve:Value)(w w':World):Prop :=
 ∃ v',MAt t vn b L' m P v' w'∧Fr (mM m ve) w w'∧∀ k,v'.ownBlock=some k->ve.ownBlock=some k∨w.heap.size<=k
theorem aPf {w:World}{e:TypeId}{s base:Nat}{ve:Value}{n:Nat}{xs:List Value}(h:w.ownsRow base e s ve n xs){k:Nat}(hk:ve.ownBlock=some k):k<w.heap.size:=by
 rcases h.2 with ⟨rfl,_⟩ | ⟨G,cap,cur,rfl,_,hG,_⟩
 ·simp [Value.ownBlock] at hk
 ·simp [Value.ownBlock] at hk
  subst hk;exact Blk.lt (t:=e) hG
section
variable {t:List GN}{vn:Value}{b:Int}{L L':List GE}{m:Nat}{P Q Pp:Nat->Prop}{ve vp:Value}{w w' w1 w2:World}{path:List Int}
theorem MAt.carry (h:MAt t vn b L m P ve w)(hk:aB (fun k=>P k∨mM m ve k) w w')(hs:w.heap.size<=w'.heap.size):MAt t vn b L m P ve w':=by
 obtain ⟨xs,h1,h2⟩:=h.own;have hkP:aB P w w':=fun k hk' hp=>hk k hk' (.inl hp)
 refine ⟨(hk _ h.box.lt (.inr (.inl rfl))).trans h.box,h.tree.carry hkP (fun _ _ h=>h),⟨xs,⟨h1.1,?_⟩,h2.move fP hkP (fun _ _ h=>h)⟩,h.excl,h.ne,h.inc,h.bI,h.few,h.short,fun k hk'=>Nat.lt_of_lt_of_le (h.lt k hk') hs⟩;rcases h1.2 with h3 | ⟨g',cap,cur,h4,h5,h6,h7⟩
 ·exact .inl h3
 ·exact .inr ⟨g',cap,cur,h4,h5,(hk g' (Blk.lt (t:=60) h6) (.inr (.inr (by rw [h4];rfl)))).trans h6,h7⟩
theorem MAt.ext (h:MAt t vn b L m P ve w)(hx:Ext w w'):MAt t vn b L m P ve w':=h.carry (aB.of_ext hx) hx.size
theorem MAt.ens (h:MAt t vn b L m P ve w):Ens w (fun k=>P k∨some k=ve.ownBlock) ve L:=by
 obtain ⟨xs,h1,h2⟩:=h.own;exact Lst.of_own h1 (h2.move fP (fun _ _ _=>rfl) (fun _ _ h=>.inl h)) (by have:=h.few;omega) (fun k hk=>.inr hk.symm)
theorem MAt.cell0 (h:MAt t vn b L m P ve w):w.cell? ⟨m,0,none⟩=some vn:=h.box.cell' 0 rfl
theorem MAt.cell1 (h:MAt t vn b L m P ve w):w.cell? ⟨m,1,none⟩=some (↑b):=h.box.cell' 1 rfl
theorem MAt.cell2 (h:MAt t vn b L m P ve w):w.cell? ⟨m,2,none⟩=some ve:=h.box.cell' 2 rfl
theorem dA.of_ext (hx:Ext w w1)(h:dA t vn b L' m P ve w1 w2):dA t vn b L' m P ve w w2:=by
 obtain ⟨v',h1,h3,h4⟩:=h;have hs:=hx.size;exact ⟨v',h1,(Fr.of_ext hx).trans h3,fun k hk=>(h4 k hk).imp id (fun h=>by omega)⟩
theorem dA.ext (h:dA t vn b L' m P ve w w1)(hx:Ext w1 w2):dA t vn b L' m P ve w w2:=by
 obtain ⟨v',h1,h3,h4⟩:=h;exact ⟨v',h1.ext hx,h3.trans (Fr.of_ext hx),h4⟩
theorem dA.none (h:MAt t vn b L m P ve w)(hx:Ext w w1):dA t vn b L m P ve w w1:=⟨ve,h.ext hx,Fr.of_ext hx,fun _ h=>.inl h⟩
theorem aAx (hi:uW L){i:Nat}(h:i<L.length)(he:(L.getD i default).path=path):fT path L=true∧bB path L=i:=by
 have h1:=aA1 (p:=path) hi (Nat.le_of_lt h) (fun k hk=>he ▸ aEg hi hk h) (fun k hk hk'=>by
  rcases Nat.eq_or_lt_of_le hk with rfl | hk
  ·rw [he,qC];omega
  ·have:=aEg hi hk hk'
   rw [he] at this;have:=qB path (L.getD k default).path;omega)
 refine ⟨?_,h1.1⟩;rw [h1.2,he,qC];simp [h]
theorem aEq (h:∀ j,j<L.length->(L.getD j default).path ≠ path):fT path L=false:=by
 cases hh:fT path L with
 | false=>rfl
 | true =>
  obtain ⟨e,he,hp⟩:=List.mem_map.1 (aHd hh);obtain ⟨j,hj,rfl⟩:=List.getElem_of_mem he;exact absurd (by simpa [hj] using hp) (h j hj)
theorem dA.trans {v1:Value}{L1:List GE}(h1:Fr (mM m ve) w w1)(h2:∀ k,v1.ownBlock=some k->ve.ownBlock=some k∨w.heap.size<=k)(h:dA t vn b L' m P v1 w1 w2):dA t vn b L' m P ve w w2:=by
 obtain ⟨v',q1,q2,q3⟩:=h;have hs:=h1.size;refine ⟨v',q1,h1.trans_new (q2.mono (fun k hk=>?_)),fun k hk=>?_⟩
 ·rcases hk with hk | hk
  ·exact .inl (.inl hk)
  ·exact (h2 k hk.symm).imp (fun h=>.inr h.symm) id
 ·rcases q3 k hk with h | h
  ·exact h2 k h
  ·exact .inr U
def uA (p:List Int)(L:List GE):Int:=if fT p L then (bB p L:Int) else -1
theorem aEr (hi:uW L){i:Nat}(h:i<L.length)(he:(L.getD i default).path=path):uA path L=(i:Int):=by
 obtain ⟨h1,h2⟩:=aAx hi h he;unfold uA;rw [if_pos h1,h2]
theorem aCi (h:∀ j,j<L.length->(L.getD j default).path ≠ path):uA path L=-1:=by
 unfold uA;rw [if_neg (by rw [aEq h];simp)]
theorem wV:decide (0<=uA path L)=fT path L:=by
 unfold uA
 cases fT path L <;> simp
def aT9 (L:List GE)(p:List Int)(W:World)(i:Value)(wr:World):Prop:=∃ k:Nat,k<=L.length∧i=↑k∧Ext W wr∧∀ j,j<k->(L.getD j default).path ≠ p
theorem aAy (h:MAt t vn b L m P ve w)(hp:aU w Pp vp path):Calls Tryz.prog 20 #[.pointer (some ⟨m,0,none⟩),vp] w (dV (.int .i64 (uA path L)) w):=by
 obtain ⟨Ap,cp,ep,hp1,hp2⟩:=hp.form;subst ep;have HE:=aYl h.ens;have HP:=aYl hp;have HI:=aYl h.inc;have HC2:=aYl h.cell2;obtain ⟨Al,cl,el,h1,h2⟩:=Lst.form h.ens;subst el;clear h hp;go_enter Tryz.func20,Tryz.ntmps20;go_wp2_with fail;go_loopw [5] (fun i wr=>aT9 L path w i wr) (fun i _=>L.length - (intOf i).toNat)
 case atStart=>exact ⟨0,Nat.zero_le _,rfl,Ext.refl _,fun j hj=>by omega⟩
 case round =>
  obtain ⟨k,hk,rfl,hx,hno⟩:=hrel;have HX:=aYl hx;have HNO:=aYl hno;have c2r:=aA hx HC2.out;clear hx hno
  by_cases hlt:k<L.length
  ·obtain ⟨b1,o1,A1,d1,rfl,-,hv1,hgc⟩:=(HE.out.ext HX.out).get hlt
   obtain ⟨y,hy⟩:∃ y,y=L.getD k default:=⟨_,rfl⟩;have HY:=aYl hy;rw [<- hy] at hv1 hgc;have g0:=hgc 0 _ rfl;rw [Nat.add_zero] at g0;have HV:=aYl hv1.path;have HPP:=aYl (HP.out.ext HX.out);clear hgc hv1 hy
   by_cases hs:y.path=path
   ·have HS:=aYl hs
    have hd:decide (y.path=path)=true:=aYo hs;have HSI:=aYl (jQ _ _ _ _ _ _ _ HV.out HPP.out);rw [hd] at HSI;clear hs hd;go_wp2_with fail;refine HSI.out.mono ?_;rintro e w' ⟨rfl,n,rfl⟩;go_wp2_with fail;go_ret;exact ⟨aH (aEr HI.out hlt (by rw [<- HY.out];exact HS.out)).symm,HX.out.drewN' n⟩
   ·have HS:=aYl hs
    have hd:decide (y.path=path)=false:=aYp hs;have HSI:=aYl (jQ _ _ _ _ _ _ _ HV.out HPP.out);rw [hd] at HSI;clear hs hd;go_wp2_with fail;refine HSI.out.mono ?_;rintro e w' ⟨rfl,n,rfl⟩;go_wp2_with fail;go_roundw
    case rel =>
     refine ⟨k+1,U,by go_num,HX.out.drewN' n,fun j hj=>?_⟩;rcases Nat.lt_or_ge j k with h | h
     ·exact HNO.out j h
     ·obtain rfl:j=k:=by omega
      rw [<- HY.out];exact HS.out
    case measure=>simp [intOf];omega
  ·have HF:=aYl (aCi (path:=path) (L:=L) (fun j hj=>HNO.out j U))
   go_wp2_with fail;go_ret;exact ⟨aH HF.out.symm,HX.out⟩
theorem aB7 (h:MAt t vn b L m P ve w):Calls Tryz.prog 16 #[.pointer (some ⟨m,0,none⟩)] w (dV (.int .i64 (dF L)) w):=by
 have hfew:=h.few;have HE:=aYl h.ens;have HSH:=aYl h.short;have HC2:=aYl h.cell2;obtain ⟨Al,cl,el,h1,h2⟩:=Lst.form h.ens;subst el;clear h;go_enter Tryz.func16,Tryz.ntmps16;go_wp2_with fail;go_loopw [3,4] (fun n i wr=>aQ7 L w n i wr) (fun _ i _=>L.length - (intOf i).toNat)
 case atStart=>exact ⟨0,0,Nat.zero_le _,rfl,rfl,Ext.refl _,U,U,Y⟩
 case round =>
  obtain ⟨k,s,hk,rfl,rfl,hx,hs0,hs1,hs⟩:=hrel;have HX:=aYl hx;have HS:=aYl hs;have c2r:=aA hx HC2.out;clear hx hs
  by_cases hlt:k<L.length
  ·obtain ⟨b1,o1,A1,d1,rfl,-,hv1,hgc⟩:=(HE.out.ext HX.out).get hlt
   have hpl:=HSH.out _ (aF (d:=default) hlt);have HD:=aYl (show s+(wE (L.getD k default)+dF (L.drop (k+1)))=dF L by rw [<- HS.out,aG default hlt];rfl);generalize L.getD k default=y at *;have g0:=hgc 0 _ rfl;rw [Nat.add_zero] at g0;have hw1:wE y=2+(y.path.length:Int):=rfl;clear hgc hv1;go_wp2_with fail;go_roundw
   case rel=>exact ⟨k+1,s+2+(y.path.length:Int),U,by go_num,rfl,HX.out,U,U,by have:=HD.out;omega⟩
   case measure=>simp [intOf];omega
  ·have HF:=aYl (show dF L=s by have:=HS.out;rw [drop_nil U] at this;simp [dF] at this;omega)
   go_wp2_with fail;go_ret;exact ⟨aH HF.out.symm,HX.out⟩
end
theorem aB1 (k a c:Int)(w:World)(_:I64 k)(_:I64 a)(_:I64 c):Calls Tryz.prog 13 #[.agg #[↑k,↑a,↑c]] w (dV (aAg k a c) w):=by
 go_enter Tryz.func13,Tryz.ntmps13;go_wp2_with fail;have hB:=Blk.new' (w.alloc (.cells #[↑k,↑a,↑c] 41)) 46 #[↑k,↑a,↑c,.slice none 0 0,.slice none 0 0,.int .i64 0] (g:=w.heap.size+1) Y;have hX:Ext w ((w.alloc (.cells #[↑k,↑a,↑c] 41)).alloc (.cells #[↑k,↑a,↑c,.slice none 0 0,.slice none 0 0,.int .i64 0] 46)):=((Ext.refl w).alloc' _).alloc' _;generalize (w.alloc (.cells #[↑k,↑a,↑c] 41)).alloc (.cells #[↑k,↑a,↑c,.slice none 0 0,.slice none 0 0,.int .i64 0] 46)=W at *;obtain ⟨c0,c1,c2,c3,c4,c5⟩:=bY hB;exact bodyPost_ret (v:=aAg k a c) (by simp [results,Tryz.results13,go_sem,c0,c1,c2,c3,c4,c5]) rfl ⟨rfl,hX⟩
def aMn (v:Value)(k:Nat)(A:Option Addr)(c:Nat):Prop:=∀ (ρ:Operand->Value)(o:Oper)(w:World)(x y:Operand),o.op=.slice 33 x none (some y) none->ρ x=v->ρ y=↑(k:Int)->(execOp ρ o).run Tryz.prog w=.ok (.value (.slice A k c)) w
def aMo (v:Value)(k m:Nat)(A:Option Addr)(c:Nat):Prop:=∀ (ρ:Operand->Value)(o:Oper)(w:World)(x y:Operand),o.op=.slice 33 x (some y) none none->ρ x=v->ρ y=↑(k:Int)->(execOp ρ o).run Tryz.prog w=.ok (.value (.slice A m c)) w
theorem aIv {w:World}{base n k:Nat}{v:Value}{xs:List Value}(h:w.ownsRow base 60 6 v n xs)(hk:k<=n)(hn:n<=100000):∃ A c,aMn v k A c∧Sl w (fun b=>some b=v.ownBlock) 6 A k (xs.take (k*6)):=by
 obtain ⟨A,c,e,h1,h2,h3⟩:=Sl.of_own h;subst e;have h4:=(h3 (fun b=>some b=(Value.slice A n c).ownBlock) (fun b hb=>hb.symm)).take hk;rcases h.2 with ⟨e,e2⟩ | ⟨g,cap,cur,e,-⟩
 ·injection e with e1 _ e3
  subst e1 e2 e3;obtain rfl:k=0:=by omega
  refine ⟨none,0,?_,h4⟩;intro ρ o w x y ho hx hy;simp [execOp,ho,hx,hy,go_sem]
 ·injection e with e1 _ e3
  subst e1 e3;refine ⟨_,c,?_,h4⟩;intro ρ o w x y ho hx hy;have h5:(k:Int)<=(c:Int):=by omega
  simp [execOp,ho,hx,hy,go_sem,h5]
theorem aA2 {w:World}{base n k:Nat}{v:Value}{xs:List Value}(h:w.ownsRow base 60 6 v n xs)(hk:k<=n)(hn:n<=100000):∃ A c,aMo v k (n - k) A c∧Sl w (fun b=>some b=v.ownBlock) 6 A (n - k) (xs.drop (k*6)):=by
 obtain ⟨A,c,e,h1,h2,h3⟩:=Sl.of_own h;subst e;have h4:=h3 (fun b=>some b=(Value.slice A n c).ownBlock) (fun b hb=>hb.symm);have h0:Sl w (fun b=>some b=(Value.slice A n c).ownBlock) 6 A 0 []:=⟨rfl,fun h=>absurd h U⟩;rcases h.2 with ⟨e,e2⟩ | ⟨g,cap,cur,e,-⟩
 ·injection e with e1 _ e3
  subst e1 e2 e3;obtain rfl:k=0:=by omega
  refine ⟨none,0,?_,by simpa using h4⟩;intro ρ o w x y ho hx hy;simp [execOp,ho,hx,hy,go_sem]
 ·injection e with e1 _ e3
  subst e1 e3;have h5:(k:Int)<=(n:Int):=by omega
  by_cases hc:c=k
  ·obtain rfl:n=k:=by omega
   subst hc;refine ⟨some ⟨g,0,none⟩,0,?_,?_⟩
   ·intro ρ o w x y ho hx hy
    simp [execOp,ho,hx,hy,go_sem]
   ·rw [Nat.sub_self,show xs.drop (c*6)=[] from List.drop_eq_nil_of_le (by rw [h.1];exact Nat.le_refl _)]
    exact h0
  ·refine ⟨some ⟨g,k*6,none⟩,c - k,?_,?_⟩
   ·intro ρ o w x y ho hx hy
    simp [execOp,ho,hx,hy,go_sem,h5]
    try omega
   ·have h8:=h4.drop hk
    rwa [Nat.zero_add] at h8
section
variable {t:List GN}{vn:Value}{b:Int}{L L':List GE}{m:Nat}{P:Nat->Prop}{ve v':Value}{w W:World}{xs':List Value}
theorem REn.one:∀ {l:List GE}{xs:List Value},RL (REn w P) l xs->∀ u ∈ xs,u.oneCell'=true
 | [],xs,h,u,hu=>by simp only [RL] at h;subst h;simp at hu
 | e :: es,xs,h,u,hu=>by
  obtain ⟨c1,c2,rfl,⟨A,c,rfl,-⟩,h2⟩:=h;rcases List.mem_append.1 hu with hu | hu
  ·simp only [cD,List.mem_cons,List.not_mem_nil,or_false] at hu
   rcases hu with rfl | rfl | rfl | rfl | rfl | rfl <;> rfl
  ·exact REn.one h2 u hu
theorem MAt.replace (h:MAt t vn b L m P ve w)(hx:Ext w W)(ho:W.ownsRow w.heap.size 60 6 v' L'.length xs')(hr:RL (REn W P) L' xs')(hinc:uW L')(hfew:L'.length<=100000)(hsh:∀ e ∈ L',e.path.length<=1000):dA t vn b L' m P ve w (W.setCell ⟨m,2,none⟩ v'):=by
 have hm:=h.box.lt;have hbox:=(h.box.ext hx).set_ 2 v';have hfr:∀ k,k ≠ m->(W.setCell ⟨m,2,none⟩ v').heap[k]?=W.heap[k]?:=fun k hk=>Below.heap_setCell _ _ _ _ (fun e=>hk e)
 have hF:Fr (mM m ve) w (W.setCell ⟨m,2,none⟩ v'):=(Fr.of_ext hx).setCell (p:=⟨m,2,none⟩) (.inl (.inl rfl)) v';have hge:∀ k,v'.ownBlock=some k->w.heap.size<=k:=fun k hk=>ho.block_ge hk
 have hne:some m ≠ v'.ownBlock:=fun e=>by have:=hge m e.symm;omega
 have hkP:aB P W (W.setCell ⟨m,2,none⟩ v'):=fun k _ hp=>hfr k (h.excl k hp).1
 have ho':(W.setCell ⟨m,2,none⟩ v').ownsRow 0 60 6 v' L'.length xs':=by
  refine ⟨ho.1,?_⟩;rcases ho.2 with h3 | ⟨G,cap,cur,h4,h5,h6,h7⟩
  ·exact .inl h3
  ·exact .inr ⟨G,cap,cur,h4,Nat.zero_le _,(hfr G (fun e=>hne (by rw [h4,<- e];rfl))).trans h6,h7⟩
 have hsz:=hF.size;generalize W.setCell ⟨m,2,none⟩ v'=W3 at *;refine ⟨v',⟨hbox,(h.tree.ext hx).carry hkP (fun _ _ h=>h),⟨xs',ho',hr.move fP hkP (fun _ _ h=>h)⟩,?_,hne,hinc,h.bI,hfew,hsh,fun k hk=>Nat.lt_of_lt_of_le (h.lt k hk) hsz⟩,hF,?_⟩
 ·intro k hk
  exact ⟨(h.excl k hk).1,fun e=>by have:=hge k e.symm;have:=h.lt k hk;omega⟩
 ·exact fun k hk=>.inr (hge k hk)
theorem MAt.touch (x:GE)(hh:fT x.path L=true)(h:MAt t vn b L m P ve w) :
  ∃ G cap,ve=.slice (some ⟨G,0,none⟩) L.length cap∧bB x.path L<L.length∧m ≠ G∧∃ A c,EAt w P (L.getD (bB x.path L) default) A c ∧
   (∀ j u,(cD (L.getD (bB x.path L) default) A c)[j]?=some u->w.cell? ⟨G,bB x.path L*6+j,none⟩=some u)∧(∀ j,w.frozen? ⟨G,j,none⟩=false) ∧
   MAt t vn b (dN L x) m P ve ((w.setCell ⟨G,bB x.path L*6+5,none⟩ (.int .i64 (aV (L.getD (bB x.path L) default) x).hits)).setCell ⟨G,bB x.path L*6+4,none⟩ (.bool (aV (L.getD (bB x.path L) default) x).fresh)):=by
 obtain ⟨xs,h1,h2⟩:=h.own;have hJ:dN L x=L.set (bB x.path L) (aV (L.getD (bB x.path L) default) x):=by unfold dN;rw [if_pos hh]
 have hf:bB x.path L<L.length:=by
  unfold fT at hh;simp only [Bool.and_eq_true,decide_eq_true_eq] at hh;exact hh.1
 have hinc:=h.inc.join x;rw [hJ] at hinc ⊢;generalize bB x.path L=f at *;rcases h1 with ⟨hxl,⟨rfl,h4⟩ | ⟨G,cap,cur,rfl,-,hB,h4,h5,h6,h7⟩⟩
 ·omega
 have hBb:Blk w G 60 cur:=hB;obtain ⟨A,c,hec,hE⟩:=RL.get (fP.len w P) h2 default hf
 have hcell:∀ j u,(cD (L.getD f default) A c)[j]?=some u->w.cell? ⟨G,f*6+j,none⟩=some u:=fun j u hu=>by
  rw [<- hec,List.getElem?_take,List.getElem?_drop,<- h7,List.getElem?_take] at hu
  split at hu
  ·split at hu
   ·exact hBb.cell' _ fq
   ·cases hu
  ·cases hu
 have hgc:m ≠ G:=fun e=>h.ne et
 refine ⟨G,cap,rfl,hf,hgc,A,c,hE,hcell,hBb.frozen,?_⟩;have hmem:L.getD f default ∈ L:=aF hf;generalize L.getD f default=y at *;have hB2:=(hBb.set_ (f*6+5) (.int .i64 (aV y x).hits)).set_ (f*6+4) (.bool (aV y x).fresh)
 have hfr:∀ k,k ≠ G->((w.setCell ⟨G,f*6+5,none⟩ (.int .i64 (aV y x).hits)).setCell ⟨G,f*6+4,none⟩ (.bool (aV y x).fresh)).heap[k]?=w.heap[k]?:=fun k hk=>by
  rw [Below.heap_setCell _ _ _ _ (fun e=>hk e),Below.heap_setCell _ _ _ _ (fun e=>hk e)]
 have hsz:w.heap.size<=((w.setCell ⟨G,f*6+5,none⟩ (.int .i64 (aV y x).hits)).setCell ⟨G,f*6+4,none⟩ (.bool (aV y x).fresh)).heap.size:=eh
 generalize (w.setCell ⟨G,f*6+5,none⟩ (.int .i64 (aV y x).hits)).setCell ⟨G,f*6+4,none⟩ (.bool (aV y x).fresh)=W at *;have hkP:aB P w W:=fun k _ hp=>hfr k (fun e=>(h.excl k hp).2 et)
 have hxs:xs=xs.take (f*6) ++ cD y A c ++ xs.drop ((f+1)*6):=by
  rw [<- hec,show (f+1)*6=f*6+6 by omega,<- List.drop_drop,List.append_assoc,List.take_append_drop,List.take_append_drop]
 have hset:(xs.set (f*6+5) (.int .i64 (aV y x).hits)).set (f*6+4) (.bool (aV y x).fresh)=xs.take (f*6) ++ cD (aV y x) A c ++ xs.drop ((f+1)*6):=by
  rw [show xs.set (f*6+5) (.int .i64 (aV y x).hits)=(xs.take (f*6) ++ cD y A c ++ xs.drop ((f+1)*6)).set (f*6+5) (.int .i64 (aV y x).hits) by rw [<- hxs]];rw [sV _ _ _ _ _ ip U,sV _ _ _ _ _ ip U]
  rfl
 refine ⟨(hfr _ hgc).trans h.box,h.tree.carry hkP (fun _ _ h=>h),⟨_,⟨?_,.inr ⟨G,cap,_,by rw [List.length_set],Nat.zero_le _,hB2,by rw [List.length_set];exact h4,h5,gh,rfl⟩⟩,?_⟩,h.excl,h.ne,hinc,h.bI,by rw [List.length_set];exact h.few,?_,fun k hk=>Nat.lt_of_lt_of_le (h.lt k hk) hsz⟩
 ·simp only [List.length_take,Array.length_toList,Array.size_setIfInBounds,List.length_set]
  have:=Nat.mul_le_mul_right 6 h4;omega
 ·have e1:((cur.setIfInBounds (f*6+5) (.int .i64 (aV y x).hits)).setIfInBounds (f*6+4) (.bool (aV y x).fresh)).toList.take ((L.set f (aV y x)).length*6)=xs.take (f*6) ++ cD (aV y x) A c ++ xs.drop ((f+1)*6):=by
   rw [List.length_set,Array.toList_setIfInBounds,Array.toList_setIfInBounds,List.take_set,List.take_set,h7,hset]
  rw [e1];exact RL.set (fP.len W P) (h2.move fP hkP (fun _ _ h=>h)) (show REn W P (aV y x) (cD (aV y x) A c) from ⟨A,c,rfl,⟨(hE.carry hkP (fun _ _ h=>h)).path,hE.kind,hE.at_,hE.code,nY _⟩⟩) hf
 ·intro e he
  rcases List.mem_or_eq_of_mem_set he with he | rfl
  ·exact h.short e he
  ·exact h.short y hmem
end
noncomputable def aNb:=RG Tryz.f51 0
noncomputable def aNa:=RG Tryz.f51 1
noncomputable def aM8:=RG Tryz.f51 2
noncomputable def aM7:=RG Tryz.f51 3
noncomputable def aM6:=RG Tryz.f51 4
noncomputable def aRt:=RG Tryz.f51 5
noncomputable def aRs:=RG Tryz.f51 6
noncomputable def aKr:=RG Tryz.f51 7
noncomputable def aM5:=RG Tryz.f51 8
noncomputable def aRr:=RG Tryz.f51 9
noncomputable def aIp:=RG Tryz.f51 10
noncomputable def aIo:=RG Tryz.f51 11
noncomputable def aIn:=RG Tryz.f51 12
noncomputable def aM9:=RG Tryz.f51 13
section
variable {Q:Exit->Act->World->Prop}{a:Act}{w:World}{m gx f k:Nat}{x:GE}{Ax:Option Addr}{cx:Nat}{G n c:Nat}{vn:Value}{b:Int}
theorem aJ4 (hsz:a.tmps.size=97)(e1:Ev a (.tmp 1)=.agg #[.slice Ax x.path.length cx,↑x.kind,↑x.at_,↑x.code,.bool x.fresh,↑x.hits])
  (h:∀ a',Ag [0] a a'->Ev a' (.tmp 3)=.pointer (some ⟨w.heap.size,0,none⟩)->Q .normal a' (w.alloc (.cells #[.slice Ax x.path.length cx,↑x.kind,↑x.at_,↑x.code,.bool x.fresh,↑x.hits] 60))):Code.wp Tryz.prog aNb Q a w:=by
 refine rW ?_
 iterate 2 refine lV ?_
 exact cJ (h _ ac ah)
theorem aJ3 {v1:Value}{z:Int}(hsz:a.tmps.size=97)(e0:Ev a (.tmp 0)=.pointer (some ⟨m,0,none⟩))(e3:Ev a (.tmp 3)=.pointer (some ⟨gx,0,none⟩))(hx0:w.cell? ⟨gx,0,none⟩=some v1)(hc:Calls Tryz.prog 20 #[.pointer (some ⟨m,0,none⟩),v1] w (dV (↑z) w))
  (h:∀ a' w',Ext w w'->Ag [0,3] a a'->Ev a' (.tmp 5)=↑z->Q .normal a' w'):Code.wp Tryz.prog aNa Q a w:=by
 refine rW ?_
 iterate 3 refine lV ?_
 refine l_c rfl rfl rfl Tryz.func20 al al hc ah ?_;rintro e w' ⟨rfl,hx⟩;refine ⟨_,rfl,?_⟩
 iterate 1 refine lV ?_
 exact cJ (h _ _ hx ac ah)
theorem aJ2 {z:Int}(hsz:a.tmps.size=97)(e5:Ev a (.tmp 5)=↑z)(h:∀ a',Ag [0,3,5] a a'->Ev a' (.tmp 13)=.bool (decide (0<=z))->Q .normal a' w):Code.wp Tryz.prog aM8 Q a w:=by
 refine rW ?_
 iterate 2 refine lV ?_
 exact cJ (h _ ac ah)
theorem aJ1 {yh xh:Int}(hsz:a.tmps.size=97)(e0:Ev a (.tmp 0)=.pointer (some ⟨m,0,none⟩))(e3:Ev a (.tmp 3)=.pointer (some ⟨gx,0,none⟩))(e5:Ev a (.tmp 5)=↑(f:Int))(hf:(f:Int)<(n:Int))
  (h1:w.cell? ⟨m,2,none⟩=some (.slice (some ⟨G,0,none⟩) n c))(h2:w.cell? ⟨G,f*6+5,none⟩=some (↑yh))(h3:w.cell? ⟨gx,5,none⟩=some (↑xh))(hz:w.frozen? ⟨G,f*6+5,none⟩=false)
  (h:∀ a',Ag [0,3,5] a a'->Q .normal a' (w.drew.setCell ⟨G,f*6+5,none⟩ (.int .i64 (wrap64 (yh+xh))))):Code.wp Tryz.prog aM7 Q a w:=by
 conv=>arg 2;whnf
 have hS:w.drew.cell? ⟨m,2,none⟩=some (.slice (some ⟨G,0,none⟩) n c)∧w.drew.cell? ⟨G,f*6+5,none⟩=some (↑yh)∧w.drew.cell? ⟨gx,5,none⟩=some (↑xh):=⟨h1,h2,h3⟩;have hz':w.drew.frozen? ⟨G,f*6+5,none⟩=false:=hz;refine fG (fun w'=>w'.cell? ⟨m,2,none⟩=some (.slice (some ⟨G,0,none⟩) n c)∧w'.cell? ⟨G,f*6+5,none⟩=some (↑yh)∧w'.cell? ⟨gx,5,none⟩=some (↑xh)) (fun q=>q != 18) 19 aa aa ?_;generalize w.drew=W at *;clear h1 h2 h3 hz;refine d_t 3 [0,1,2,3,4,5,6,7,8,9,10,11,12,13,14,15] rfl aa hS ?_
 iterate 16 refine t_v rfl rfl rfl (fun w hw=>by simp [execOp,go_sem,IntWalk.i64_left, *];rfl) ?_
 refine t_e ?_;refine d_1 16 aa rfl rfl rfl (by simp [execOp,go_sem, *];rfl) (fun _=>hS) ?_;refine d_1 17 aa rfl rfl rfl (by simp [execOp,go_sem, *];rfl) (fun _=>hS) ?_;refine d_s 18 aa rfl rfl rfl (by simp [execOp,go_sem, *];rfl) (fun h=>by simp at h) ?_;exact wZ aa (h _ ac)
theorem aJ0 {yf xf:Bool}(hsz:a.tmps.size=97)(e0:Ev a (.tmp 0)=.pointer (some ⟨m,0,none⟩))(e3:Ev a (.tmp 3)=.pointer (some ⟨gx,0,none⟩))(e5:Ev a (.tmp 5)=↑(f:Int))(hf:(f:Int)<(n:Int))
  (h1:w.cell? ⟨m,2,none⟩=some (.slice (some ⟨G,0,none⟩) n c))(h2:w.cell? ⟨G,f*6+4,none⟩=some (.bool yf))(h3:w.cell? ⟨gx,4,none⟩=some (.bool xf))(hz:w.frozen? ⟨G,f*6+4,none⟩=false)
  (h:∀ a',Ag [0,3,5] a a'->Q .normal a' (w.drew.setCell ⟨G,f*6+4,none⟩ (.bool (yf || xf)))):Code.wp Tryz.prog aM6 Q a w:=by
 conv=>arg 2;whnf
 have hS:w.drew.cell? ⟨m,2,none⟩=some (.slice (some ⟨G,0,none⟩) n c)∧w.drew.cell? ⟨G,f*6+4,none⟩=some (.bool yf)∧w.drew.cell? ⟨gx,4,none⟩=some (.bool xf):=⟨h1,h2,h3⟩;have hz':w.drew.frozen? ⟨G,f*6+4,none⟩=false:=hz;refine fG (fun w'=>w'.cell? ⟨m,2,none⟩=some (.slice (some ⟨G,0,none⟩) n c)∧w'.cell? ⟨G,f*6+4,none⟩=some (.bool yf)∧w'.cell? ⟨gx,4,none⟩=some (.bool xf)) (fun q=>q != 19) 20 aa aa ?_;generalize w.drew=W at *;clear h1 h2 h3 hz
 cases yf
 ·refine d_t 3 [0,1,2,3,4,5,6,7,8,9,10,11,12,13,14,15,16] rfl aa hS ?_
  iterate 14 refine t_v rfl rfl rfl (fun w hw=>by simp [execOp,go_sem, *];rfl) ?_
  iterate 2 refine t_y rfl rfl rfl rfl ah aw rfl (fun w hw=>by simp [execOp,go_sem, *];rfl) ?_
  iterate 1 refine t_v rfl rfl rfl (fun w hw=>by simp [execOp,go_sem, *];rfl) ?_
  refine t_e ?_;refine d_1 17 aa rfl rfl rfl (by simp [execOp,go_sem, *];rfl) (fun _=>hS) ?_;refine d_1 18 aa rfl rfl rfl (by simp [execOp,go_sem, *];rfl) (fun _=>hS) ?_;refine d_s 19 aa rfl rfl rfl (by simp [execOp,go_sem, *];rfl) (fun h=>by simp at h) ?_;exact wZ aa (h _ ac)
 ·refine d_t 3 [0,1,2,3,4,5,6,7,8,9,10,11,12,13,14,15,16] rfl aa hS ?_
  iterate 14 refine t_v rfl rfl rfl (fun w hw=>by simp [execOp,go_sem, *];rfl) ?_
  iterate 2 refine t_n rfl rfl rfl rfl ah aw rfl ?_
  iterate 1 refine t_v rfl rfl rfl (fun w hw=>by simp [execOp,go_sem, *];rfl) ?_
  refine t_e ?_;refine d_1 17 aa rfl rfl rfl (by simp [execOp,go_sem, *];rfl) (fun _=>hS) ?_;refine d_1 18 aa rfl rfl rfl (by simp [execOp,go_sem, *];rfl) (fun _=>hS) ?_;refine d_s 19 aa rfl rfl rfl (by simp [execOp,go_sem, *];rfl) (fun h=>by simp at h) ?_;exact wZ aa (h _ ac)
theorem aGr {Al:Option Addr}(hsz:a.tmps.size=97)(e0:Ev a (.tmp 0)=.pointer (some ⟨m,0,none⟩))(e6:Ev a (.tmp 6)=↑(k:Int))(h1:∀ w',Ext w w'->w'.cell? ⟨m,2,none⟩=some (.slice Al n c))(hk:¬ k<n)
  (h:∀ a' w',Ext w w'->Ag [0,3,6] a a'->Ev a' (.tmp 71)=.bool false->Q .normal a' w'):Code.wp Tryz.prog aKr Q a w:=by
 conv=>arg 2;whnf
 refine iO (fun w'=>Ext w w') aa aa (Ext.refl w).drew' ?_
 iterate 8 refine q_v rfl rfl (fun w hw=>by simp [execOp,go_sem, *];rfl) ?_
 iterate 12 refine q_n rfl rfl rfl ah aw rfl ?_
 iterate 1 refine q_v rfl rfl (fun w hw=>by simp [execOp,go_sem, *];rfl) ?_
 exact aGw (fun w' hw=>h _ w' hw ac ah)
theorem aGq {v1 v2:Value}{z:Int}(hsz:a.tmps.size=97)(e0:Ev a (.tmp 0)=.pointer (some ⟨m,0,none⟩))(e3:Ev a (.tmp 3)=.pointer (some ⟨gx,0,none⟩))(e6:Ev a (.tmp 6)=↑(k:Int))(hk:k<n)(h1:∀ w',Ext w w'->w'.cell? ⟨m,2,none⟩=some (.slice (some ⟨G,0,none⟩) n c)∧w'.cell? ⟨G,k*6,none⟩=some v1∧w'.cell? ⟨gx,0,none⟩=some v2)
  (hc:∀ w1,Ext w w1->Calls Tryz.prog 105 #[v1,v2] w1 fun e w'=>e=.returned (↑z)∧Ext w w')
  (h:∀ a' w',Ext w w'->Ag [0,3,6] a a'->Ev a' (.tmp 71)=.bool (decide (z<0))->Q .normal a' w'):Code.wp Tryz.prog aKr Q a w:=by
 conv=>arg 2;whnf
 refine iO (fun w'=>Ext w w') aa aa (Ext.refl w).drew' ?_
 iterate 8 refine q_v rfl rfl (fun w hw=>by simp [execOp,go_sem,h1 w hw, *];rfl) ?_
 iterate 10 refine q_y rfl rfl rfl ah aw rfl (fun w hw=>by simp [execOp,go_sem,h1 w hw, *];rfl) ?_
 refine aV4 rfl rfl rfl ah aw rfl rfl Tryz.func105 al al hc ah ?_
 iterate 1 refine q_y rfl rfl rfl ah aw rfl (fun w hw=>by simp [execOp,go_sem, *];rfl) ?_
 iterate 1 refine q_v rfl rfl (fun w hw=>by simp [execOp,go_sem, *];rfl) ?_
 exact aGw (fun w' hw=>h _ w' hw ac ah)
theorem aJz (hsz:a.tmps.size=97)(e6:Ev a (.tmp 6)=↑(k:Int))(hw:IntKind.i64.wrap ((k:Int)+1)=(k:Int)+1)
  (h:∀ a',Ag [0,3] a a'->Ev a' (.tmp 6)=.int .i64 ((k+1:Nat):Int)->Q .normal a' w):Code.wp Tryz.prog aM5 Q a w:=by
 refine rW ?_
 iterate 3 refine lV ?_
 exact cJ (h _ ac ah)
theorem aGu {A1:Option Addr}{c1:Nat}{ve:Value}{xs:List Value}{S:Nat->Prop}(hsz:a.tmps.size=97)(e0:Ev a (.tmp 0)=.pointer (some ⟨m,0,none⟩))(e6:Ev a (.tmp 6)=↑(k:Int))(e7:Ev a (.tmp 7)=.slice none 0 0)(hk:k<=100000)(h1:w.cell? ⟨m,2,none⟩=some ve)(hc:aMn ve k A1 c1)(hs:Sl w S 6 A1 k xs)(hone:∀ u ∈ xs,u.oneCell'=true)
  (h:∀ a' v5 w5,w5.ownsRow w.heap.size 60 6 v5 k xs->Ext w w5->Ag [0,3,6] a a'->Ev a' (.tmp 7)=v5->Q .normal a' w5):Code.wp Tryz.prog aIp Q a w:=by
 refine rW ?_
 iterate 6 refine lV ?_
 refine l_v rfl rfl (hc _ _ _ _ _ rfl ah ah) ?_;refine l_a rfl rfl rfl Tryz.underlying33 Tryz.info60 rfl U (aN w w.heap.size 60 6) hs ah aw hone U U (Nat.le_refl _) ?_;intro v5 w5 ho hf hb
 iterate 1 refine lV ?_
 exact cJ (h _ v5 w5 (by simpa using ho) (Fr.none_ext hf) ac ah)
theorem aGt {base:Nat}{v7:Value}{xs:List Value}(hsz:a.tmps.size=97)(e3:Ev a (.tmp 3)=.pointer (some ⟨gx,0,none⟩))(e7:Ev a (.tmp 7)=v7)(hk:k<=100000)(hB:base<=w.heap.size)(hx:Blk w gx 60 #[.slice Ax x.path.length cx,↑x.kind,↑x.at_,↑x.code,.bool x.fresh,↑x.hits])(hown:w.ownsRow base 60 6 v7 k xs)
  (h:∀ a' v5 w5,w5.ownsRow base 60 6 v5 (k+1) (xs ++ cD x Ax cx)->Fr (fun b=>base<=b) w w5->Ag [0,6] a a'->Ev a' (.tmp 7)=v5->Q .normal a' w5):Code.wp Tryz.prog aIo Q a w:=by
 obtain ⟨c0,c1,c2,c3,c4,c5⟩:=bY hx;refine rW ?_
 iterate 3 refine lV ?_
 refine l_a rfl rfl rfl Tryz.underlying33 Tryz.info60 rfl U (hown.alloc _) (Sl.new w (cD x Ax cx) 60 1 6 rfl) ah aw (by simp [cD,Value.oneCell']) U U ab ?_;intro v5 w5 ho hf hb
 iterate 1 refine lV ?_
 exact cJ (h _ v5 w5 ho ((Fr.of_ext ((Ext.refl w).alloc' _)).trans (hf.mono (fun b hb=>hown.block_ge hb.symm))) ac ah)
theorem aGs {A1:Option Addr}{c1 p n base:Nat}{v7 ve:Value}{xs ys:List Value}{S:Nat->Prop}(hsz:a.tmps.size=97)(e0:Ev a (.tmp 0)=.pointer (some ⟨m,0,none⟩))(e6:Ev a (.tmp 6)=↑(k:Int))(e7:Ev a (.tmp 7)=v7)(hp:p<=100001)(hn:n<=100000)(hB:base<=w.heap.size)(hm:m<base)(hb0:Blk w m 35 #[vn,↑b,ve])(hc:aMo ve k n A1 c1)(hs:Sl w S 6 A1 n ys)(hone:∀ u ∈ ys,u.oneCell'=true)(hown:w.ownsRow base 60 6 v7 p xs)
  (h:∀ a' v5 w5,w5.ownsRow base 60 6 v5 (p+n) (xs ++ ys)->Fr (fun b=>base<=b) w w5->Ag [] a a'->Q .normal a' (w5.setCell ⟨m,2,none⟩ v5)):Code.wp Tryz.prog aIn Q a w:=by
 have h1:=hb0.cell' (u:=ve) 2 rfl;refine rW ?_
 iterate 7 refine lV ?_
 refine l_v rfl rfl (hc _ _ _ _ _ rfl ah ah) ?_;refine l_a rfl rfl rfl Tryz.underlying33 Tryz.info60 rfl U hown hs ah aw hone U U hB ?_;intro v5 w5 ho hf hb5;have hF:Fr (fun b=>base<=b) w w5:=hf.mono (fun b hb=>hown.block_ge hb.symm);have hb6:=hb0.fr hF U;have q2:=hb6.cell' (u:=ve) 2 rfl;have f2:=hb6.frozen 2;obtain ⟨A5,c5,rfl,-,-,-⟩:=Sl.of_own ho
 iterate 2 refine lV ?_
 refine l_s rfl rfl (by simp [execOp,go_sem, *];rfl) ?_;exact cJ (h _ _ w5 ho hF ac)
end
noncomputable abbrev aUv:Code:=.seq (.seq aKr (.cond (.tmp 71) .skip (.exit 0))) (.block 1 aM5)
noncomputable abbrev aUh:Code:=.seq aRs (.seq (.block 0 (.loop aUv)) (.seq aRr (.seq aIp (.seq aIo (.seq aIn (.seq aM9 .ret))))))
noncomputable abbrev aIw:Code:=.seq aNb (.seq aNa (.seq (.seq aM8 (.cond (.tmp 13) (.seq aM7 (.seq aM6 (.seq aRt .ret))) .skip)) aUh))
theorem aP8:Tryz.f51.body=some aIw:=aa
section
variable {t:List GN}{vn:Value}{b:Int}{L:List GE}{m gx:Nat}{P:Nat->Prop}{ve:Value}{a:Act}{w ws:World}{R:Exit->Act->World->Prop}{x:GE}{Ax:Option Addr}{cx:Nat}
def I51 (L:List GE)(p:List Int)(a0:Act)(ws:World)(k:Nat)(a:Act)(w:World):Prop:=Ag [0,3] a0 a∧k<=L.length∧Ev a (.tmp 6)=↑(k:Int)∧Ext ws w∧∀ j,j<k->gN (L.getD j default).path p<0
theorem aGx {a0:Act}(hsz:a0.tmps.size=97)(e0:Ev a0 (.tmp 0)=.pointer (some ⟨m,0,none⟩))(e3:Ev a0 (.tmp 3)=.pointer (some ⟨gx,0,none⟩))(h:MAt t vn b L m P ve ws)(hx:EAt ws P x Ax cx)(hbx:Blk ws gx 60 #[.slice Ax x.path.length cx,↑x.kind,↑x.at_,↑x.code,.bool x.fresh,↑x.hits])(hI:I51 L x.path a0 ws 0 a w)
  (hR:∀ a' w',I51 L x.path a0 ws (bB x.path L) a' w'->R .normal a' w'):Code.wp Tryz.prog (.block 0 (.loop aUv)) R a w:=by
 have hfew:=h.few;refine wp_block (wp_loop (fun a' w'=>∃ k,I51 L x.path a0 ws k a' w') (fun a' _=>L.length - (intOf (Ev a' (.tmp 6))).toNat) ⟨0,hI⟩ ?_);clear hI;rintro a w ⟨k,hG,hk,e6,hE,hlo⟩;obtain ⟨Al,cl,rfl,-,-⟩:=Lst.form h.ens;have c2:=aA hE h.cell2;have z1:a.tmps.size=97:=hG.sz.trans hsz;have f0:=hG.get 0 e0;have f3:=hG.get 3 e3
 by_cases hlt:k<L.length
 ·obtain ⟨b1,o1,A1,d1,eA,-,hv1,hgc⟩:=(h.ens.ext hE).get hlt
  obtain ⟨xs,ho,-⟩:=h.own
  have ho0:o1=0:=by
   rcases ho.2 with ⟨e,e2⟩ | ⟨G,cap,cur,e,-⟩
   ·omega
   ·rw [eA] at e
    injection e with e;injection e with e;injection e with e1 e2 e3
  subst eA ho0;have g0:=hgc 0 _ rfl;rw [Nat.zero_add,Nat.add_zero] at g0;refine wp_seq (wp_seq (aGq (z:=gN (L.getD k default).path x.path) z1 f0 f3 e6 hlt (fun w' hw=>⟨aA hw c2,aA hw g0,aA hw (aA hE (hbx.cell' 0 rfl))⟩) ?_ ?_))
  ·intro w1 hx1
   refine (qX _ _ _ _ _ _ w1 (hv1.ext hx1).path (hx.ext (hE.trans' hx1)).path).mono ?_;rintro e w' ⟨rfl,n,rfl⟩;exact ⟨rfl,hx1.drewN' n⟩
  ·intro a2 w2 hx2 g2 e71
   by_cases hc:gN (L.getD k default).path x.path<0
   ·refine wp_cond_true (e71.trans (by rw [aYo hc])) (wp_skip ?_)
    refine wp_block (aJz (g2.sz.trans z1) (g2.get 6 e6) (zV U) ?_);intro a3 g3 e6';refine ⟨⟨k+1,(hG.trans (g2.mono rfl)).trans g3,hlt,e6',hE.trans' hx2,fun j hj=>?_⟩,?_⟩
    ·rcases Nat.lt_or_ge j k with h1 | h1
     ·exact hlo j h1
     ·obtain rfl:j=k:=by omega
      exact hc
    ·rw [e6',e6]
     simp [intOf];omega
   ·refine wp_cond_false (e71.trans (by rw [aYp hc])) (wp_exit ?_)
    have hf:k=bB x.path L:=nB h.inc hk hlo (fun j hj hj' hcj=>hc (tV h.inc x.path hj hj' hcj));exact hR _ _ ⟨hG.trans (g2.mono rfl),U,by rw [<- hf];exact g2.get 6 e6,hE.trans' hx2,by rw [<- hf];exact hlo⟩
 ·refine wp_seq (wp_seq (aGr z1 f0 e6 (fun w' hw=>aA hw c2) hlt ?_))
  intro a2 w2 hx2 g2 e71;refine wp_cond_false e71 (wp_exit ?_);have hf:k=bB x.path L:=nB h.inc hk hlo (fun j hj hj'=>by omega);exact hR _ _ ⟨hG.trans (g2.mono rfl),U,by rw [<- hf];exact g2.get 6 e6,hE.trans' hx2,by rw [<- hf];exact hlo⟩
theorem aO9 (h:MAt t vn b L m P ve w)(hx:EAt w P x Ax cx)(hbx:Blk w gx 60 #[.slice Ax x.path.length cx,↑x.kind,↑x.at_,↑x.code,.bool x.fresh,↑x.hits])(hsz:a.tmps.size=97)(e0:Ev a (.tmp 0)=.pointer (some ⟨m,0,none⟩))(e3:Ev a (.tmp 3)=.pointer (some ⟨gx,0,none⟩))(hno:fT x.path L=false)(hfew:L.length+1<=100000)(hpl:x.path.length<=1000)
  (hQ:∀ a' w',a'.defers=a.defers->Ev a' (.tmp 4)=.bool true->dA t vn b (dN L x) m P ve w w'->R .ret a' w'):Code.wp Tryz.prog aUh R a w:=by
 have hJ:dN L x=L.take (bB x.path L) ++ x :: L.drop (bB x.path L):=by unfold dN;rw [if_neg (by rw [hno];simp)]
 have hinc:=h.inc.join x;have hle:=mA x.path L;rw [hJ] at hinc hQ;refine wp_seq ?_;refine rW ?_
 iterate 1 refine l_v rfl rfl (by simp [execOp,go_sem];exact ⟨rfl,rfl⟩) ?_
 refine cJ ?_;refine wp_seq (aGx (a0:=a) hsz e0 e3 h hx hbx ⟨ac,Nat.zero_le _,eq,Ext.refl _,fun j hj=>by omega⟩ ?_);rintro a1 w1 ⟨g1,-,e6,hE1,-⟩;generalize bB x.path L=f at *;have z1:a1.tmps.size=97:=g1.sz.trans hsz;have f0:=g1.get 0 e0;have f3:=g1.get 3 e3;have h1:=h.ext hE1;obtain ⟨xs,ho,hr⟩:=h1.own;have hone:=REn.one hr;obtain ⟨A1,c1,hc1,hs1⟩:=aIv ho hle h.few;obtain ⟨A2,c2,hc2,hs2⟩:=aA2 ho hle h.few;refine wp_seq ?_;refine rW ?_
 iterate 1 refine l_v rfl rfl (by simp [execOp,go_sem];exact ⟨rfl,rfl⟩) ?_
 refine cJ ?_;refine wp_seq (aGu (by simp [z1]) (by simp [f0]) (by simp [e6]) (by simp [z1]) U h1.cell2 hc1 hs1 (fun u hu=>hone u (List.mem_of_mem_take hu)) ?_);intro a5 v5 w5 ho5 hx5 g5 e7;have k5:Ag [0,3,6] a1 a5:=Ag.trans ac g5;refine wp_seq (aGt (g5.sz.trans (by simp [z1])) (k5.get 3 f3) e7 U hx5.size (hbx.ext (hE1.trans' hx5)) ho5 ?_);intro a6 v6 w6 ho6 hf6 g6 e7';have hE6:Ext w1 w6:=((Fr.of_ext hx5).trans hf6).new_ext (fun _ hb=>hb);refine wp_seq (aGs (g6.sz.trans (k5.sz.trans z1)) (g6.get 0 (k5.get 0 f0)) (g6.get 6 (k5.get 6 e6)) e7' U U hE6.size h1.box.lt (h1.box.ext hE6) hc2 (hs2.ext hE6) (fun u hu=>hone u (List.mem_of_mem_drop hu)) ho6 ?_);intro a7 v7 w7 ho7 hf7 g7;have hE7:Ext w1 w7:=((Fr.of_ext hE6).trans hf7).new_ext (fun _ hb=>hb);have z7:a7.tmps.size=97:=g7.sz.trans (g6.sz.trans (k5.sz.trans z1));refine wp_seq ?_;refine rW ?_
 iterate 1 refine l_v rfl rfl (by simp [execOp,go_sem];exact ⟨rfl,rfl⟩) ?_
 refine cJ ?_;refine wp_ret (hQ _ _ (g7.df.trans (g6.df.trans (k5.df.trans g1.df))) (by simp [z7]) ?_);have hll:(L.take f ++ x :: L.drop f).length=f+1+(L.length - f):=by simp only [List.length_append,List.length_take,List.length_cons,List.length_drop];omega
 refine dA.of_ext hE1 (h1.replace hE7 (ho7.len_cast hll.symm rfl) (RL.ins (fP.len w7 P) (hr.move fP (aB.of_ext hE7) (fun _ _ h=>h)) ⟨Ax,cx,rfl,hx.ext (hE1.trans' hE7)⟩ f) hinc (by rw [hll];omega) ?_);intro e he;rcases List.mem_append.1 he with he | he
 ·exact h.short e (List.mem_of_mem_take he)
 ·rcases List.mem_cons.1 he with rfl | he
  ·exact hpl
  ·exact h.short e (List.mem_of_mem_drop he)
theorem aO8 (h:MAt t vn b L m P ve w)(hx:EAt w P x Ax cx)(hsz:a.tmps.size=97)(e0:Ev a (.tmp 0)=.pointer (some ⟨m,0,none⟩))(e1:Ev a (.tmp 1)=aEt x Ax cx)(hfew:L.length+1<=100000)(hpl:x.path.length<=1000)
  (hQ:∀ a' w',a'.defers=a.defers->Ev a' (.tmp 4)=.bool (!fT x.path L)->dA t vn b (dN L x) m P ve w w'->R .ret a' w'):Code.wp Tryz.prog aIw R a w:=by
 refine wp_seq (aJ4 hsz e1 ?_);intro a1 g1 e3;have hx1:Ext w (w.alloc (.cells #[.slice Ax x.path.length cx,↑x.kind,↑x.at_,↑x.code,.bool x.fresh,↑x.hits] 60)):=(Ext.refl w).alloc' _;have hbx:=Blk.new w 60 #[.slice Ax x.path.length cx,↑x.kind,↑x.at_,↑x.code,.bool x.fresh,↑x.hits];refine wp_seq ?_;generalize w.alloc (.cells #[.slice Ax x.path.length cx,↑x.kind,↑x.at_,↑x.code,.bool x.fresh,↑x.hits] 60)=W at *;have z1:a1.tmps.size=97:=g1.sz.trans hsz;refine aJ3 z1 (g1.get 0 e0) e3 (hbx.cell' 0 rfl) (aAy (h.ext hx1) (hx.ext hx1).path) ?_;intro a2 w2 hx2 g2 e5;have hE2:=hx1.trans' hx2;have hb2:=hbx.ext hx2;have h2:=h.ext hE2;have hp:=wV (path:=x.path) (L:=L);have z2:a2.tmps.size=97:=g2.sz.trans z1;refine wp_seq (wp_seq (aJ2 z2 e5 ?_));intro a3 g3 e13;rw [hp] at e13;have z3:a3.tmps.size=97:=g3.sz.trans z2;have q0:=g3.get 0 (g2.get 0 (g1.get 0 e0));have q3:=g3.get 3 (g2.get 3 e3);have d3:a3.defers=a.defers:=g3.df.trans (g2.df.trans g1.df)
 cases hh:fT x.path L with
 | false =>
  rw [hh] at e13 hQ;refine wp_cond_false e13 (wp_skip ?_);refine aO9 h2 (hx.ext hE2) hb2 z3 q0 q3 hh hfew hpl ?_;intro a' w' r1 r2 r3;exact hQ a' w' (r1.trans d3) r2 (dA.of_ext hE2 r3)
 | true =>
  rw [hh] at e13 hQ;obtain ⟨G,cap,rfl,hf,hmG,A1,d1,-,hcell,hfz,hT⟩:=h2.touch x hh;have hfm:uA x.path L=(bB x.path L:Int):=by unfold uA;rw [if_pos hh]
  have hGw:G<w.heap.size:=by
   obtain ⟨xs,ho,-⟩:=h.own;exact aPf ho rfl
  rw [hfm] at e5;generalize bB x.path L=f at *;generalize L.getD f default=y at *;refine wp_cond_true e13 (wp_seq (aJ1 z3 q0 q3 (g3.get 5 e5) U h2.cell2 (hcell 5 _ rfl) (hb2.cell' 5 rfl) (hfz _) ?_));intro a4 g4;have k1:(w2.drew.setCell ⟨G,f*6+5,none⟩ (.int .i64 (wrap64 (y.hits+x.hits)))).cell? ⟨m,2,none⟩=some (.slice (some ⟨G,0,none⟩) L.length cap):=(World.cell?_setCell_far w2.drew ⟨G,f*6+5,none⟩ ⟨m,2,none⟩ _ (fun e=>hmG e.symm)).trans h2.cell2;have k2:(w2.drew.setCell ⟨G,f*6+5,none⟩ (.int .i64 (wrap64 (y.hits+x.hits)))).cell? ⟨w.heap.size,4,none⟩=some (.bool x.fresh):=(World.cell?_setCell_far w2.drew ⟨G,f*6+5,none⟩ ⟨w.heap.size,4,none⟩ _ (fun e=>by have e:G=w.heap.size:=e;omega)).trans (hb2.cell' 4 rfl);have k3:(w2.drew.setCell ⟨G,f*6+5,none⟩ (.int .i64 (wrap64 (y.hits+x.hits)))).cell? ⟨G,f*6+4,none⟩=some (.bool y.fresh):=(World.cell?_setCell_other w2.drew ⟨G,f*6+5,none⟩ ⟨G,f*6+4,none⟩ _ (fun e=>by have:=congrArg Addr.off e;simp at this)).trans (hcell 4 _ rfl);have k4:(w2.drew.setCell ⟨G,f*6+5,none⟩ (.int .i64 (wrap64 (y.hits+x.hits)))).frozen? ⟨G,f*6+4,none⟩=false:=by simpa using hfz (f*6+4)
  have hF:Fr (mM m (.slice (some ⟨G,0,none⟩) L.length cap)) w ((w2.drew.setCell ⟨G,f*6+5,none⟩ (.int .i64 (wrap64 (y.hits+x.hits)))).drew.setCell ⟨G,f*6+4,none⟩ (.bool (y.fresh || x.fresh))):=((((Fr.of_ext hE2).drew).setCell (p:=⟨G,f*6+5,none⟩) (.inl (.inr rfl)) _).drew).setCell (p:=⟨G,f*6+4,none⟩) (.inl (.inr rfl)) _;have hT':MAt t vn b (dN L x) m P (.slice (some ⟨G,0,none⟩) L.length cap) ((w2.drew.setCell ⟨G,f*6+5,none⟩ (.int .i64 (wrap64 (y.hits+x.hits)))).drew.setCell ⟨G,f*6+4,none⟩ (.bool (y.fresh || x.fresh))):=(hT.ext (Ext.refl _).drew').ext (Ext.refl _).drew';have hQ':=fun a' r1 r2=>hQ a' _ r1 r2 ⟨_,hT',hF,fun _ h=>.inl h⟩
  generalize w2.drew.setCell ⟨G,f*6+5,none⟩ (.int .i64 (wrap64 (y.hits+x.hits)))=W3 at *;have z4:a4.tmps.size=97:=g4.sz.trans z3;refine wp_seq (aJ0 z4 (g4.get 0 q0) (g4.get 3 q3) (g4.get 5 (g3.get 5 e5)) U k1 k3 k2 k4 ?_);intro a5 g5;have z5:a5.tmps.size=97:=g5.sz.trans z4;refine wp_seq ?_;refine rW ?_
  iterate 1 refine l_v rfl rfl (by simp [execOp,go_sem];exact ⟨rfl,rfl⟩) ?_
  exact cJ (wp_ret (hQ' _ (g5.df.trans (g4.df.trans d3)) (by simp [z5])))
theorem aKy (h:MAt t vn b L m P ve w)(hx:EAt w P x Ax cx)(hfew:L.length+1<=100000)(hpl:x.path.length<=1000) :
  Calls Tryz.prog 51 #[.pointer (some ⟨m,0,none⟩),aEt x Ax cx] w fun e w'=>e=.returned (.bool (!fT x.path L))∧dA t vn b (dN L x) m P ve w w':=by
 refine calls_of_wp Tryz.func51 aP8 (aO8 h hx ?_ ?_ ?_ hfew hpl ?_)
 ·simp [Tryz.ntmps51]
 ·simp [Ev,Act.eval]
 ·simp [Ev,Act.eval]
 ·intro a' w' h1 h2 h3
  refine bodyPost_ret (v:=.bool (!fT x.path L)) ?_ h1 ⟨rfl,h3⟩;have h5:a'.tmps[4]?.getD undef=.bool (!fT x.path L):=by rw [<- h2];simp [Ev,Act.eval]
  simp [results,Tryz.results51,go_sem,h5]
end
end Go.Proofs.YtkoeecdjijfjnaaGreat
