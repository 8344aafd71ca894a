/- Contracts and laws. Conditions: none. -/
import Derived.Test.YtkoeecdjijfjnaaGreatO1
set_option linter.all false
set_option maxRecDepth 100000
set_option maxHeartbeats 8000000
namespace Go.Proofs.YtkoeecdjijfjnaaGreat
open Go.RowKit
structure MAt (t:List GN)(vn:Value)(b:Int)(L:List GE)(m:Nat)(P:Nat->Prop)(ve:Value)(w:World):Prop where
 box:Blk w m 35 #[vn,↑b,ve]
 tree:Nds w P vn t
 own:∃ xs,w.ownsRow 0 60 6 ve L xs∧RL (REn w P) L xs
 excl:∀ k,P k->k ≠ m∧some k ≠ ve.ownBlock
 ne:some m ≠ ve.ownBlock
 inc:mB L
 bI:0<=b∧b<=1099511627776
 few:L.length<=100000
 short:∀ e ∈ L,e.path.length<=1000000000
 lt:∀ k,P k->k<w
def mM (m:Nat)(ve:Value):Nat->Prop:=fun k=>k=m∨some k=ve.ownBlock
def cZ (t:List GN)(vn:Value)(b:Int)(L':List GE)(m:Nat)(P:Nat->Prop)(ve:Value)(w w':World):Prop :=
 ∃ v',MAt t vn b L' m P v' w'∧Fr (mM m ve) w w'∧∀ k,v'.ownBlock=some k->ve.ownBlock=some k∨w<=k
theorem aM7 {w:World}{e s base ve n xs}(h:w.ownsRow base e s ve n xs){k}(hk:ve.ownBlock=some k):k<w:=by
 rcases h.2 with ⟨rfl,_⟩ | ⟨G,cap,cur,rfl,_,hG,_⟩
 ·simp [Value.ownBlock] at hk
 ·simp [Value.ownBlock] at hk
  subst hk;exact Blk.lt (t:=e) hG
section
variable {t:List GN}{vn:Value}{b:Int}{L L':List GE}{m:Nat}{P Q Pp:Nat->Prop}{ve vp:Value}{w w' w1 w2:World}{path:List Int}
theorem MAt.carry (h:MAt t vn b L m P ve w)(hk:aB (fun k=>P k∨mM m ve k) w w')(hs:w.heap.size<=w'):MAt t vn b L m P ve w':=by
 obtain ⟨xs,h1,h2⟩:=h.own;have hkP:aB P w w':=fun k hk' hp=>hk k hk' (.inl hp)
 refine ⟨(hk _ h.box.lt (.inr (.inl rfl))).trans h.box,h.tree.carry hkP (fun _ _ h=>h),⟨xs,⟨h1.1,?_⟩,h2.move eN hkP (fun _ _ h=>h)⟩,h.excl,h.ne,h.inc,h.bI,h.few,h.short,fun k hk'=>ac (h.lt k hk') hs⟩;rcases h1.2 with h3 | ⟨g',cap,cur,h4,h5,h6,h7⟩
 ·exact .inl h3
 ·exact .inr ⟨g',cap,cur,h4,h5,(hk g' (Blk.lt (t:=60) h6) (.inr (.inr (by rw [h4];rfl)))).trans h6,h7⟩
theorem MAt.ext (h:MAt t vn b L m P ve w)(hx:Ext w w'):MAt t vn b L m P ve w':=h.carry (aB.of_ext hx) hx.size
theorem MAt.ens (h:MAt t vn b L m P ve w):Ens w (fun k=>P k∨some k=ve.ownBlock) ve L:=by
 obtain ⟨xs,h1,h2⟩:=h.own;exact Lst.of_own h1 (h2.move eN (fun _ _ _=>rfl) (fun _ _ h=>.inl h)) (by have:=h.few;omega) (fun k hk=>.inr hk.symm)
theorem MAt.cell0 (h:MAt t vn b L m P ve w):qc w m 0 vn:=h.box.cell' 0 rfl
theorem MAt.cell1 (h:MAt t vn b L m P ve w):qc w m 1 b:=h.box.cell' 1 rfl
theorem MAt.cell2 (h:MAt t vn b L m P ve w):qc w m 2 ve:=h.box.cell' 2 rfl
theorem MAt.mlt (h:MAt t vn b L m P ve w){k}(hk:mM m ve k):k<w:=by
 rcases hk with rfl | hk
 ·exact h.box.lt
 ·obtain ⟨xs,h1,-⟩:=h.own
  exact aM7 h1 hk.symm
theorem cZ.of_ext (hx:Ext w w1)(h:cZ t vn b L' m P ve w1 w2):cZ t vn b L' m P ve w w2:=by
 obtain ⟨v',h1,h3,h4⟩:=h;have hs:=hx.size;exact ⟨v',h1,(ar hx).trans h3,fun k hk=>(h4 k hk).imp id (fun h=>by omega)⟩
theorem cZ.ext (h:cZ t vn b L' m P ve w w1)(hx:Ext w1 w2):cZ t vn b L' m P ve w w2:=by
 obtain ⟨v',h1,h3,h4⟩:=h;exact ⟨v',h1.ext hx,h3.trans (ar hx),h4⟩
theorem cZ.none (h:MAt t vn b L m P ve w)(hx:Ext w w1):cZ t vn b L m P ve w w1:=⟨ve,h.ext hx,ar hx,fun _ h=>.inl h⟩
theorem aLt (hi:mB L){i:Nat}(h:i<L)(he:(L.getD i default).path=path):gE path L=true∧aZ path L=i:=by
 have h1:=aD0 (p:=path) hi (Nat.le_of_lt h) (fun k hk=>he ▸ aAm hi hk h) (fun k hk hk'=>by
  rcases Nat.eq_or_lt_of_le hk with rfl | hk
  ·rw [he,nO];omega
  ·have:=aAm hi hk hk'
   rw [he] at this;have:=tE path (L.getD k default).path;omega)
 refine ⟨?_,h1.1⟩;rw [h1.2,he,nO];simp [h]
theorem aH8 (h:∀ j,j<L.length->(L.getD j default).path ≠ path):gE path L=false:=by
 cases hh:gE path L with
 | false=>rfl
 | true =>
  obtain ⟨e,he,hp⟩:=List.mem_map.1 (aDp hh);obtain ⟨j,hj,rfl⟩:=List.getElem_of_mem he;exact absurd (by simpa [hj] using hp) (h j hj)
theorem cZ.trans {v1}{L1:List GE}(h1:Fr (mM m ve) w w1)(h2:∀ k,v1.ownBlock=some k->ve.ownBlock=some k∨w<=k)(h:cZ t vn b L' m P v1 w1 w2):cZ t vn b L' m P ve w w2:=by
 obtain ⟨v',q1,q2,q3⟩:=h;have hs:=h1.size;refine ⟨v',q1,h1.trans_new (q2.mono (fun k hk=>?_)),fun k hk=>?_⟩
 ·rcases hk with hk | hk
  ·exact .inl (.inl hk)
  ·exact (h2 k hk.symm).imp (fun h=>.inr h.symm) id
 ·rcases q3 k hk with h | h
  ·exact h2 k h
  ·exact .inr I
def xS (p:List Int)(L:List GE):Int:=if gE p L then (aZ p L:Int) else -1
theorem aH9 (hi:mB L){i:Nat}(h:i<L)(he:(L.getD i default).path=path):xS path L=(i:Int):=by
 obtain ⟨h1,h2⟩:=aLt hi h he;unfold xS;rw [if_pos h1,h2]
theorem aFp (h:∀ j,j<L.length->(L.getD j default).path ≠ path):xS path L=-1:=by
 unfold xS;rw [if_neg (by rw [aH8 h];simp)]
theorem aAt:decide (0<=xS path L)=gE path L:=by
 unfold xS;cases gE path L <;> simp
def aZv (L:List GE)(p:List Int)(W:World)(i:Value)(wr:World):Prop:=∃ k:Nat,k<=L.length∧i=↑k∧Ext W wr∧∀ j,j<k->(L.getD j default).path ≠ p
theorem aDx (h:MAt t vn b L m P ve w)(hp:Ints w Pp vp path):qg 20 #[qp m,vp] w (dI (.int .i64 (xS path L)) w):=by
 obtain ⟨Ap,cp,ep,hp1,hp2⟩:=hp.form;subst ep;have HE:=a4b h.ens;have HP:=a4b hp;have HI:=a4b h.inc;have HC2:=a4b h.cell2;obtain ⟨Al,cl,el,h1,h2⟩:=Lst.form h.ens;subst el;clear h hp;go_enter Tryz.func20,Tryz.ntmps20;go_wp2_with fail;go_loopw [5] (fun i wr=>aZv L path w i wr) (fun i _=>L.length - (intOf i).toNat)
 case atStart=>exact ⟨0,af _,rfl,aq _,fun j hj=>by omega⟩
 case round =>
  obtain ⟨k,hk,rfl,hx,hno⟩:=hrel;have HX:=a4b hx;have HNO:=a4b hno;have c2r:=aA hx HC2.out;clear hx hno;by_cases hlt:k<L
  ·obtain ⟨b1,o1,A1,d1,rfl,-,hv1,hgc⟩:=(HE.out.ext HX.out).get hlt
   obtain ⟨y,hy⟩:∃ y,y=L.getD k default:=⟨_,rfl⟩;have HY:=a4b hy;rw [<- hy] at hv1 hgc;have g0:=hgc 0 _ rfl;rw [Nat.add_zero] at g0;have HV:=a4b hv1.path;have HPP:=a4b (HP.out.ext HX.out);clear hgc hv1 hy;by_cases hs:y.path=path
   ·have HS:=a4b hs
    have hd:decide (y.path=path)=true:=a4e hs;have HSI:=a4b (jU _ _ _ _ _ _ _ HV.out HPP.out);rw [hd] at HSI;clear hs hd;go_wp2_with fail;refine HSI.out.mono ?_;rintro e w' ⟨rfl,n,rfl⟩;go_wp2_with fail;go_ret;exact ⟨aI (aH9 HI.out hlt (by rw [<- HY.out];exact HS.out)).symm,HX.out.drewN' n⟩
   ·have HS:=a4b hs
    have hd:decide (y.path=path)=false:=a4f hs;have HSI:=a4b (jU _ _ _ _ _ _ _ HV.out HPP.out);rw [hd] at HSI;clear hs hd;go_wp2_with fail;refine HSI.out.mono ?_;rintro e w' ⟨rfl,n,rfl⟩;go_wp2_with fail;go_roundw
    case rel =>
     refine ⟨k+1,I,by go_num,HX.out.drewN' n,fun j hj=>?_⟩;rcases Nat.lt_or_ge j k with h | h
     ·exact HNO.out j h
     ·obtain rfl:j=k:=by omega
      rw [<- HY.out];exact HS.out
    case measure=>simp [intOf];omega
  ·have HF:=a4b (aFp (path:=path) (L:=L) (fun j hj=>HNO.out j I))
   go_wp2_with fail;go_ret;exact ⟨aI HF.out.symm,HX.out⟩
theorem aFe (h:MAt t vn b L m P ve w):qg 16 #[qp m] w (dI (.int .i64 (bC L)) w):=by
 have hfew:=h.few;have HE:=a4b h.ens;have HSH:=a4b h.short;have HC2:=a4b h.cell2;obtain ⟨Al,cl,el,h1,h2⟩:=Lst.form h.ens;subst el;clear h;go_enter Tryz.func16,Tryz.ntmps16;go_wp2_with fail;go_loopw [3,4] (fun n i wr=>aWl L w n i wr) (fun _ i _=>L.length - (intOf i).toNat)
 case atStart=>exact ⟨0,0,af _,rfl,rfl,aq _,I,I,O⟩
 case round =>
  obtain ⟨k,s,hk,rfl,rfl,hx,hs0,hs1,hs⟩:=hrel;have HX:=a4b hx;have HS:=a4b hs;have c2r:=aA hx HC2.out;clear hx hs;by_cases hlt:k<L
  ·obtain ⟨b1,o1,A1,d1,rfl,-,hv1,hgc⟩:=(HE.out.ext HX.out).get hlt
   have hpl:=HSH.out _ (aD (d:=default) hlt);have HD:=a4b (show s+(wE (L.getD k default)+bC (L.drop (k+1)))=bC L by rw [<- HS.out,aH default hlt];rfl);generalize L.getD k default=y at *;have g0:=hgc 0 _ rfl;rw [Nat.add_zero] at g0;have hw1:wE y=2+(y.path:Int):=rfl;clear hgc hv1;go_wp2_with fail;go_roundw
   case rel=>exact ⟨k+1,s+2+(y.path:Int),I,by go_num,rfl,HX.out,I,I,by have:=HD.out;omega⟩
   case measure=>simp [intOf];omega
  ·have HF:=a4b (show bC L=s by have:=HS.out;rw [drop_nil I] at this;simp [bC] at this;omega)
   go_wp2_with fail;go_ret;exact ⟨aI HF.out.symm,HX.out⟩
end
theorem uM (k a c w)(hk:I64 k)(ha:I64 a)(hc:I64 c):qg 13 #[.agg #[↑k,↑a,↑c]] w (dI (zY k a c) w):=by
 go_enter Tryz.func13,Tryz.ntmps13;go_wp2_with fail;have hB:=az (w.alloc (qk #[↑k,↑a,↑c] 41)) 46 #[↑k,↑a,↑c,qn,qn,qz] (g:=w.heap.size+1) O;have hX:Ext w ((w.alloc (qk #[↑k,↑a,↑c] 41)).alloc (qk #[↑k,↑a,↑c,qn,qn,qz] 46)):=((aq w).alloc' _).alloc' _;generalize (w.alloc (qk #[↑k,↑a,↑c] 41)).alloc (qk #[↑k,↑a,↑c,qn,qn,qz] 46)=W at *;obtain ⟨c0,c1,c2,c3,c4,c5⟩:=bZ hB;exact bodyPost_ret (v:=zY k a c) (by simp [results,Tryz.results13,go_sem,c0,c1,c2,c3,c4,c5]) rfl ⟨rfl,hX⟩
