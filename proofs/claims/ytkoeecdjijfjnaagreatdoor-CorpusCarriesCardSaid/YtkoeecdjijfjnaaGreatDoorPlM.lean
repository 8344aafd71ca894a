/- Contracts and laws. Conditions: none. -/
import Derived.Test.YtkoeecdjijfjnaaGreatDoorPlL
import Derived.Test.YtkoeecdjijfjnaaGreatDoorG3
set_option linter.all false
set_option maxRecDepth 100000
set_option maxHeartbeats 8000000
namespace Go.Proofs.YtkoeecdjijfjnaaGreatDoor
open Go.RowKit
theorem qN:∀ (a b:List GV),jQ (a ++ b)=jQ a+jQ b
 | [],b=>by simp [jQ]
 | x :: xs,b=>by simp only [List.cons_append,jQ,qN xs b];omega
theorem IU (s:ByteArray)(r:List GV):gsz (cB s r)=1+jQ r:=by
 unfold cB;split <;> simp only [gsz]
theorem mA {bl:List GL}{bs:List Int}:∀ (zs:List Int)(rows out:List (List GV))(s:Int),bU bl rows zs=some out->0<=s->s+1024*zs.length<=1000000000 ->
  (∀ z ∈ zs,1<=bs.getD z.toNat 0∧bs.getD z.toNat 0<=1024)->(∀ z ∈ zs,∀ v ∈ (bl.getD z.toNat default).vals,(gsz v:Int)<=bs.getD z.toNat 0) ->
  (∀ q ∈ rows,1+(jQ q:Int)<=s)->∀ r ∈ out,1+(jQ r:Int)<=dO bs s zs
 | [],rows,out,s,h,_,_,_,_,hr,r,hro=>by
  simp only [bU,Option.some.injEq] at h;subst h;simp only [dO];exact hr r hro
 | z :: zs,rows,out,s,h,h0,hs,hb,hv,hr,r,hro=>by
  simp only [bU] at h;split at h
  ·cases h
  ·have hz:=hb z U
   simp only [ai] at hs;simp only [dO];rw [pL dg];refine mA zs _ out _ h I I (fun y hy=>hb y dh) (fun y hy=>hv y dh) ?_ r hro;intro q hq;obtain ⟨q',hq',v,hv',rfl⟩:=jY.1 hq;have h1:=hr q' hq';have h2:=hv z U v hv';rw [qN];simp only [jQ];omega
theorem uI {before:List GL}{bind:Bool}:∀ (zs:List Int)(k:Nat)(out:List GV)(m:Bool),∀ v ∈ (jL before bind k out m zs).vals,v ∈ out∨∃ i,i<zs.length∧¬ (bind=true∧k+i=0)∧v ∈ (before.getD (zs.getD i 0).toNat default).vals
 | [],k,out,m,v,hv=>by
  simp only [jL] at hv;split at hv
  ·simp at hv
  ·exact .inl hv
 | z :: zs,k,out,m,v,hv=>by
  simp only [jL] at hv;split at hv
  ·rcases uI zs (k+1) out m v hv with h | ⟨i,h1,h2,h3⟩
   ·exact .inl h
   ·exact .inr ⟨i+1,by simpa using h1,I,by simpa using h3⟩
  ·next hb =>
   rcases uI zs (k+1) _ _ v hv with h | ⟨i,h1,h2,h3⟩
   ·rcases ap.1 ((eX _ v).1 h) with h | h
    ·exact .inl h
    ·exact .inr ⟨0,U,I,ie⟩
   ·exact .inr ⟨i+1,by simpa using h1,I,by simpa using h3⟩
theorem GK {t:List GN}{i:Nat}(h:aO t i)(hs:iX t):∀ j,j<i->∀ v ∈ ((aE t).getD j default).vals,(gsz v:Int)<=(bS t).getD j 0:=by
 intro j
 induction j using Nat.strongRecOn with
 | ind j ih =>
  intro hj v hv;have hjt:j<t:=by have:=h.1;omega
  have hn:=(h.at_ hj).node;have hsz:=uL h hs;have hx:=hs _ (aC (d:=default) hjt);rw [iV hjt] at hv;rw [lZ hjt]
  have hbz:∀ z:Int,0<=z->z<(j:Int)->1<=(bS (t.take j)).getD z.toNat 0∧(bS (t.take j)).getD z.toNat 0<=1024:=fun z h1 h2=>by
   rw [jV hjt ⟨h1,h2⟩];exact hsz _ I
  have hvz:∀ z:Int,0<=z->z<(j:Int)->∀ v ∈ ((aE (t.take j)).getD z.toNat default).vals,(gsz v:Int)<=(bS (t.take j)).getD z.toNat 0:=fun z h1 h2=>by
   rw [jV hjt ⟨h1,h2⟩,gU hjt ⟨h1,h2⟩];exact ih z.toNat I I
  have hkl:=(cJ h hj).1;generalize t.getD j default=x at *;generalize bS (t.take j)=bs at *;generalize aE (t.take j)=bl at *;unfold cQ at hv;unfold jO;split at hv
  ·next h0 =>
   rw [if_pos h0];simp only [List.mem_singleton] at hv;subst hv;rw [pk _ I];exact Int.le_refl _
  ·next h0 =>
   rw [if_neg h0];split at hv
   ·next h1 =>
    rw [if_pos h1];split at hv
    ·simp at hv
    ·obtain ⟨k,_,_,rfl⟩:=iQ.1 hv
     simp [gsz,jQ]
   ·next h1 =>
    rw [if_neg h1];split at hv
    ·next h3 =>
     rw [if_pos h3];unfold xV at hv;split at hv
     ·simp at hv
     ·next rows hrows =>
      have hv:=(eX _ v).1 hv;obtain ⟨r,hr,rfl⟩:=List.mem_map.1 hv;rw [IU];have:=mA (bs:=bs) x.kids [[]] rows 1 hrows I I (fun z hz=>hbz z (hn.kids z hz).1 (hn.kids z hz).2) (fun z hz=>hvz z (hn.kids z hz).1 (hn.kids z hz).2) (fun q hq=>by simp only [List.mem_singleton] at hq;subst hq;simp [jQ]) r hr;omega
    ·next h3 =>
     rw [if_neg h3];rcases uI _ _ _ _ v hv with hv | ⟨i,h1,h2,h3⟩
     ·simp at hv
     ·have hz:=hn.kids _ (aC (d:=0) h1)
      have hle:=hvz _ hz.1 hz.2 v h3;have hkd:=hn.kind;refine Int.le_trans hle ((eM x.kids 0 0).2 i h1 ?_);by_cases h4:x.kind=4
      ·exact .inr (by simp only [h4,decide_true,true_and] at h2;omega)
      ·exact .inl (aYi I)
section
variable {t:List GN}{x:GN}
theorem wR {β:Type}(f:List β->GN->β)(d:β){i:Nat}(hi:i<t):(jN f [] (t ++ [x])).getD i d=(jN f [] t).getD i d:=by
 rw [iW];have h:i<(jN f [] t):=by rw [dU];simpa using hi
 simp only [List.getD];rw [List.getElem?_append_left h]
theorem uK {i:Nat}(hi:i<t):(t ++ [x]).getD i default=t.getD i default:=by
 simp only [List.getD];rw [List.getElem?_append_left hi]
theorem lY:(t ++ [x]).getD t default=x:=by
 simp [List.getD]
theorem C9 {i:Nat}(hi:i<t)(h:wW t i):wW (t ++ [x]) i:=by
 have hn:=h.node;have hm:=h.many;have hv:=h.vals;have hl:=h.len;have hs:=h.size
 have hkd:(t.getD i default).kind=4->((t.getD i default).kids.getD 0 0).toNat<t:=fun h4=>by
  have hb:=hn.bind h4;have hz:=hn.kids _ (aC (d:=0) (show 0<(t.getD i default).kids.length by omega));omega
 refine ⟨?_,?_,?_,?_,?_⟩
 ·rw [uK hi];exact hn
 ·rw [show (aI (t ++ [x])).getD i 0=(aI t).getD i 0 from wR gZ 0 hi];exact hl
 ·rw [show (bS (t ++ [x])).getD i 0=(bS t).getD i 0 from wR jO 0 hi];exact hs
 ·rw [uK hi];intro h4
  rw [show (aE (t ++ [x])).getD _ default=(aE t).getD _ default from wR cQ default (hkd h4)];exact hm h4
 ·rw [uK hi];intro h4
  rw [show (aE (t ++ [x])).getD _ default=(aE t).getD _ default from wR cQ default (hkd h4)];exact hv h4
end
def bN (n:Int):GN:=⟨0,ByteArray.empty,0,0,[],[],[],[],.mk 0 n ByteArray.empty []⟩
structure nz (x:GN):Prop where
 sm:dG x
 few:x.weights.length<=100∧x.labels.length<=100∧x.values.length<=100∧x.kids.length<=100∧x.name.size<=100
 lab:∀ s ∈ x.labels,s.size<=100
structure fG (t:List GN):Prop where
 good:bE t=0
 few:∀ x ∈ t,x.kind=3->x.kids.length<=4
 smg:∀ x ∈ t,nz x
theorem fG.small {t:List GN}(h:fG t):∀ x ∈ t,dG x:=fun x hx=>(h.smg x hx).sm
theorem fG.sm {t:List GN}(h:fG t):iX t:=fun x hx=>(h.small x hx).2.2.2.2.1
theorem fG.nil:fG []:=⟨rfl,fun _ h=>(by simp at h),fun _ h=>(by simp at h)⟩
theorem fG.add {t:List GN}{x:GN}(h:fG t)(hv:bE (t ++ [x])=0)(hf:x.kind=3->x.kids.length<=4)(hs:nz x):fG (t ++ [x]) :=
 ⟨hv,fun y hy=>by
  rcases ap.1 hy with hy | hy
  ·exact h.few y hy
  ·simp only [List.mem_singleton] at hy;subst hy;exact hf,fun y hy=>by
  rcases ap.1 hy with hy | hy
  ·exact h.smg y hy
  ·simp only [List.mem_singleton] at hy;subst hy;exact hs⟩
theorem oD:bF ByteArray.empty=true:=by unfold bF;rw [kE];rfl
theorem yL (n:Int)(j:Nat):cR j (bN n):=by
 have hV:eI (.mk 0 n ByteArray.empty [])=0:=by
  unfold eI;have h1:dV aG (.mk 0 n ByteArray.empty [])=true:=by simp [cH,GV.kids,eT,aG,GV.kind,GV.s,oD]
  have h2:dV cD (.mk 0 n ByteArray.empty [])=true:=by simp [cH,GV.kids,eT,cD,GV.kind]
  have h3:rsz (.mk 0 n ByteArray.empty [])=1:=by rw [nX];simp [GV.kids,fM]
  rw [h1,h2,h3];simp
 refine ⟨fe,?_,fe,fe,fe,fe,Inc.nil,?_,?_⟩
 ·simp [bN,gO,unA,unB,unC,oD]
 ·simp [bN,bY,cW,hV]
 ·simp [bN,bQ,wX]
theorem fG.leaf {t:List GN}(h:fG t)(hl:t.length<=100)(n:Int):fG (t ++ [bN n]):=by
 have hg:=dH.1 h.good;have hlen:(t ++ [bN n]).length=t.length+1:=by simp
 refine h.add (dH.2 ⟨ab _,I,fun j hj=>mU.2 ?_⟩) (fun h3=>by simp [bN] at h3) ⟨⟨fe,fe,fe,fe,by simp [bN,gsz,jQ],fe⟩,fe,fe⟩;by_cases hj':j<t.length
 ·exact C9 hj' (hg.at_ hj')
 ·obtain rfl:j=t.length:=by omega
  have e1:(aI (t ++ [bN n])).getD t 0=0:=by
   rw [oY I,lY];simp [gZ,bN]
  have e2:(bS (t ++ [bN n])).getD t 0=1:=by
   rw [lZ I,lY];simp [jO,bN,nX,GV.kids,fM]
  refine ⟨by rw [lY];exact yL n _,I,I,?_,?_⟩
  ·rw [lY];intro h4;simp [bN] at h4
  ·rw [lY];intro h4;simp [bN] at h4
theorem fG.vals {t:List GN}(h:fG t){j:Nat}(hj:j<t):∀ v ∈ ((aE t).getD j default).vals,gsz v<=1000000000:=by
 intro v hv;have hg:=dH.1 h.good;have h1:=GK hg h.sm j hj v hv;have h2:=(uL hg h.sm j hj).2;omega
