/- Contracts of functions, plain laws. Conditions: none. -/
import Derived.Test.YtkoeecdjijfjnaaGreatG3
import Derived.Test.YtkoeecdjijfjnaaGreatPlL
set_option maxRecDepth 100000
set_option maxHeartbeats 8000000
namespace Go.Proofs.YtkoeecdjijfjnaaGreat
open Go.RowKit
theorem pD:∀ (a b:List GV),jD (a ++ b)=jD a+jD b
 | [],b=>by simp [jD]
 | x :: xs,b=>by simp only [List.cons_append,jD,pD xs b];omega
theorem aIn (s:ByteArray)(r:List GV):gsz (bZ s r)=1+jD r:=by
 unfold bZ
 split <;> simp only [gsz]
theorem lF {bl:List GL}{bs:List Int}:∀ (zs:List Int)(rows out:List (List GV))(s:Int),bQ bl rows zs=some out->0<=s->s+1024*zs.length<=1000000000 ->
  (∀ z ∈ zs,1<=bs.getD z.toNat 0∧bs.getD z.toNat 0<=1024)->(∀ z ∈ zs,∀ v ∈ (bl.getD z.toNat default).vals,(gsz v:Int)<=bs.getD z.toNat 0) ->
  (∀ q ∈ rows,1+(jD q:Int)<=s)->∀ r ∈ out,1+(jD r:Int)<=bV bs s zs
 | [],rows,out,s,h,_,_,_,_,hr,r,hro=>by
  simp only [bQ,Option.some.injEq] at h;subst h;simp only [bV];exact hr r hro
 | z :: zs,rows,out,s,h,h0,hs,hb,hv,hr,r,hro=>by
  simp only [bQ] at h
  split at h
  ·cases h
  ·have hz:=hb z U
   simp only [List.length_cons] at hs;simp only [bV];rw [oB ak];refine lF zs _ out _ h D D (fun y hy=>hb y ap) (fun y hy=>hv y ap) ?_ r hro;intro q hq;obtain ⟨q',hq',v,hv',rfl⟩:=jK.1 hq;have h1:=hr q' hq';have h2:=hv z U v hv';rw [pD];simp only [jD];omega
theorem rY {before:List GL}{bind:Bool}:∀ (zs:List Int)(k:Nat)(out:List GV)(m:Bool),∀ v ∈ (iY before bind k out m zs).vals,v ∈ out∨∃ i,i<zs.length∧¬ (bind=true∧k+i=0)∧v ∈ (before.getD (zs.getD i 0).toNat default).vals
 | [],k,out,m,v,hv=>by
  simp only [iY] at hv
  split at hv
  ·simp at hv
  ·exact .inl hv
 | z :: zs,k,out,m,v,hv=>by
  simp only [iY] at hv
  split at hv
  ·rcases rY zs (k+1) out m v hv with h | ⟨i,h1,h2,h3⟩
   ·exact .inl h
   ·exact .inr ⟨i+1,by simpa using h1,D,by simpa using h3⟩
  ·next hb =>
   rcases rY zs (k+1) _ _ v hv with h | ⟨i,h1,h2,h3⟩
   ·rcases List.mem_append.1 ((eR _ v).1 h) with h | h
    ·exact .inl h
    ·exact .inr ⟨0,U,D,et⟩
   ·exact .inr ⟨i+1,by simpa using h1,D,by simpa using h3⟩
theorem yK {t:List GN}{i:Nat}(h:bD t i)(hs:qQ t):∀ j,j<i->∀ v ∈ ((aG t).getD j default).vals,(gsz v:Int)<=(bO t).getD j 0:=by
 intro j
 induction j using Nat.strongRecOn with
 | ind j ih =>
  intro hj v hv;have hjt:j<t.length:=by have:=h.1;omega
  have hn:=(h.at_ hj).node;have hsz:=sD h hs;have hx:=hs _ (aD (d:=default) hjt);rw [iJ hjt] at hv;rw [lD hjt]
  have hbz:∀ z:Int,0<=z->z<(j:Int)->1<=(bO (t.take j)).getD z.toNat 0∧(bO (t.take j)).getD z.toNat 0<=1024:=fun z h1 h2=>by
   rw [jI hjt ⟨h1,h2⟩];exact hsz _ D
  have hvz:∀ z:Int,0<=z->z<(j:Int)->∀ v ∈ ((aG (t.take j)).getD z.toNat default).vals,(gsz v:Int)<=(bO (t.take j)).getD z.toNat 0:=fun z h1 h2=>by
   rw [jI hjt ⟨h1,h2⟩,gJ hjt ⟨h1,h2⟩];exact ih z.toNat D D
  have hkl:=(eZ h hj).1;generalize t.getD j default=x at *;generalize bO (t.take j)=bs at *;generalize aG (t.take j)=bl at *;unfold cH at hv;unfold fE
  split at hv
  ·next h0 =>
   rw [if_pos h0];simp only [List.mem_singleton] at hv;subst hv;rw [xT _ D];exact Int.le_refl _
  ·next h0 =>
   rw [if_neg h0]
   split at hv
   ·next h1 =>
    rw [if_pos h1]
    split at hv
    ·simp at hv
    ·obtain ⟨k,_,_,rfl⟩:=iD.1 hv
     simp [gsz,jD]
   ·next h1 =>
    rw [if_neg h1]
    split at hv
    ·next h3 =>
     rw [if_pos h3];unfold uW at hv
     split at hv
     ·simp at hv
     ·next rows hrows =>
      have hv:=(eR _ v).1 hv;obtain ⟨r,hr,rfl⟩:=List.mem_map.1 hv;rw [aIn];have:=lF (bs:=bs) x.kids [[]] rows 1 hrows D D (fun z hz=>hbz z (hn.kids z hz).1 (hn.kids z hz).2) (fun z hz=>hvz z (hn.kids z hz).1 (hn.kids z hz).2) (fun q hq=>by simp only [List.mem_singleton] at hq;subst hq;simp [jD]) r hr;omega
    ·next h3 =>
     rw [if_neg h3];rcases rY _ _ _ _ v hv with hv | ⟨i,h1,h2,h3⟩
     ·simp at hv
     ·have hz:=hn.kids _ (aD (d:=0) h1)
      have hle:=hvz _ hz.1 hz.2 v h3;have hkd:=hn.kind;refine Int.le_trans hle ((eX x.kids 0 0).2 i h1 ?_)
      by_cases h4:x.kind=4
      ·exact .inr (by simp only [h4,decide_true,true_and] at h2;omega)
      ·exact .inl (aZy D)
section
variable {t:List GN}{x:GN}
theorem tX {β:Type}(f:List β->GN->β)(d:β){i:Nat}(hi:i<t.length):(jA f [] (t ++ [x])).getD i d=(jA f [] t).getD i d:=by
 rw [iK];have h:i<(jA f [] t).length:=by rw [eG];simpa using hi
 simp only [List.getD];rw [List.getElem?_append_left h]
theorem sC {i:Nat}(hi:i<t.length):(t ++ [x]).getD i default=t.getD i default:=by
 simp only [List.getD];rw [List.getElem?_append_left hi]
theorem lC:(t ++ [x]).getD t.length default=x:=by
 simp [List.getD]
theorem aFp {i:Nat}(hi:i<t.length)(h:qC t i):qC (t ++ [x]) i:=by
 have hn:=h.node;have hm:=h.many;have hv:=h.vals;have hl:=h.len;have hs:=h.size
 have hkd:(t.getD i default).kind=4->((t.getD i default).kids.getD 0 0).toNat<t.length:=fun h4=>by
  have hb:=hn.bind h4;have hz:=hn.kids _ (aD (d:=0) (show 0<(t.getD i default).kids.length by omega));omega
 refine ⟨?_,?_,?_,?_,?_⟩
 ·rw [sC hi];exact hn
 ·rw [show (aP (t ++ [x])).getD i 0=(aP t).getD i 0 from tX fN 0 hi];exact hl
 ·rw [show (bO (t ++ [x])).getD i 0=(bO t).getD i 0 from tX fE 0 hi];exact hs
 ·rw [sC hi];intro h4
  rw [show (aG (t ++ [x])).getD _ default=(aG t).getD _ default from tX cH default (hkd h4)];exact hm h4
 ·rw [sC hi];intro h4
  rw [show (aG (t ++ [x])).getD _ default=(aG t).getD _ default from tX cH default (hkd h4)];exact hv h4
end
def bK (n:Int):GN:=⟨0,ByteArray.empty,0,0,[],[],[],[],.mk 0 n ByteArray.empty []⟩
structure fL (t:List GN):Prop where
 good:bY t=0
 few:∀ x ∈ t,x.kind=3->x.kids.length<=4
 small:∀ x ∈ t,dG x
theorem fL.sm {t:List GN}(h:fL t):qQ t:=fun x hx=>(h.small x hx).2.2.2.2.1
theorem fL.nil:fL []:=⟨rfl,fun _ h=>(by simp at h),fun _ h=>(by simp at h)⟩
theorem fL.add {t:List GN}{x:GN}(h:fL t)(hv:bY (t ++ [x])=0)(hf:x.kind=3->x.kids.length<=4)(hs:dG x):fL (t ++ [x]) :=
 ⟨hv,fun y hy=>by
  rcases List.mem_append.1 hy with hy | hy
  ·exact h.few y hy
  ·simp only [List.mem_singleton] at hy;subst hy;exact hf,fun y hy=>by
  rcases List.mem_append.1 hy with hy | hy
  ·exact h.small y hy
  ·simp only [List.mem_singleton] at hy;subst hy;exact hs⟩
theorem mY:aY ByteArray.empty=true:=by unfold aY;rw [jQ];rfl
theorem vO (n:Int)(j:Nat):dL j (bK n):=by
 have hV:eF (.mk 0 n ByteArray.empty [])=0:=by
  unfold eF;have h1:dU aH (.mk 0 n ByteArray.empty [])=true:=by simp [cC,GV.kids,eP,aH,GV.kind,GV.s,mY]
  have h2:dU cA (.mk 0 n ByteArray.empty [])=true:=by simp [cC,GV.kids,eP,cA,GV.kind]
  have h3:rsz (.mk 0 n ByteArray.empty [])=1:=by rw [mU];simp [GV.kids,fM]
  rw [h1,h2,h3];simp
 refine ⟨eh,?_,eh,eh,eh,eh,Inc.nil,?_,?_⟩
 ·simp [bK,fW,unA,unB,unC,mY]
 ·simp [bK,bU,cQ,hV]
 ·simp [bK,bJ,uE]
theorem fL.leaf {t:List GN}(h:fL t)(hl:t.length<=100)(n:Int):fL (t ++ [bK n]):=by
 have hg:=dW.1 h.good;have hlen:(t ++ [bK n]).length=t.length+1:=by simp
 refine h.add (dW.2 ⟨Nat.le_refl _,D,fun j hj=>lS.2 ?_⟩) (fun h3=>by simp [bK] at h3) ⟨eh,eh,eh,eh,by simp [bK,gsz,jD],eh⟩
 by_cases hj':j<t.length
 ·exact aFp hj' (hg.at_ hj')
 ·obtain rfl:j=t.length:=by omega
  have e1:(aP (t ++ [bK n])).getD t.length 0=0:=by
   rw [tA D,lC];simp [fN,bK]
  have e2:(bO (t ++ [bK n])).getD t.length 0=1:=by
   rw [lD D,lC];simp [fE,bK,mU,GV.kids,fM]
  refine ⟨by rw [lC];exact vO n _,D,D,?_,?_⟩
  ·rw [lC];intro h4;simp [bK] at h4
  ·rw [lC];intro h4;simp [bK] at h4
theorem fL.vals {t:List GN}(h:fL t){j:Nat}(hj:j<t.length):∀ v ∈ ((aG t).getD j default).vals,gsz v<=1000000:=by
 intro v hv;have hg:=dW.1 h.good;have h1:=yK hg h.sm j hj v hv;have h2:=(sD hg h.sm j hj).2;omega
end Go.Proofs.YtkoeecdjijfjnaaGreat
