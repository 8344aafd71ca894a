/- Contracts of functions. Conditions: none. -/
import Derived.Test.YtkoeecdjijfjnaaGreatPlL
import Derived.Test.YtkoeecdjijfjnaaGreatG3
set_option maxRecDepth 100000
set_option maxHeartbeats 8000000
namespace Go.Proofs.YtkoeecdjijfjnaaGreat
open Go.RowKit
theorem pN:∀ (a b:List GV),kH (a ++ b)=kH a+kH b
 | [],b=>by simp [kH]
 | x :: xs,b=>by simp only [List.cons_append,kH,pN xs b];omega
theorem aHe (s:ByteArray)(r:List GV):gsz (bW s r)=1+kH r:=by
 unfold bW
 split <;> simp only [gsz]
theorem lP {bl:List GL}{bs:List Int}:∀ (zs:List Int)(rows out:List (List GV))(s:Int),bO bl rows zs=some out->0<=s->s+1024*zs.length<=1000000000 ->
  (∀ z ∈ zs,1<=bs.getD z.toNat 0∧bs.getD z.toNat 0<=1024)->(∀ z ∈ zs,∀ v ∈ (bl.getD z.toNat default).vals,(gsz v:Int)<=bs.getD z.toNat 0) ->
  (∀ q ∈ rows,1+(kH q:Int)<=s)->∀ r ∈ out,1+(kH r:Int)<=dG bs s zs
 | [],rows,out,s,h,_,_,_,_,hr,r,hro=>by
  simp only [bO,Option.some.injEq] at h;subst h;simp only [dG];exact hr r hro
 | z :: zs,rows,out,s,h,h0,hs,hb,hv,hr,r,hro=>by
  simp only [bO] at h
  split at h
  ·cases h
  ·have hz:=hb z Y
   simp only [List.length_cons] at hs;simp only [dG];rw [oO aj];refine lP zs _ out _ h U U (fun y hy=>hb y ao) (fun y hy=>hv y ao) ?_ r hro;intro q hq;obtain ⟨q',hq',v,hv',rfl⟩:=jR.1 hq;have h1:=hr q' hq';have h2:=hv z Y v hv';rw [pN];simp only [kH];omega
theorem sM {before:List GL}{bind:Bool}:∀ (zs:List Int)(k:Nat)(out:List GV)(m:Bool),∀ v ∈ (jC before bind k out m zs).vals,v ∈ out∨∃ i,i<zs.length∧¬ (bind=true∧k+i=0)∧v ∈ (before.getD (zs.getD i 0).toNat default).vals
 | [],k,out,m,v,hv=>by
  simp only [jC] at hv
  split at hv
  ·simp at hv
  ·exact .inl hv
 | z :: zs,k,out,m,v,hv=>by
  simp only [jC] at hv
  split at hv
  ·rcases sM zs (k+1) out m v hv with h | ⟨i,h1,h2,h3⟩
   ·exact .inl h
   ·exact .inr ⟨i+1,by simpa using h1,U,by simpa using h3⟩
  ·next hb =>
   rcases sM zs (k+1) _ _ v hv with h | ⟨i,h1,h2,h3⟩
   ·rcases List.mem_append.1 ((eQ _ v).1 h) with h | h
    ·exact .inl h
    ·exact .inr ⟨0,Y,U,ex⟩
   ·exact .inr ⟨i+1,by simpa using h1,U,by simpa using h3⟩
theorem yW {t:List GN}{i:Nat}(h:bD t i)(hs:qI t):∀ j,j<i->∀ v ∈ ((aD t).getD j default).vals,(gsz v:Int)<=(bK t).getD j 0:=by
 intro j
 induction j using Nat.strongRecOn with
 | ind j ih =>
  intro hj v hv;have hjt:j<t.length:=by have:=h.1;omega
  have hn:=(h.at_ hj).node;have hsz:=sR h hs;have hx:=hs _ (aF (d:=default) hjt);rw [iG hjt] at hv;rw [lO hjt]
  have hbz:∀ z:Int,0<=z->z<(j:Int)->1<=(bK (t.take j)).getD z.toNat 0∧(bK (t.take j)).getD z.toNat 0<=1024:=fun z h1 h2=>by
   rw [jO hjt ⟨h1,h2⟩];exact hsz _ U
  have hvz:∀ z:Int,0<=z->z<(j:Int)->∀ v ∈ ((aD (t.take j)).getD z.toNat default).vals,(gsz v:Int)<=(bK (t.take j)).getD z.toNat 0:=fun z h1 h2=>by
   rw [jO hjt ⟨h1,h2⟩,gH hjt ⟨h1,h2⟩];exact ih z.toNat U U
  have hkl:=(fE h hj).1;generalize t.getD j default=x at *;generalize bK (t.take j)=bs at *;generalize aD (t.take j)=bl at *;unfold cG at hv;unfold jH
  split at hv
  ·next h0 =>
   rw [if_pos h0];simp only [List.mem_singleton] at hv;subst hv;rw [yK _ U];exact Int.le_refl _
  ·next h0 =>
   rw [if_neg h0]
   split at hv
   ·next h1 =>
    rw [if_pos h1]
    split at hv
    ·simp at hv
    ·obtain ⟨k,_,_,rfl⟩:=iB.1 hv
     simp [gsz,kH]
   ·next h1 =>
    rw [if_neg h1]
    split at hv
    ·next h3 =>
     rw [if_pos h3];unfold vN at hv
     split at hv
     ·simp at hv
     ·next rows hrows =>
      have hv:=(eQ _ v).1 hv;obtain ⟨r,hr,rfl⟩:=List.mem_map.1 hv;rw [aHe];have:=lP (bs:=bs) x.kids [[]] rows 1 hrows U U (fun z hz=>hbz z (hn.kids z hz).1 (hn.kids z hz).2) (fun z hz=>hvz z (hn.kids z hz).1 (hn.kids z hz).2) (fun q hq=>by simp only [List.mem_singleton] at hq;subst hq;simp [kH]) r hr;omega
    ·next h3 =>
     rw [if_neg h3];rcases sM _ _ _ _ v hv with hv | ⟨i,h1,h2,h3⟩
     ·simp at hv
     ·have hz:=hn.kids _ (aF (d:=0) h1)
      have hle:=hvz _ hz.1 hz.2 v h3;have hkd:=hn.kind;refine Int.le_trans hle ((eW x.kids 0 0).2 i h1 ?_)
      by_cases h4:x.kind=4
      ·exact .inr (by simp only [h4,decide_true,true_and] at h2;omega)
      ·exact .inl (aYo U)
section
variable {t:List GN}{x:GN}
theorem uN {β:Type}(f:List β->GN->β)(d:β){i:Nat}(hi:i<t.length):(jF f [] (t ++ [x])).getD i d=(jF f [] t).getD i d:=by
 rw [iJ];have h:i<(jF f [] t).length:=by rw [eH];simpa using hi
 simp only [List.getD];rw [List.getElem?_append_left h]
theorem sQ {i:Nat}(hi:i<t.length):(t ++ [x]).getD i default=t.getD i default:=by
 simp only [List.getD];rw [List.getElem?_append_left hi]
theorem lM:(t ++ [x]).getD t.length default=x:=by
 simp [List.getD]
theorem aFd {i:Nat}(hi:i<t.length)(h:qK t i):qK (t ++ [x]) i:=by
 have hn:=h.node;have hm:=h.many;have hv:=h.vals;have hl:=h.len;have hs:=h.size
 have hkd:(t.getD i default).kind=4->((t.getD i default).kids.getD 0 0).toNat<t.length:=fun h4=>by
  have hb:=hn.bind h4;have hz:=hn.kids _ (aF (d:=0) (show 0<(t.getD i default).kids.length by omega));omega
 refine ⟨?_,?_,?_,?_,?_⟩
 ·rw [sQ hi];exact hn
 ·rw [show (aM (t ++ [x])).getD i 0=(aM t).getD i 0 from uN gO 0 hi];exact hl
 ·rw [show (bK (t ++ [x])).getD i 0=(bK t).getD i 0 from uN jH 0 hi];exact hs
 ·rw [sQ hi];intro h4
  rw [show (aD (t ++ [x])).getD _ default=(aD t).getD _ default from uN cG default (hkd h4)];exact hm h4
 ·rw [sQ hi];intro h4
  rw [show (aD (t ++ [x])).getD _ default=(aD t).getD _ default from uN cG default (hkd h4)];exact hv h4
end
def bG (n:Int):GN:=⟨0,ByteArray.empty,0,0,[],[],[],[],.mk 0 n ByteArray.empty []⟩
structure gM (t:List GN):Prop where
 good:cC t=0
 few:∀ x ∈ t,x.kind=3->x.kids.length<=4
 small:∀ x ∈ t,jG x
theorem gM.sm {t:List GN}(h:gM t):qI t:=fun x hx=>(h.small x hx).2.2.2.2.1
theorem gM.nil:gM []:=⟨rfl,fun _ h=>(by simp at h),fun _ h=>(by simp at h)⟩
theorem gM.add {t:List GN}{x:GN}(h:gM t)(hv:cC (t ++ [x])=0)(hf:x.kind=3->x.kids.length<=4)(hs:jG x):gM (t ++ [x]) :=
 ⟨hv,fun y hy=>by
  rcases List.mem_append.1 hy with hy | hy
  ·exact h.few y hy
  ·simp only [List.mem_singleton] at hy;subst hy;exact hf,fun y hy=>by
  rcases List.mem_append.1 hy with hy | hy
  ·exact h.small y hy
  ·simp only [List.mem_singleton] at hy;subst hy;exact hs⟩
theorem nN:aY ByteArray.empty=true:=by unfold aY;rw [jW];rfl
theorem wF (n:Int)(j:Nat):dJ j (bG n):=by
 have hV:eE (.mk 0 n ByteArray.empty [])=0:=by
  unfold eE;have h1:dR aE (.mk 0 n ByteArray.empty [])=true:=by simp [bZ,GV.kids,eO,aE,GV.kind,GV.s,nN]
  have h2:dR bX (.mk 0 n ByteArray.empty [])=true:=by simp [bZ,GV.kids,eO,bX,GV.kind]
  have h3:rsz (.mk 0 n ByteArray.empty [])=1:=by rw [nJ];simp [GV.kids,fD]
  rw [h1,h2,h3];simp
 refine ⟨ei,?_,ei,ei,ei,ei,Inc.nil,?_,?_⟩
 ·simp [bG,gT,unA,unB,unC,nN]
 ·simp [bG,bT,cQ,hV]
 ·simp [bG,bF,uU]
theorem gM.leaf {t:List GN}(h:gM t)(hl:t.length<=100)(n:Int):gM (t ++ [bG n]):=by
 have hg:=fI.1 h.good;have hlen:(t ++ [bG n]).length=t.length+1:=by simp
 refine h.add (fI.2 ⟨Nat.le_refl _,U,fun j hj=>mF.2 ?_⟩) (fun h3=>by simp [bG] at h3) ⟨ei,ei,ei,ei,by simp [bG,gsz,kH],ei⟩
 by_cases hj':j<t.length
 ·exact aFd hj' (hg.at_ hj')
 ·obtain rfl:j=t.length:=by omega
  have e1:(aM (t ++ [bG n])).getD t.length 0=0:=by
   rw [tQ U,lM];simp [gO,bG]
  have e2:(bK (t ++ [bG n])).getD t.length 0=1:=by
   rw [lO U,lM];simp [jH,bG,nJ,GV.kids,fD]
  refine ⟨by rw [lM];exact wF n _,U,U,?_,?_⟩
  ·rw [lM];intro h4;simp [bG] at h4
  ·rw [lM];intro h4;simp [bG] at h4
theorem gM.vals {t:List GN}(h:gM t){j:Nat}(hj:j<t.length):∀ v ∈ ((aD t).getD j default).vals,gsz v<=1000000:=by
 intro v hv;have hg:=fI.1 h.good;have h1:=yW hg h.sm j hj v hv;have h2:=(sR hg h.sm j hj).2;omega
end Go.Proofs.YtkoeecdjijfjnaaGreat
