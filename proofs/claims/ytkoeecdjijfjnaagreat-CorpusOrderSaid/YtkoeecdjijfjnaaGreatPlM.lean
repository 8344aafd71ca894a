/- Plain laws: the values of the nodes of a valid tree are small; a tree with one node more. Conditions: none. -/
import Derived.Test.YtkoeecdjijfjnaaGreatPlL
import Derived.Test.YtkoeecdjijfjnaaGreatG3
namespace Go.Proofs.YtkoeecdjijfjnaaGreat
open Go.RowKit
theorem gszs_append:∀ (a b:List GV),gszs (a ++ b)=gszs a+gszs b
 | [],b=>by simp [gszs]
 | x :: xs,b=>by simp only [List.cons_append,gszs,gszs_append xs b];omega
theorem gsz_made (s:ByteArray)(r:List GV):gsz (madeV s r)=1+gszs r:=by
 unfold madeV
 split <;> simp only [gsz]
theorem seqRows_small {bl:List GL}{bs:List Int}:∀ (zs:List Int)(rows out:List (List GV))(s:Int),seqRows bl rows zs=some out→0≤s→s+1024*zs.length≤1000000000 →
  (∀ z ∈ zs,1≤bs.getD z.toNat 0∧bs.getD z.toNat 0≤1024)→(∀ z ∈ zs,∀ v ∈ (bl.getD z.toNat default).vals,(gsz v:Int)≤bs.getD z.toNat 0) →
  (∀ q ∈ rows,1+(gszs q:Int)≤s)→∀ r ∈ out,1+(gszs r:Int)≤lsumW bs s zs
 | [],rows,out,s,h,_,_,_,_,hr,r,hro=>by
  simp only [seqRows,Option.some.injEq] at h
  subst h
  simp only [lsumW]
  exact hr r hro
 | z :: zs,rows,out,s,h,h0,hs,hb,hv,hr,r,hro=>by
  simp only [seqRows] at h
  split at h
  ·cases h
  ·have hz:=hb z (by simp)
   simp only [List.length_cons] at hs
   simp only [lsumW]
   rw [wrap_id (by unfold I64;omega)]
   refine seqRows_small zs _ out _ h (by omega) (by omega) (fun y hy=>hb y (by simp [hy])) (fun y hy=>hv y (by simp [hy])) ?_ r hro
   intro q hq
   obtain ⟨q',hq',v,hv',rfl⟩:=rowsR_mem.1 hq
   have h1:=hr q' hq'
   have h2:=hv z (by simp) v hv'
   rw [gszs_append]
   simp only [gszs]
   omega
theorem uniR_sub {before:List GL}{bind:Bool}:∀ (zs:List Int)(k:Nat)(out:List GV)(m:Bool),∀ v ∈ (uniR before bind k out m zs).vals,v ∈ out∨∃ i,i<zs.length∧¬ (bind=true∧k+i=0)∧v ∈ (before.getD (zs.getD i 0).toNat default).vals
 | [],k,out,m,v,hv=>by
  simp only [uniR] at hv
  split at hv
  ·simp at hv
  ·exact .inl hv
 | z :: zs,k,out,m,v,hv=>by
  simp only [uniR] at hv
  split at hv
  ·rcases uniR_sub zs (k+1) out m v hv with h | ⟨i,h1,h2,h3⟩
   ·exact .inl h
   ·exact .inr ⟨i+1,by simpa using h1,by omega,by simpa using h3⟩
  ·next hb =>
   rcases uniR_sub zs (k+1) _ _ v hv with h | ⟨i,h1,h2,h3⟩
   ·rcases List.mem_append.1 ((sortR_mem _ v).1 h) with h | h
    ·exact .inl h
    ·exact .inr ⟨0,by simp,by omega,by simpa using h⟩
   ·exact .inr ⟨i+1,by simpa using h1,by omega,by simpa using h3⟩
theorem lists_small {t:List GN}{i:Nat}(h:GoodTo t i)(hs:Small t):∀ j,j<i→∀ v ∈ ((listsR t).getD j default).vals,(gsz v:Int)≤(sizesR t).getD j 0:=by
 intro j
 induction j using Nat.strongRecOn with
 | ind j ih =>
  intro hj v hv
  have hjt:j<t.length:=by have:=h.1;omega
  have hn:=(h.at_ hj).node
  have hsz:=sizes_ok h hs
  have hx:=hs _ (getD_mem (d:=default) hjt)
  rw [lists_get hjt] at hv
  rw [sizes_get hjt]
  have hbz:∀ z:Int,0≤z→z<(j:Int)→1≤(sizesR (t.take j)).getD z.toNat 0∧(sizesR (t.take j)).getD z.toNat 0≤1024:=fun z h1 h2=>by
   rw [sizes_kid hjt ⟨h1,h2⟩];exact hsz _ (by omega)
  have hvz:∀ z:Int,0≤z→z<(j:Int)→∀ v ∈ ((listsR (t.take j)).getD z.toNat default).vals,(gsz v:Int)≤(sizesR (t.take j)).getD z.toNat 0:=fun z h1 h2=>by
   rw [sizes_kid hjt ⟨h1,h2⟩,lists_kid hjt ⟨h1,h2⟩];exact ih z.toNat (by omega) (by omega)
  have hkl:=(kids_few h hj).1
  generalize t.getD j default=x at *
  generalize sizesR (t.take j)=bs at *
  generalize listsR (t.take j)=bl at *
  unfold listR at hv
  unfold sizeR
  split at hv
  ·next h0 =>
   rw [if_pos h0]
   simp only [List.mem_singleton] at hv
   subst hv
   rw [rsz_gsz _ (by omega)]
   exact Int.le_refl _
  ·next h0 =>
   rw [if_neg h0]
   split at hv
   ·next h1 =>
    rw [if_pos h1]
    split at hv
    ·simp at hv
    ·obtain ⟨k,_,_,rfl⟩:=rangeV_mem.1 hv
     simp [gsz,gszs]
   ·next h1 =>
    rw [if_neg h1]
    split at hv
    ·next h3 =>
     rw [if_pos h3]
     unfold seqR at hv
     split at hv
     ·simp at hv
     ·next rows hrows =>
      have hv:=(sortR_mem _ v).1 hv
      obtain ⟨r,hr,rfl⟩:=List.mem_map.1 hv
      rw [gsz_made]
      have:=seqRows_small (bs:=bs) x.kids [[]] rows 1 hrows (by omega) (by omega) (fun z hz=>hbz z (hn.kids z hz).1 (hn.kids z hz).2) (fun z hz=>hvz z (hn.kids z hz).1 (hn.kids z hz).2) (fun q hq=>by simp only [List.mem_singleton] at hq;subst hq;simp [gszs]) r hr
      omega
    ·next h3 =>
     rw [if_neg h3]
     rcases uniR_sub _ _ _ _ v hv with hv | ⟨i,h1,h2,h3⟩
     ·simp at hv
     ·have hz:=hn.kids _ (getD_mem (d:=0) h1)
      have hle:=hvz _ hz.1 hz.2 v h3
      have hkd:=hn.kind
      refine Int.le_trans hle ((lmostW_ge x.kids 0 0).2 i h1 ?_)
      by_cases h4:x.kind=4
      ·exact .inr (by simp only [h4,decide_true,true_and] at h2;omega)
      ·exact .inl (decide_eq_true (by omega))
section
variable {t:List GN}{x:GN}
theorem acc_old {β:Type}(f:List β→GN→β)(d:β){i:Nat}(hi:i<t.length):(accL f [] (t ++ [x])).getD i d=(accL f [] t).getD i d:=by
 rw [accL_snoc]
 have h:i<(accL f [] t).length:=by rw [accL_len];simpa using hi
 simp only [List.getD]
 rw [List.getElem?_append_left h]
theorem snoc_old {i:Nat}(hi:i<t.length):(t ++ [x]).getD i default=t.getD i default:=by
 simp only [List.getD]
 rw [List.getElem?_append_left hi]
theorem snoc_new:(t ++ [x]).getD t.length default=x:=by
 simp [List.getD]
theorem check_old {i:Nat}(hi:i<t.length)(h:CheckOK t i):CheckOK (t ++ [x]) i:=by
 have hn:=h.node
 have hm:=h.many
 have hv:=h.vals
 have hl:=h.len
 have hs:=h.size
 have hkd:(t.getD i default).kind=4→((t.getD i default).kids.getD 0 0).toNat<t.length:=fun h4=>by
  have hb:=hn.bind h4
  have hz:=hn.kids _ (getD_mem (d:=0) (show 0<(t.getD i default).kids.length by omega))
  omega
 refine ⟨?_,?_,?_,?_,?_⟩
 ·rw [snoc_old hi];exact hn
 ·rw [show (lensR (t ++ [x])).getD i 0=(lensR t).getD i 0 from acc_old lenR 0 hi];exact hl
 ·rw [show (sizesR (t ++ [x])).getD i 0=(sizesR t).getD i 0 from acc_old sizeR 0 hi];exact hs
 ·rw [snoc_old hi];intro h4
  rw [show (listsR (t ++ [x])).getD _ default=(listsR t).getD _ default from acc_old listR default (hkd h4)];exact hm h4
 ·rw [snoc_old hi];intro h4
  rw [show (listsR (t ++ [x])).getD _ default=(listsR t).getD _ default from acc_old listR default (hkd h4)];exact hv h4
end
def numLeaf (n:Int):GN:=⟨0,ByteArray.empty,0,0,[],[],[],[],.mk 0 n ByteArray.empty []⟩
structure GenOK (t:List GN):Prop where
 good:validT t=0
 few:∀ x ∈ t,x.kind=3→x.kids.length≤4
 small:∀ x ∈ t,SmallN x
theorem GenOK.sm {t:List GN}(h:GenOK t):Small t:=fun x hx=>(h.small x hx).2.2.2.2.1
theorem GenOK.nil:GenOK []:=⟨rfl,fun _ h=>(by simp at h),fun _ h=>(by simp at h)⟩
theorem GenOK.add {t:List GN}{x:GN}(h:GenOK t)(hv:validT (t ++ [x])=0)(hf:x.kind=3→x.kids.length≤4)(hs:SmallN x):GenOK (t ++ [x]) :=
 ⟨hv,fun y hy=>by
  rcases List.mem_append.1 hy with hy | hy
  ·exact h.few y hy
  ·simp only [List.mem_singleton] at hy;subst hy;exact hf,fun y hy=>by
  rcases List.mem_append.1 hy with hy | hy
  ·exact h.small y hy
  ·simp only [List.mem_singleton] at hy;subst hy;exact hs⟩
theorem emptyB_empty:emptyB ByteArray.empty=true:=by unfold emptyB;rw [empty_toList];rfl
theorem numLeaf_node (n:Int)(j:Nat):NodeOK j (numLeaf n):=by
 have hV:validR (.mk 0 n ByteArray.empty [])=0:=by
  unfold validR
  have h1:allB formedB (.mk 0 n ByteArray.empty [])=true:=by simp [allB_eq,GV.kids,allsB,formedB,GV.kind,GV.s,emptyB_empty]
  have h2:allB nwideB (.mk 0 n ByteArray.empty [])=true:=by simp [allB_eq,GV.kids,allsB,nwideB,GV.kind]
  have h3:rsz (.mk 0 n ByteArray.empty [])=1:=by rw [rsz_eq];simp [GV.kids,rszs_nil]
  rw [h1,h2,h3]
  simp
 refine ⟨by simp [numLeaf],?_,by simp [numLeaf],by simp [numLeaf],by simp [numLeaf],by simp [numLeaf],Inc.nil,?_,?_⟩
 ·simp [numLeaf,unusedB,unA,unB,unC,emptyB_empty]
 ·simp [numLeaf,ownVals,firstErr,hV]
 ·simp [numLeaf,numbersB,numA]
theorem GenOK.leaf {t:List GN}(h:GenOK t)(hl:t.length≤100)(n:Int):GenOK (t ++ [numLeaf n]):=by
 have hg:=validT_ok.1 h.good
 have hlen:(t ++ [numLeaf n]).length=t.length+1:=by simp
 refine h.add (validT_ok.2 ⟨Nat.le_refl _,by omega,fun j hj=>checkR_ok.2 ?_⟩) (fun h3=>by simp [numLeaf] at h3) ⟨by simp [numLeaf],by simp [numLeaf],by simp [numLeaf],by simp [numLeaf],by simp [numLeaf,gsz,gszs],by simp [numLeaf]⟩
 by_cases hj':j<t.length
 ·exact check_old hj' (hg.at_ hj')
 ·obtain rfl:j=t.length:=by omega
  have e1:(lensR (t ++ [numLeaf n])).getD t.length 0=0:=by
   rw [lens_get (by omega),snoc_new];simp [lenR,numLeaf]
  have e2:(sizesR (t ++ [numLeaf n])).getD t.length 0=1:=by
   rw [sizes_get (by omega),snoc_new];simp [sizeR,numLeaf,rsz_eq,GV.kids,rszs_nil]
  refine ⟨by rw [snoc_new];exact numLeaf_node n _,by omega,by omega,?_,?_⟩
  ·rw [snoc_new];intro h4;simp [numLeaf] at h4
  ·rw [snoc_new];intro h4;simp [numLeaf] at h4
theorem GenOK.vals {t:List GN}(h:GenOK t){j:Nat}(hj:j<t.length):∀ v ∈ ((listsR t).getD j default).vals,gsz v≤1000000:=by
 intro v hv
 have hg:=validT_ok.1 h.good
 have h1:=lists_small hg h.sm j hj v hv
 have h2:=(sizes_ok hg h.sm j hj).2
 omega
end Go.Proofs.YtkoeecdjijfjnaaGreat
