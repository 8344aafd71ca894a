/- Contracts of functions, plain laws. Conditions: none. -/
import Derived.Test.YtkoeecdjijfjnaaGreatQ3
import Derived.Test.YtkoeecdjijfjnaaGreatPlL
import Derived.Test.YtkoeecdjijfjnaaGreatG3
set_option maxRecDepth 100000
set_option maxHeartbeats 8000000
namespace Go.Proofs.YtkoeecdjijfjnaaGreat
open Go.RowKit
theorem tX (l:List Int)(i j:Nat)(P:Nat->Prop)(v:Value)(w:World)(hv:bT w P v l)(hi:1<=i)(hi2:i<=1000)(hj:j<=1000) :
  Calls Tryz.prog 40 #[v,.int .i64 i,.int .i64 j] w fun e w'=>∃ n:Int,e=.returned (.int .i64 n)∧(0<=n∧n<i)∧w=w':=by
 have HC:=aV4 (kK l (3*(i:Int)+(j:Int)+2) 1000000 P v w hv (by unfold I64;omega) (by omega) (by omega));have hb:=kJ (l:=l) (i:=3*(i:Int)+(j:Int)+2) (m:=1000000) (by omega);generalize pick l (3*(i:Int)+(j:Int)+2) 1000000=k at *;obtain ⟨A,c,e,h1,h2⟩:=hv.form;subst e;clear hv
 by_cases h3:k % 3=0
 ·go_enter Tryz.func40,Tryz.ntmps40
  go_wp2_with (go_at_call 38;refine HC.out.mono ?_;rintro e w' ⟨rfl,rfl⟩);go_ret;exact ⟨_,rfl,⟨Int.emod_nonneg _ (by omega),Int.emod_lt_of_pos _ (by omega)⟩,rfl⟩
 ·go_enter Tryz.func40,Tryz.ntmps40
  go_wp2_with (go_at_call 38;refine HC.out.mono ?_;rintro e w' ⟨rfl,rfl⟩)
  all_goals
   go_ret;exact ⟨_,rfl,by omega,rfl⟩
def aFh (w:World)(e:Ending)(w':World):Prop:=∃ x A c,e=.returned (eI x A c)∧VAt w' (fun b=>w.heap.size<=b) x A c∧gsz x<=2∧Ext w w'
theorem VAt.noKids {w:World}{P:Nat->Prop}{k n:Int}{s:ByteArray}(hk:I64 k)(hn:I64 n)(hs:s.size<=100):VAt w P (.mk k n s []) none 0 :=
 ⟨hk,hn,by show s.size<=_;omega,Nat.le_refl _,by simp [GV.kids],⟨none,0,[],rfl,by simp [GV.kids],by simp [GV.kids],⟨by simp [GV.kids],fun h=>absurd h (by simp [GV.kids])⟩,by simp [GV.kids,RVs]⟩⟩
theorem zP (k:Int)(w:World)(h0:0<=k)(h1:k<=1000000):Calls Tryz.prog 39 #[.int .i64 k] w (aFh w):=by
 by_cases h3:k % 4=0
 ·go_enter Tryz.func39,Tryz.ntmps39
  go_wp2_with fail;exact bodyPost_ret (v:=.agg #[.int .i64 0,.int .i64 (k / 4 % 9 - 4),.string ⟨#[]⟩,.slice none 0 0]) (by simp [results,Tryz.results39,go_sem]) rfl ⟨.mk 0 (k / 4 % 9 - 4) ⟨#[]⟩ [],none,0,rfl,VAt.noKids (by unfold I64;omega) (by unfold I64;omega) (by decide),by simp [gsz,jO],(Ext.refl _).alloc' _⟩
 ·by_cases h4:k % 4=1
  ·go_enter Tryz.func39,Tryz.ntmps39
   go_wp2_with fail;exact bodyPost_ret (v:=.agg #[.int .i64 1,.int .i64 (k / 4 % 2),.string ⟨#[]⟩,.slice none 0 0]) (by simp [results,Tryz.results39,go_sem]) rfl ⟨.mk 1 (k / 4 % 2) ⟨#[]⟩ [],none,0,rfl,VAt.noKids (by unfold I64;omega) (by unfold I64;omega) (by decide),by simp [gsz,jO],(Ext.refl _).alloc' _⟩
  ·by_cases h5:k % 4=2
   ·have hm:k / 4 % 3=0∨k / 4 % 3=1∨k / 4 % 3=2:=by omega
    rcases hm with hm | hm | hm
    ·go_enter Tryz.func39,Tryz.ntmps39
     go_wp2_with fail;exact bodyPost_ret (v:=.agg #[.int .i64 3,.int .i64 0,.string ⟨#[76,101,97,102]⟩,.slice none 0 0]) (by simp [results,Tryz.results39,go_sem]) rfl ⟨.mk 3 0 ⟨#[76,101,97,102]⟩ [],none,0,rfl,VAt.noKids (by unfold I64;omega) (by unfold I64;omega) (by decide),by simp [gsz,jO],((Ext.refl _).alloc' _).alloc' _⟩
    ·go_enter Tryz.func39,Tryz.ntmps39
     go_wp2_with fail;exact bodyPost_ret (v:=.agg #[.int .i64 3,.int .i64 0,.string ⟨#[82,101,100]⟩,.slice none 0 0]) (by simp [results,Tryz.results39,go_sem]) rfl ⟨.mk 3 0 ⟨#[82,101,100]⟩ [],none,0,rfl,VAt.noKids (by unfold I64;omega) (by unfold I64;omega) (by decide),by simp [gsz,jO],((Ext.refl _).alloc' _).alloc' _⟩
    ·go_enter Tryz.func39,Tryz.ntmps39
     go_wp2_with fail;exact bodyPost_ret (v:=.agg #[.int .i64 3,.int .i64 0,.string ⟨#[88]⟩,.slice none 0 0]) (by simp [results,Tryz.results39,go_sem]) rfl ⟨.mk 3 0 ⟨#[88]⟩ [],none,0,rfl,VAt.noKids (by unfold I64;omega) (by unfold I64;omega) (by decide),by simp [gsz,jO],((Ext.refl _).alloc' _).alloc' _⟩
   ·go_enter Tryz.func39,Tryz.ntmps39
    go_wp2_with fail;have hB:=Blk.new' (w.alloc (.cells #[.int .i64 2,.int .i64 0,.string ⟨#[]⟩,.slice (some ⟨w.heap.size+1,0,none⟩) 1 1] 85)) 85 #[.int .i64 0,.int .i64 (k / 4 % 3),.string ⟨#[]⟩,.slice none 0 0] (g:=w.heap.size+1) (by simp);have hq:I64 (k / 4 % 3):=by unfold I64;omega
    have hz:I64 0:=by unfold I64;omega
    have h2:I64 2:=by unfold I64;omega
    refine bodyPost_ret (v:=.agg #[.int .i64 2,.int .i64 0,.string ⟨#[]⟩,.slice (some ⟨w.heap.size+1,0,none⟩) 1 1]) (by simp [results,Tryz.results39,go_sem]) rfl ⟨.mk 2 0 ⟨#[]⟩ [.mk 0 (k / 4 % 3) ⟨#[]⟩ []],some ⟨w.heap.size+1,0,none⟩,1,rfl,⟨h2,hz,by show (0:Nat)<=_;omega,by show 1<=1;omega,by show 1<=_∧1<=_;omega,⟨some ⟨w.heap.size+1,0,none⟩,1,[.int .i64 0,.int .i64 (k / 4 % 3),.string ⟨#[]⟩,.slice none 0 0],rfl,by show 1<=1;omega,by show 1<=_∧1<=_;omega,⟨rfl,fun _=>⟨w.heap.size+1,0,rfl,by show w.heap.size<=w.heap.size+1;omega,fun j u hu=>by rw [Nat.zero_add];exact hB.cell' j (by simpa using hu)⟩⟩,RVs.one (VAt.noKids (w:=_) (P:=_) hz hq (by decide)).rv⟩⟩,by simp [gsz,jO],((Ext.refl _).alloc' _).alloc' _⟩
theorem pU:∀ (a b:List GV),jO (a ++ b)=jO a+jO b
 | [],b=>by simp [jO]
 | x :: xs,b=>by simp only [List.cons_append,jO,pU xs b];omega
theorem aHy (s:ByteArray)(r:List GV):gsz (cE s r)=1+jO r:=by
 unfold cE
 split <;> simp only [gsz]
theorem lS {bl:List GL}{bs:List Int}:∀ (zs:List Int)(rows out:List (List GV))(s:Int),bS bl rows zs=some out->0<=s->s+1024*zs.length<=1000000000 ->
  (∀ z ∈ zs,1<=bs.getD z.toNat 0∧bs.getD z.toNat 0<=1024)->(∀ z ∈ zs,∀ v ∈ (bl.getD z.toNat default).vals,(gsz v:Int)<=bs.getD z.toNat 0) ->
  (∀ q ∈ rows,1+(jO q:Int)<=s)->∀ r ∈ out,1+(jO r:Int)<=bZ bs s zs
 | [],rows,out,s,h,_,_,_,_,hr,r,hro=>by
  simp only [bS,Option.some.injEq] at h;subst h;simp only [bZ];exact hr r hro
 | z :: zs,rows,out,s,h,h0,hs,hb,hv,hr,r,hro=>by
  simp only [bS] at h
  split at h
  ·cases h
  ·have hz:=hb z (by simp)
   simp only [List.length_cons] at hs;simp only [bZ];rw [oQ (by unfold I64;omega)];refine lS zs _ out _ h (by omega) (by omega) (fun y hy=>hb y (by simp [hy])) (fun y hy=>hv y (by simp [hy])) ?_ r hro;intro q hq;obtain ⟨q',hq',v,hv',rfl⟩:=jX.1 hq;have h1:=hr q' hq';have h2:=hv z (by simp) v hv';rw [pU];simp only [jO];omega
theorem sV {before:List GL}{bind:Bool}:∀ (zs:List Int)(k:Nat)(out:List GV)(m:Bool),∀ v ∈ (jH before bind k out m zs).vals,v ∈ out∨∃ i,i<zs.length∧¬ (bind=true∧k+i=0)∧v ∈ (before.getD (zs.getD i 0).toNat default).vals
 | [],k,out,m,v,hv=>by
  simp only [jH] at hv
  split at hv
  ·simp at hv
  ·exact .inl hv
 | z :: zs,k,out,m,v,hv=>by
  simp only [jH] at hv
  split at hv
  ·rcases sV zs (k+1) out m v hv with h | ⟨i,h1,h2,h3⟩
   ·exact .inl h
   ·exact .inr ⟨i+1,by simpa using h1,by omega,by simpa using h3⟩
  ·next hb =>
   rcases sV zs (k+1) _ _ v hv with h | ⟨i,h1,h2,h3⟩
   ·rcases List.mem_append.1 ((eY _ v).1 h) with h | h
    ·exact .inl h
    ·exact .inr ⟨0,by simp,by omega,by simpa using h⟩
   ·exact .inr ⟨i+1,by simpa using h1,by omega,by simpa using h3⟩
theorem yD {t:List GN}{i:Nat}(h:bJ t i)(hs:oA t):∀ j,j<i->∀ v ∈ ((aI t).getD j default).vals,(gsz v:Int)<=(bP t).getD j 0:=by
 intro j
 induction j using Nat.strongRecOn with
 | ind j ih =>
  intro hj v hv;have hjt:j<t.length:=by have:=h.1;omega
  have hn:=(h.at_ hj).node;have hsz:=sY h hs;have hx:=hs _ (aG (d:=default) hjt);rw [iQ hjt] at hv;rw [lR hjt]
  have hbz:∀ z:Int,0<=z->z<(j:Int)->1<=(bP (t.take j)).getD z.toNat 0∧(bP (t.take j)).getD z.toNat 0<=1024:=fun z h1 h2=>by
   rw [jU hjt ⟨h1,h2⟩];exact hsz _ (by omega)
  have hvz:∀ z:Int,0<=z->z<(j:Int)->∀ v ∈ ((aI (t.take j)).getD z.toNat default).vals,(gsz v:Int)<=(bP (t.take j)).getD z.toNat 0:=fun z h1 h2=>by
   rw [jU hjt ⟨h1,h2⟩,gV hjt ⟨h1,h2⟩];exact ih z.toNat (by omega) (by omega)
  have hkl:=(fE h hj).1;generalize t.getD j default=x at *;generalize bP (t.take j)=bs at *;generalize aI (t.take j)=bl at *;unfold cN at hv;unfold fI
  split at hv
  ·next h0 =>
   rw [if_pos h0];simp only [List.mem_singleton] at hv;subst hv;rw [xS _ (by omega)];exact Int.le_refl _
  ·next h0 =>
   rw [if_neg h0]
   split at hv
   ·next h1 =>
    rw [if_pos h1]
    split at hv
    ·simp at hv
    ·obtain ⟨k,_,_,rfl⟩:=iK.1 hv
     simp [gsz,jO]
   ·next h1 =>
    rw [if_neg h1]
    split at hv
    ·next h3 =>
     rw [if_pos h3];unfold vO at hv
     split at hv
     ·simp at hv
     ·next rows hrows =>
      have hv:=(eY _ v).1 hv;obtain ⟨r,hr,rfl⟩:=List.mem_map.1 hv;rw [aHy];have:=lS (bs:=bs) x.kids [[]] rows 1 hrows (by omega) (by omega) (fun z hz=>hbz z (hn.kids z hz).1 (hn.kids z hz).2) (fun z hz=>hvz z (hn.kids z hz).1 (hn.kids z hz).2) (fun q hq=>by simp only [List.mem_singleton] at hq;subst hq;simp [jO]) r hr;omega
    ·next h3 =>
     rw [if_neg h3];rcases sV _ _ _ _ v hv with hv | ⟨i,h1,h2,h3⟩
     ·simp at hv
     ·have hz:=hn.kids _ (aG (d:=0) h1)
      have hle:=hvz _ hz.1 hz.2 v h3;have hkd:=hn.kind;refine Int.le_trans hle ((fD x.kids 0 0).2 i h1 ?_)
      by_cases h4:x.kind=4
      ·exact .inr (by simp only [h4,decide_true,true_and] at h2;omega)
      ·exact .inl (aV7 (by omega))
section
variable {t:List GN}{x:GN}
theorem uQ {β:Type}(f:List β->GN->β)(d:β){i:Nat}(hi:i<t.length):(jJ f [] (t ++ [x])).getD i d=(jJ f [] t).getD i d:=by
 rw [iR];have h:i<(jJ f [] t).length:=by rw [eM];simpa using hi
 simp only [List.getD];rw [List.getElem?_append_left h]
theorem sX {i:Nat}(hi:i<t.length):(t ++ [x]).getD i default=t.getD i default:=by
 simp only [List.getD];rw [List.getElem?_append_left hi]
theorem lQ:(t ++ [x]).getD t.length default=x:=by
 simp [List.getD]
theorem aE7 {i:Nat}(hi:i<t.length)(h:qR t i):qR (t ++ [x]) i:=by
 have hn:=h.node;have hm:=h.many;have hv:=h.vals;have hl:=h.len;have hs:=h.size
 have hkd:(t.getD i default).kind=4->((t.getD i default).kids.getD 0 0).toNat<t.length:=fun h4=>by
  have hb:=hn.bind h4;have hz:=hn.kids _ (aG (d:=0) (show 0<(t.getD i default).kids.length by omega));omega
 refine ⟨?_,?_,?_,?_,?_⟩
 ·rw [sX hi];exact hn
 ·rw [show (aT (t ++ [x])).getD i 0=(aT t).getD i 0 from uQ fQ 0 hi];exact hl
 ·rw [show (bP (t ++ [x])).getD i 0=(bP t).getD i 0 from uQ fI 0 hi];exact hs
 ·rw [sX hi];intro h4
  rw [show (aI (t ++ [x])).getD _ default=(aI t).getD _ default from uQ cN default (hkd h4)];exact hm h4
 ·rw [sX hi];intro h4
  rw [show (aI (t ++ [x])).getD _ default=(aI t).getD _ default from uQ cN default (hkd h4)];exact hv h4
end
def bF (n:Int):GN:=⟨0,ByteArray.empty,0,0,[],[],[],[],.mk 0 n ByteArray.empty []⟩
structure fJ (t:List GN):Prop where
 good:bW t=0
 few:∀ x ∈ t,x.kind=3->x.kids.length<=4
 small:∀ x ∈ t,dL x
theorem fJ.sm {t:List GN}(h:fJ t):oA t:=fun x hx=>(h.small x hx).2.2.2.2.1
theorem fJ.nil:fJ []:=⟨rfl,fun _ h=>(by simp at h),fun _ h=>(by simp at h)⟩
theorem fJ.add {t:List GN}{x:GN}(h:fJ t)(hv:bW (t ++ [x])=0)(hf:x.kind=3->x.kids.length<=4)(hs:dL x):fJ (t ++ [x]) :=
 ⟨hv,fun y hy=>by
  rcases List.mem_append.1 hy with hy | hy
  ·exact h.few y hy
  ·simp only [List.mem_singleton] at hy;subst hy;exact hf,fun y hy=>by
  rcases List.mem_append.1 hy with hy | hy
  ·exact h.small y hy
  ·simp only [List.mem_singleton] at hy;subst hy;exact hs⟩
theorem nM:bC ByteArray.empty=true:=by unfold bC;rw [kE];rfl
theorem wB (n:Int)(j:Nat):dP j (bF n):=by
 have hV:eJ (.mk 0 n ByteArray.empty [])=0:=by
  unfold eJ;have h1:dY aJ (.mk 0 n ByteArray.empty [])=true:=by simp [cI,GV.kids,eU,aJ,GV.kind,GV.s,nM]
  have h2:dY cF (.mk 0 n ByteArray.empty [])=true:=by simp [cI,GV.kids,eU,cF,GV.kind]
  have h3:rsz (.mk 0 n ByteArray.empty [])=1:=by rw [nI];simp [GV.kids,fP]
  rw [h1,h2,h3];simp
 refine ⟨by simp [bF],?_,by simp [bF],by simp [bF],by simp [bF],by simp [bF],Inc.nil,?_,?_⟩
 ·simp [bF,gP,unA,unB,unC,nM]
 ·simp [bF,bY,cU,hV]
 ·simp [bF,bM,uV]
theorem fJ.leaf {t:List GN}(h:fJ t)(hl:t.length<=100)(n:Int):fJ (t ++ [bF n]):=by
 have hg:=eX.1 h.good;have hlen:(t ++ [bF n]).length=t.length+1:=by simp
 refine h.add (eX.2 ⟨Nat.le_refl _,by omega,fun j hj=>mI.2 ?_⟩) (fun h3=>by simp [bF] at h3) ⟨by simp [bF],by simp [bF],by simp [bF],by simp [bF],by simp [bF,gsz,jO],by simp [bF]⟩
 by_cases hj':j<t.length
 ·exact aE7 hj' (hg.at_ hj')
 ·obtain rfl:j=t.length:=by omega
  have e1:(aT (t ++ [bF n])).getD t.length 0=0:=by
   rw [tW (by omega),lQ];simp [fQ,bF]
  have e2:(bP (t ++ [bF n])).getD t.length 0=1:=by
   rw [lR (by omega),lQ];simp [fI,bF,nI,GV.kids,fP]
  refine ⟨by rw [lQ];exact wB n _,by omega,by omega,?_,?_⟩
  ·rw [lQ];intro h4;simp [bF] at h4
  ·rw [lQ];intro h4;simp [bF] at h4
theorem fJ.vals {t:List GN}(h:fJ t){j:Nat}(hj:j<t.length):∀ v ∈ ((aI t).getD j default).vals,gsz v<=1000000:=by
 intro v hv;have hg:=eX.1 h.good;have h1:=yD hg h.sm j hj v hv;have h2:=(sY hg h.sm j hj).2;omega
section
variable {w w':World}{P Q:Nat->Prop}
theorem bT.nil:bT w P (.slice none 0 0) []:=⟨none,0,rfl,Nat.le_refl _,by simp,by simp,⟨rfl,fun h=>absurd h (by simp)⟩⟩
theorem qT.nil:qT w P (.slice none 0 0) []:=⟨none,0,[],rfl,Nat.le_refl _,by simp,⟨rfl,fun h=>absurd h (by simp)⟩,by simp [RL]⟩
theorem cB.nil:cB w P (.slice none 0 0) []:=⟨none,0,[],rfl,Nat.le_refl _,by simp,⟨rfl,fun h=>absurd h (by simp)⟩,by simp [RVs]⟩
end
theorem fB {w:World}{base:Nat}{e:TypeId}{size:Nat}{v:Value}{n:Nat}{xs:List Value}(h:w.ownsRow base e size v n xs){p:Addr}(hp:some p.block ≠ v.ownBlock)(u:Value):(w.setCell p u).ownsRow base e size v n xs:=by
 refine ⟨h.1,?_⟩;rcases h.2 with h3 | ⟨G,cap,cur,h4,h5,h6,h7⟩
 ·exact .inl h3
 ·exact .inr ⟨G,cap,cur,h4,h5,(Below.heap_setCell _ _ _ _ (fun e=>hp (by rw [h4];simp [Value.ownBlock,e]))).trans h6,h7⟩
def aFk (P:Nat->Prop)(w:World)(e:Ending)(w':World):Prop:=∃ x a,e=.returned (hH x a)∧NAt w' (New P w.heap.size) x a∧dL x∧x.kind ≠ 3∧Ext w w'
def aFt (n0:Nat)(Av:Option Addr)(cv:Nat)(gx B:Nat)(W:World)(jv:Value)(wr:World):Prop :=
 ∃ (j:Nat) (kids:List Int) (kv:Value),j<=n0∧jv=.int .i64 j∧kids.length=j+1∧(∀ z ∈ kids,I64 z)∧Blk wr gx 87 #[.int .i64 4,.string ⟨#[]⟩,.int .i64 0,.int .i64 0,.slice none 0 0,.slice none 0 0,.slice Av n0 cv,kv,.int .i64 0,.int .i64 0,.string ⟨#[]⟩,.slice none 0 0] ∧
  wr.ownsRow B 3 1 kv (j+1) (kids.map (Value.int .i64))∧some gx ≠ kv.ownBlock∧Ext W wr
theorem aIi (t:List GN)(l:List Int)(k:Int)(P Q:Nat->Prop)(vn vl:Value)(w:World)(hg:fJ t)(hlen:1<=t.length)(hlen2:t.length<=100)(hk0:0<=k)(hk1:k<=1000000)(hP:∀ b,P b->b<w.heap.size)(ht:Nds w P vn t)(hl:bT w Q vl l) :
  Calls Tryz.prog 41 #[.agg #[vn],vl,.int .i64 t.length,.int .i64 k] w (aFk P w):=by
 have HT:=aV4 ht;have HL:=aV4 hl;have HG:=aV4 hg;have HP:=aV4 hP;obtain ⟨An,cn,en,hn1,hn2⟩:=ht.form;subst en;obtain ⟨Al,cl,el,hl1,hl2⟩:=hl.form;subst el;obtain ⟨i0,hi,hz0,hz1,hz2⟩:=info_parts Tryz.info3;have HI:=aV4 hi;clear ht hl hg hP hi;go_enter Tryz.func41,Tryz.ntmps41;go_upto_region 1 with fail;have HE:=aV4 (show Ext w ((w.alloc (.cells #[.slice An t.length cn] 25)).alloc (.cells #[.int .i64 0,.string ⟨#[]⟩,.int .i64 0,.int .i64 0,.slice none 0 0,.slice none 0 0,.slice none 0 0,.slice none 0 0,.int .i64 0,.int .i64 0,.string ⟨#[]⟩,.slice none 0 0] 87)) from ((Ext.refl w).alloc' _).alloc' _);have HB:=aV4 ((Blk.new w 25 #[.slice An t.length cn]).alloc (.cells #[.int .i64 0,.string ⟨#[]⟩,.int .i64 0,.int .i64 0,.slice none 0 0,.slice none 0 0,.slice none 0 0,.slice none 0 0,.int .i64 0,.int .i64 0,.string ⟨#[]⟩,.slice none 0 0] 87));have HR:=aV4 (Blk.new' (w.alloc (.cells #[.slice An t.length cn] 25)) 87 #[.int .i64 0,.string ⟨#[]⟩,.int .i64 0,.int .i64 0,.slice none 0 0,.slice none 0 0,.slice none 0 0,.slice none 0 0,.int .i64 0,.int .i64 0,.string ⟨#[]⟩,.slice none 0 0] (g:=w.heap.size+1) (by simp));have hsz:w.heap.size+2<=((w.alloc (.cells #[.slice An t.length cn] 25)).alloc (.cells #[.int .i64 0,.string ⟨#[]⟩,.int .i64 0,.int .i64 0,.slice none 0 0,.slice none 0 0,.slice none 0 0,.slice none 0 0,.int .i64 0,.int .i64 0,.string ⟨#[]⟩,.slice none 0 0] 87)).heap.size:=by simp
 generalize (w.alloc (.cells #[.slice An t.length cn] 25)).alloc (.cells #[.int .i64 0,.string ⟨#[]⟩,.int .i64 0,.int .i64 0,.slice none 0 0,.slice none 0 0,.slice none 0 0,.slice none 0 0,.int .i64 0,.int .i64 0,.string ⟨#[]⟩,.slice none 0 0] 87)=W at *;have b0:=HB.out.cell' (u:=.slice An t.length cn) 0 rfl;go_upto_region 2 with (go_at_call 40;refine (tX l t.length 0 Q _ W (HL.out.ext HE.out) hlen (by omega) (by omega)).mono ?_;rintro e w1 ⟨nf,rfl,hnf,rfl⟩);obtain ⟨n,rfl⟩:∃ n:Nat,nf=(n:Int):=⟨nf.toNat,by omega⟩;have hnl:n<t.length:=by omega
 have HVS:=aV4 (HG.out.vals hnl);have hgood:=eX.1 HG.out.good;have HV:=aV4 (rO t n P _ W (HT.out.ext HE.out) (hgood.mono (by omega)));clear hgood;generalize (aI t).getD n default=gl at *;obtain ⟨vals,many⟩:=gl;go_upto_region 3 with (go_at_call 86;refine HV.out.mono ?_;rintro e w1 ⟨Av,cv,rfl,hv1,hx1⟩);have HV1:=aV4 hv1;have HX1:=aV4 (HE.out.trans' hx1);have HR1:=aV4 (HR.out.ext hx1);have hs1:=hx1.size;obtain ⟨A9,c9,e9,hcap1,hcap2⟩:=hv1.form;injection e9 with e91 _ e92;subst e91 e92;clear hv1 hx1 b0 HV
 try dsimp only at HV1
 try dsimp only at HVS
 try dsimp only at hcap1
 try dsimp only at hcap2
 try dsimp only
 generalize hn0:vals.length=n0 at *;have HN0:=aV4 hn0;clear hn0;have HLF:=aV4 (fun (V:World)=>zP k V hk0 hk1)
 cases many with
 | true =>
  go_wp2_with (go_at_call 39;refine (HLF.out _).mono ?_;rintro e w2 ⟨y,Ay,cy,rfl,hy,hgy,hx2⟩;have R2:=HR1.out.ext hx2;have rc0:=R2.cell' (u:=.int .i64 0) 0 rfl;have rc1:=R2.cell' (u:=.string ⟨#[]⟩) 1 rfl;have rc2:=R2.cell' (u:=.int .i64 0) 2 rfl;have rc3:=R2.cell' (u:=.int .i64 0) 3 rfl;have rc4:=R2.cell' (u:=.slice none 0 0) 4 rfl;have rc5:=R2.cell' (u:=.slice none 0 0) 5 rfl;have rc6:=R2.cell' (u:=.slice none 0 0) 6 rfl;have rc7:=R2.cell' (u:=.slice none 0 0) 7 rfl;have rc8:=R2.cell' (u:=.int .i64 0) 8 rfl;have rc9:=R2.cell' (u:=.int .i64 0) 9 rfl;have rc10:=R2.cell' (u:=.string ⟨#[]⟩) 10 rfl;have rc11:=R2.cell' (u:=.slice none 0 0) 11 rfl;have rf0:=R2.frozen 0;have rf1:=R2.frozen 1;have rf2:=R2.frozen 2;have rf3:=R2.frozen 3;have rf4:=R2.frozen 4;have rf5:=R2.frozen 5;have rf6:=R2.frozen 6;have rf7:=R2.frozen 7;have rf8:=R2.frozen 8;have rf9:=R2.frozen 9;have rf10:=R2.frozen 10;have rf11:=R2.frozen 11;have HR2:=aV4 R2;have HX2:=aV4 (HX1.out.trans' hx2);have HY:=aV4 hy;have hs2:=hx2.size;clear R2 hx2 hy);have hfin:=aR [.int .i64 0,.string ⟨#[]⟩,.int .i64 0,.int .i64 0,.slice none 0 0,.slice none 0 0,.slice none 0 0,.slice none 0 0,.int .i64 y.kind,.int .i64 y.n,.string y.s,.slice Ay y.kids.length cy] (w:=w2) (cs:=[.int .i64 0,.string ⟨#[]⟩,.int .i64 0,.int .i64 0,.slice none 0 0,.slice none 0 0,.slice none 0 0,.slice none 0 0,.int .i64 0,.int .i64 0,.string ⟨#[]⟩,.slice none 0 0]) (g:=w.heap.size+1) (t:=87) 0 HR2.out (by simp)
  simp only [List.take_zero,List.nil_append,List.length_cons,List.length_nil,Nat.zero_add,List.drop_succ_cons,List.drop_nil,List.append_nil] at hfin;have z0:=hfin.cell' (u:=.int .i64 0) 0 rfl;have z1:=hfin.cell' (u:=.string ⟨#[]⟩) 1 rfl;have z2:=hfin.cell' (u:=.int .i64 0) 2 rfl;have z3:=hfin.cell' (u:=.int .i64 0) 3 rfl;have z4:=hfin.cell' (u:=.slice none 0 0) 4 rfl;have z5:=hfin.cell' (u:=.slice none 0 0) 5 rfl;have z6:=hfin.cell' (u:=.slice none 0 0) 6 rfl;have z7:=hfin.cell' (u:=.slice none 0 0) 7 rfl;have z8:=hfin.cell' (u:=.int .i64 y.kind) 8 rfl;have z9:=hfin.cell' (u:=.int .i64 y.n) 9 rfl;have z10:=hfin.cell' (u:=.string y.s) 10 rfl;have z11:=hfin.cell' (u:=.slice Ay y.kids.length cy) 11 rfl;have hE:Ext w (w2.setCells (w.heap.size+1) 0 [.int .i64 0,.string ⟨#[]⟩,.int .i64 0,.int .i64 0,.slice none 0 0,.slice none 0 0,.slice none 0 0,.slice none 0 0,.int .i64 y.kind,.int .i64 y.n,.string y.s,.slice Ay y.kids.length cy]):=((Fr.of_ext (M:=fun _=>False) HX2.out).setCells _ 0 (.inr (by omega))).ext;have hV:VAt (w2.setCells (w.heap.size+1) 0 [.int .i64 0,.string ⟨#[]⟩,.int .i64 0,.int .i64 0,.slice none 0 0,.slice none 0 0,.slice none 0 0,.slice none 0 0,.int .i64 y.kind,.int .i64 y.n,.string y.s,.slice Ay y.kids.length cy]) (New P w.heap.size) y Ay cy:=HY.out.carry (aD.setCells (by omega) _ 0 (fun _ _ _=>rfl)) (fun b _ h=>.inr (by omega))
  have hgen:((((((((((((w2).setCell ⟨w.heap.size+1,0,none⟩ (.int .i64 0)).setCell ⟨w.heap.size+1,1,none⟩ (.string ⟨#[]⟩)).setCell ⟨w.heap.size+1,2,none⟩ (.int .i64 0)).setCell ⟨w.heap.size+1,3,none⟩ (.int .i64 0)).setCell ⟨w.heap.size+1,4,none⟩ (.slice none 0 0)).setCell ⟨w.heap.size+1,5,none⟩ (.slice none 0 0)).setCell ⟨w.heap.size+1,6,none⟩ (.slice none 0 0)).setCell ⟨w.heap.size+1,7,none⟩ (.slice none 0 0)).setCell ⟨w.heap.size+1,8,none⟩ (.int .i64 y.kind)).setCell ⟨w.heap.size+1,9,none⟩ (.int .i64 y.n)).setCell ⟨w.heap.size+1,10,none⟩ (.string y.s)).setCell ⟨w.heap.size+1,11,none⟩ (.slice Ay y.kids.length cy)=w2.setCells (w.heap.size+1) 0 [.int .i64 0,.string ⟨#[]⟩,.int .i64 0,.int .i64 0,.slice none 0 0,.slice none 0 0,.slice none 0 0,.slice none 0 0,.int .i64 y.kind,.int .i64 y.n,.string y.s,.slice Ay y.kids.length cy]:=rfl;rw [hgen];clear hgen;generalize w2.setCells (w.heap.size+1) 0 [.int .i64 0,.string ⟨#[]⟩,.int .i64 0,.int .i64 0,.slice none 0 0,.slice none 0 0,.slice none 0 0,.slice none 0 0,.int .i64 y.kind,.int .i64 y.n,.string y.s,.slice Ay y.kids.length cy]=WF at *;exact bodyPost_ret (v:=hH ⟨0,⟨#[]⟩,0,0,[],[],[],[],y⟩ ⟨none,0,none,0,none,0,none,0,Ay,cy⟩) (by simp [results,Tryz.results41,go_sem,z0,z1,z2,z3,z4,z5,z6,z7,z8,z9,z10,z11]) rfl ⟨_,_,rfl,⟨by simp [I64],by show (0:Nat)<=_;omega,by simp [I64],by simp [I64],bT.nil,qT.nil,cB.nil,bT.nil,hV⟩,⟨by simp,by simp,by simp,by simp,by show gsz y<=_;omega,by simp⟩,by simp,hE⟩
 | false =>
  by_cases hn6:n0<=6
  ·have hd:decide (6<(n0:Int))=false:=aV8 (by omega)
   go_upto_region 6 with fail;have HE2:=aV4 (show Ext w1 ((w1.alloc (.cells #[.int .i64 n] 3)).alloc (.cells #[.int .i64 4,.string ⟨#[]⟩,.int .i64 0,.int .i64 0,.slice none 0 0,.slice none 0 0,.slice Av n0 cv,.slice (some ⟨w1.heap.size,0,none⟩) 1 1,.int .i64 0,.int .i64 0,.string ⟨#[]⟩,.slice none 0 0] 87)) from ((Ext.refl w1).alloc' _).alloc' _);have HKO:=aV4 (show ((w1.alloc (.cells #[.int .i64 n] 3)).alloc (.cells #[.int .i64 4,.string ⟨#[]⟩,.int .i64 0,.int .i64 0,.slice none 0 0,.slice none 0 0,.slice Av n0 cv,.slice (some ⟨w1.heap.size,0,none⟩) 1 1,.int .i64 0,.int .i64 0,.string ⟨#[]⟩,.slice none 0 0] 87)).ownsRow w1.heap.size 3 1 (.slice (some ⟨w1.heap.size,0,none⟩) 1 1) 1 [.int .i64 n] from ((World.ownsRow_lit w1 #[.int .i64 n] 1 (Nat.le_refl _) (by unfold maxLen;omega) rfl)).alloc _);have HBX:=aV4 (Blk.new' (w1.alloc (.cells #[.int .i64 n] 3)) 87 #[.int .i64 4,.string ⟨#[]⟩,.int .i64 0,.int .i64 0,.slice none 0 0,.slice none 0 0,.slice Av n0 cv,.slice (some ⟨w1.heap.size,0,none⟩) 1 1,.int .i64 0,.int .i64 0,.string ⟨#[]⟩,.slice none 0 0] (g:=w1.heap.size+1) (by simp));have hsz2:w1.heap.size+2<=((w1.alloc (.cells #[.int .i64 n] 3)).alloc (.cells #[.int .i64 4,.string ⟨#[]⟩,.int .i64 0,.int .i64 0,.slice none 0 0,.slice none 0 0,.slice Av n0 cv,.slice (some ⟨w1.heap.size,0,none⟩) 1 1,.int .i64 0,.int .i64 0,.string ⟨#[]⟩,.slice none 0 0] 87)).heap.size:=by simp
   generalize (w1.alloc (.cells #[.int .i64 n] 3)).alloc (.cells #[.int .i64 4,.string ⟨#[]⟩,.int .i64 0,.int .i64 0,.slice none 0 0,.slice none 0 0,.slice Av n0 cv,.slice (some ⟨w1.heap.size,0,none⟩) 1 1,.int .i64 0,.int .i64 0,.string ⟨#[]⟩,.slice none 0 0] 87)=W2 at *;generalize hgx:w1.heap.size+1=gx at *;have HGX:=aV4 hgx;have HKI:=aV4 (show aFt n0 Av cv gx w1.heap.size w1 (.int .i64 0) W2 from ⟨0,[(n:Int)],_,Nat.zero_le _,rfl,rfl,fun z hz=>by simp only [List.mem_singleton] at hz;subst hz;unfold I64;omega,HBX.out,HKO.out,by simp [Value.ownBlock];omega,HE2.out⟩);have hgx1:w1.heap.size<gx:=by omega
   have hgx2:gx<W2.heap.size:=by omega
   clear hgx HBX HKO hd;go_wp2_with fail;go_loopw [13] (fun j wr=>aFt n0 Av cv gx w1.heap.size w1 j wr) (fun j _=>n0 - (intOf j).toNat)
   case atStart=>exact HKI.out
   case round =>
    obtain ⟨j,kids,kv,hj,rfl,hkl,hk64,hB,hown,hne,hF⟩:=hrel;obtain ⟨A7,c7,e7,-,-,-⟩:=Sl.of_own hown;subst e7;have HOWN:=aV4 hown;have HKL:=aV4 hkl;have HK64:=aV4 hk64;have HBX:=aV4 hB;have HF:=aV4 hF;have hsw:=hF.size;have hne':¬ some gx=(Value.slice A7 (j+1) c7).ownBlock:=hne;have HEX:=aV4 (HX1.out.trans' hF);clear hown hkl hk64 hB hF hne
    by_cases hlt:j<n0
    ·have HKC:=aV4 (fun (V:World) (hE:Ext wr V)=>show Calls Tryz.prog 40 #[.slice Al l.length cl,.int .i64 t.length,.int .i64 ((j:Int)+1)] V _ from (by have h:=tX l t.length (j+1) Q _ V (HL.out.ext (HEX.out.trans' hE)) hlen (by omega) (by omega);rw [show ((j+1:Nat):Int)=(j:Int)+1 by omega] at h;exact h))
     have x7:=HBX.out.cell' (u:=.slice A7 (j+1) c7) 7 rfl;have lx:=HBX.out.lt;have hwr:IntKind.i64.wrap ((j:Int)+1)=(j:Int)+1:=IntWalk.i64_in _ (by omega);go_upto_region 9 with fail
     go_region_law (first
      | (refine oX (by rfl) 40 #[.tmp 45,.tmp 46,.tmp 48] #[22,3,3] (by rfl) _ Tryz.func40 (by rfl) (by rfl) #[.slice Al l.length cl,.int .i64 t.length,.int .i64 ((j:Int)+1)] (by simp [Act.eval,Act.put]) ?_;refine (HKC.out _ (Ext.refl wr).drew').mono ?_;rintro e w' ⟨nk,rfl,hnk,rfl⟩;refine ⟨_,rfl,?_⟩)
      | (refine dQ _ (by rfl) (.tmp 44) (.tmp 50) 22 (by rfl) w1.heap.size 3 i0 _ 1 8 Tryz.underlying22 HI.out hz0 hz1 hz2 rfl (by omega) (.slice A7 (j+1) c7) (j+1) (kids.map (Value.int .i64)) (by rfl) ((HOWN.out.ext_ (Ext.refl _).drew').alloc _) (fun _=>True) (some ⟨wr.heap.size,0,none⟩) 1 1 [.int .i64 nk] (by rfl) (Sl.new wr.drew _ _ _ _ rfl) (by simp [Value.oneCell']) (by omega) (by omega) (by simp;omega) ?_;intro v5 w5 ho5 hf5 hb5;obtain ⟨A5,c5,e5,-,-,-⟩:=Sl.of_own ho5;subst e5;have R5:=(HBX.out.drew.alloc (.cells #[.int .i64 nk] 3)).fr hf5 hne';have y7:=R5.cell' (u:=.slice A7 (j+1) c7) 7 rfl;have y7f:=R5.frozen 7;have HR5:=aV4 R5;have HO5:=aV4 ho5;have HF5:=aV4 hf5;have HB5:=aV4 hb5;clear R5 ho5 hf5 hb5))
     all_goals
      clear hwr;go_wp2_with fail;go_roundw
      case rel =>
       have hs5:=HF5.out.size;have hown5:w1.heap.size<=gx:=by omega
       have hne5:some gx ≠ (Value.slice A5 (j+1+1) c5).ownBlock:=by
        rcases HB5.out with h | h
        ·rw [h];exact hne'
        ·rw [h];intro e;injection e with e;simp at e;omega
       have hfr:Fr (fun b=>w1.heap.size<=b) w1 (w5.setCell ⟨gx,7,none⟩ (.slice A5 (j+1+1) c5)):=by
        refine Fr.setCell ?_ (.inl hown5) _;exact ((Fr.of_ext ((HF.out.drew').alloc' _)).trans (HF5.out.mono (fun b hb=>HOWN.out.block_ge hb.symm)))
       refine ⟨j+1,kids ++ [nk],.slice A5 (j+1+1) c5,by omega,by go_num,by rw [List.length_append,HKL.out];rfl,?_,HR5.out.set_ 7 _,?_,hne5,hfr.new_ext (fun _ h=>h)⟩
       ·intro z hz
        rcases List.mem_append.1 hz with hz | hz
        ·exact HK64.out z hz
        ·simp only [List.mem_singleton] at hz;subst hz;unfold I64;omega
       ·refine World.ownsRow.len_cast (fB HO5.out (p:=⟨gx,7,none⟩) (fun e=>hne5 e) _) rfl (by simp)
      case measure=>simp [intOf];omega
    ·obtain rfl:j=n0:=by omega
     have R2:=HR1.out.ext HF.out;have rc0:=R2.cell' (u:=.int .i64 0) 0 rfl;have rc1:=R2.cell' (u:=.string ⟨#[]⟩) 1 rfl;have rc2:=R2.cell' (u:=.int .i64 0) 2 rfl;have rc3:=R2.cell' (u:=.int .i64 0) 3 rfl;have rc4:=R2.cell' (u:=.slice none 0 0) 4 rfl;have rc5:=R2.cell' (u:=.slice none 0 0) 5 rfl;have rc6:=R2.cell' (u:=.slice none 0 0) 6 rfl;have rc7:=R2.cell' (u:=.slice none 0 0) 7 rfl;have rc8:=R2.cell' (u:=.int .i64 0) 8 rfl;have rc9:=R2.cell' (u:=.int .i64 0) 9 rfl;have rc10:=R2.cell' (u:=.string ⟨#[]⟩) 10 rfl;have rc11:=R2.cell' (u:=.slice none 0 0) 11 rfl;have rf0:=R2.frozen 0;have rf1:=R2.frozen 1;have rf2:=R2.frozen 2;have rf3:=R2.frozen 3;have rf4:=R2.frozen 4;have rf5:=R2.frozen 5;have rf6:=R2.frozen 6;have rf7:=R2.frozen 7;have rf8:=R2.frozen 8;have rf9:=R2.frozen 9;have rf10:=R2.frozen 10;have rf11:=R2.frozen 11;have xc0:=HBX.out.cell' (u:=.int .i64 4) 0 rfl;have xc1:=HBX.out.cell' (u:=.string ⟨#[]⟩) 1 rfl;have xc2:=HBX.out.cell' (u:=.int .i64 0) 2 rfl;have xc3:=HBX.out.cell' (u:=.int .i64 0) 3 rfl;have xc4:=HBX.out.cell' (u:=.slice none 0 0) 4 rfl;have xc5:=HBX.out.cell' (u:=.slice none 0 0) 5 rfl;have xc6:=HBX.out.cell' (u:=.slice Av j cv) 6 rfl;have xc7:=HBX.out.cell' (u:=.slice A7 (j+1) c7) 7 rfl
     have xc8:=HBX.out.cell' (u:=.int .i64 0) 8 rfl;have xc9:=HBX.out.cell' (u:=.int .i64 0) 9 rfl;have xc10:=HBX.out.cell' (u:=.string ⟨#[]⟩) 10 rfl;have xc11:=HBX.out.cell' (u:=.slice none 0 0) 11 rfl;have xf0:=HBX.out.frozen 0;have xf1:=HBX.out.frozen 1;have xf2:=HBX.out.frozen 2;have xf3:=HBX.out.frozen 3;have xf4:=HBX.out.frozen 4;have xf5:=HBX.out.frozen 5;have xf6:=HBX.out.frozen 6;have xf7:=HBX.out.frozen 7;have xf8:=HBX.out.frozen 8;have xf9:=HBX.out.frozen 9;have xf10:=HBX.out.frozen 10;have xf11:=HBX.out.frozen 11;have HR2:=aV4 R2;clear R2;go_wp2_with fail;have hfin:=aR [.int .i64 4,.string ⟨#[]⟩,.int .i64 0,.int .i64 0,.slice none 0 0,.slice none 0 0,.slice Av j cv,.slice A7 (j+1) c7,.int .i64 0,.int .i64 0,.string ⟨#[]⟩,.slice none 0 0] (w:=wr) (cs:=[.int .i64 0,.string ⟨#[]⟩,.int .i64 0,.int .i64 0,.slice none 0 0,.slice none 0 0,.slice none 0 0,.slice none 0 0,.int .i64 0,.int .i64 0,.string ⟨#[]⟩,.slice none 0 0]) (g:=w.heap.size+1) (t:=87) 0 HR2.out (by simp);simp only [List.take_zero,List.nil_append,List.length_cons,List.length_nil,Nat.zero_add,List.drop_succ_cons,List.drop_nil,List.append_nil] at hfin;have z0:=hfin.cell' (u:=.int .i64 4) 0 rfl;have z1:=hfin.cell' (u:=.string ⟨#[]⟩) 1 rfl
     have z2:=hfin.cell' (u:=.int .i64 0) 2 rfl;have z3:=hfin.cell' (u:=.int .i64 0) 3 rfl;have z4:=hfin.cell' (u:=.slice none 0 0) 4 rfl;have z5:=hfin.cell' (u:=.slice none 0 0) 5 rfl;have z6:=hfin.cell' (u:=.slice Av j cv) 6 rfl;have z7:=hfin.cell' (u:=.slice A7 (j+1) c7) 7 rfl;have z8:=hfin.cell' (u:=.int .i64 0) 8 rfl;have z9:=hfin.cell' (u:=.int .i64 0) 9 rfl;have z10:=hfin.cell' (u:=.string ⟨#[]⟩) 10 rfl;have z11:=hfin.cell' (u:=.slice none 0 0) 11 rfl;have hsx:=HX1.out.size
     have hnew:¬ New P W.heap.size (w.heap.size+1):=by
      rintro (h | h)
      ·have:=HP.out _ h;omega
      ·omega
     have hE:Ext w (wr.setCells (w.heap.size+1) 0 [.int .i64 4,.string ⟨#[]⟩,.int .i64 0,.int .i64 0,.slice none 0 0,.slice none 0 0,.slice Av j cv,.slice A7 (j+1) c7,.int .i64 0,.int .i64 0,.string ⟨#[]⟩,.slice none 0 0]):=((Fr.of_ext (M:=fun _=>False) HEX.out).setCells _ 0 (.inr (by omega))).ext;have hV:cB (wr.setCells (w.heap.size+1) 0 [.int .i64 4,.string ⟨#[]⟩,.int .i64 0,.int .i64 0,.slice none 0 0,.slice none 0 0,.slice Av j cv,.slice A7 (j+1) c7,.int .i64 0,.int .i64 0,.string ⟨#[]⟩,.slice none 0 0]) (New P w.heap.size) (.slice Av vals.length cv) vals:=by rw [HN0.out];exact HV1.out.carry (aD.setCells hnew _ 0 (aD.of_ext HF.out)) (fun b _ h=>h.elim .inl (fun h=>.inr (by omega)))
     have hK:bT (wr.setCells (w.heap.size+1) 0 [.int .i64 4,.string ⟨#[]⟩,.int .i64 0,.int .i64 0,.slice none 0 0,.slice none 0 0,.slice Av j cv,.slice A7 (j+1) c7,.int .i64 0,.int .i64 0,.string ⟨#[]⟩,.slice none 0 0]) (New P w.heap.size) (.slice A7 kids.length c7) kids:=by
      have h1:bT wr (fun b=>w1.heap.size<=b) (.slice A7 (j+1) c7) kids:=bT.of_own (HOWN.out.len_cast HKL.out.symm rfl) HK64.out (by rw [HKL.out];omega) (fun b hb=>HOWN.out.block_ge hb);rw [HKL.out];exact h1.carry (aD.setCells (by omega) _ 0 (fun _ _ _=>rfl)) (fun b _ h=>.inr (by omega))
     have hve:(Value.slice Av vals.length cv)=.slice Av j cv:=by rw [HN0.out]
     have hke:(Value.slice A7 kids.length c7)=.slice A7 (j+1) c7:=by rw [HKL.out]
     have hgen:((((((((((((wr).setCell ⟨w.heap.size+1,0,none⟩ (.int .i64 4)).setCell ⟨w.heap.size+1,1,none⟩ (.string ⟨#[]⟩)).setCell ⟨w.heap.size+1,2,none⟩ (.int .i64 0)).setCell ⟨w.heap.size+1,3,none⟩ (.int .i64 0)).setCell ⟨w.heap.size+1,4,none⟩ (.slice none 0 0)).setCell ⟨w.heap.size+1,5,none⟩ (.slice none 0 0)).setCell ⟨w.heap.size+1,6,none⟩ (.slice Av j cv)).setCell ⟨w.heap.size+1,7,none⟩ (.slice A7 (j+1) c7)).setCell ⟨w.heap.size+1,8,none⟩ (.int .i64 0)).setCell ⟨w.heap.size+1,9,none⟩ (.int .i64 0)).setCell ⟨w.heap.size+1,10,none⟩ (.string ⟨#[]⟩)).setCell ⟨w.heap.size+1,11,none⟩ (.slice none 0 0)=wr.setCells (w.heap.size+1) 0 [.int .i64 4,.string ⟨#[]⟩,.int .i64 0,.int .i64 0,.slice none 0 0,.slice none 0 0,.slice Av j cv,.slice A7 (j+1) c7,.int .i64 0,.int .i64 0,.string ⟨#[]⟩,.slice none 0 0]:=rfl;rw [hgen];clear hgen;generalize wr.setCells (w.heap.size+1) 0 [.int .i64 4,.string ⟨#[]⟩,.int .i64 0,.int .i64 0,.slice none 0 0,.slice none 0 0,.slice Av j cv,.slice A7 (j+1) c7,.int .i64 0,.int .i64 0,.string ⟨#[]⟩,.slice none 0 0]=WF at *;rw [<- hve] at z6;rw [<- hke] at z7;exact bodyPost_ret (v:=hH ⟨4,⟨#[]⟩,0,0,[],[],vals,kids,.mk 0 0 ⟨#[]⟩ []⟩ ⟨none,0,none,0,Av,cv,A7,c7,none,0⟩) (by simp [results,Tryz.results41,go_sem,GV.kind,GV.n,GV.s,GV.kids,z0,z1,z2,z3,z4,z5,z6,z7,z8,z9,z10,z11]) rfl ⟨_,_,rfl,⟨by simp [I64],by show (0:Nat)<=_;omega,by simp [I64],by simp [I64],bT.nil,qT.nil,hV,hK,VAt.noKids (by simp [I64]) (by simp [I64]) (by decide)⟩,⟨by simp,by simp,by show vals.length<=_;rw [HN0.out];omega,by show kids.length<=_;rw [HKL.out];omega,by simp [gsz,jO],HVS.out⟩,by simp,hE⟩
  ·have hd:decide (6<(n0:Int))=true:=aV7 (by omega)
   go_wp2_with (go_at_call 39;refine (HLF.out _).mono ?_;rintro e w2 ⟨y,Ay,cy,rfl,hy,hgy,hx2⟩;have R2:=HR1.out.ext hx2;have rc0:=R2.cell' (u:=.int .i64 0) 0 rfl;have rc1:=R2.cell' (u:=.string ⟨#[]⟩) 1 rfl;have rc2:=R2.cell' (u:=.int .i64 0) 2 rfl;have rc3:=R2.cell' (u:=.int .i64 0) 3 rfl;have rc4:=R2.cell' (u:=.slice none 0 0) 4 rfl;have rc5:=R2.cell' (u:=.slice none 0 0) 5 rfl;have rc6:=R2.cell' (u:=.slice none 0 0) 6 rfl;have rc7:=R2.cell' (u:=.slice none 0 0) 7 rfl;have rc8:=R2.cell' (u:=.int .i64 0) 8 rfl;have rc9:=R2.cell' (u:=.int .i64 0) 9 rfl;have rc10:=R2.cell' (u:=.string ⟨#[]⟩) 10 rfl;have rc11:=R2.cell' (u:=.slice none 0 0) 11 rfl;have rf0:=R2.frozen 0;have rf1:=R2.frozen 1;have rf2:=R2.frozen 2;have rf3:=R2.frozen 3;have rf4:=R2.frozen 4;have rf5:=R2.frozen 5;have rf6:=R2.frozen 6;have rf7:=R2.frozen 7;have rf8:=R2.frozen 8;have rf9:=R2.frozen 9;have rf10:=R2.frozen 10;have rf11:=R2.frozen 11;have HR2:=aV4 R2;have HX2:=aV4 (HX1.out.trans' hx2);have HY:=aV4 hy;have hs2:=hx2.size;clear R2 hx2 hy);have hfin:=aR [.int .i64 0,.string ⟨#[]⟩,.int .i64 0,.int .i64 0,.slice none 0 0,.slice none 0 0,.slice none 0 0,.slice none 0 0,.int .i64 y.kind,.int .i64 y.n,.string y.s,.slice Ay y.kids.length cy] (w:=w2) (cs:=[.int .i64 0,.string ⟨#[]⟩,.int .i64 0,.int .i64 0,.slice none 0 0,.slice none 0 0,.slice none 0 0,.slice none 0 0,.int .i64 0,.int .i64 0,.string ⟨#[]⟩,.slice none 0 0]) (g:=w.heap.size+1) (t:=87) 0 HR2.out (by simp)
   simp only [List.take_zero,List.nil_append,List.length_cons,List.length_nil,Nat.zero_add,List.drop_succ_cons,List.drop_nil,List.append_nil] at hfin;have z0:=hfin.cell' (u:=.int .i64 0) 0 rfl;have z1:=hfin.cell' (u:=.string ⟨#[]⟩) 1 rfl;have z2:=hfin.cell' (u:=.int .i64 0) 2 rfl;have z3:=hfin.cell' (u:=.int .i64 0) 3 rfl;have z4:=hfin.cell' (u:=.slice none 0 0) 4 rfl;have z5:=hfin.cell' (u:=.slice none 0 0) 5 rfl;have z6:=hfin.cell' (u:=.slice none 0 0) 6 rfl;have z7:=hfin.cell' (u:=.slice none 0 0) 7 rfl;have z8:=hfin.cell' (u:=.int .i64 y.kind) 8 rfl;have z9:=hfin.cell' (u:=.int .i64 y.n) 9 rfl;have z10:=hfin.cell' (u:=.string y.s) 10 rfl;have z11:=hfin.cell' (u:=.slice Ay y.kids.length cy) 11 rfl;have hE:Ext w (w2.setCells (w.heap.size+1) 0 [.int .i64 0,.string ⟨#[]⟩,.int .i64 0,.int .i64 0,.slice none 0 0,.slice none 0 0,.slice none 0 0,.slice none 0 0,.int .i64 y.kind,.int .i64 y.n,.string y.s,.slice Ay y.kids.length cy]):=((Fr.of_ext (M:=fun _=>False) HX2.out).setCells _ 0 (.inr (by omega))).ext;have hV:VAt (w2.setCells (w.heap.size+1) 0 [.int .i64 0,.string ⟨#[]⟩,.int .i64 0,.int .i64 0,.slice none 0 0,.slice none 0 0,.slice none 0 0,.slice none 0 0,.int .i64 y.kind,.int .i64 y.n,.string y.s,.slice Ay y.kids.length cy]) (New P w.heap.size) y Ay cy:=HY.out.carry (aD.setCells (by omega) _ 0 (fun _ _ _=>rfl)) (fun b _ h=>.inr (by omega))
   have hgen:((((((((((((w2).setCell ⟨w.heap.size+1,0,none⟩ (.int .i64 0)).setCell ⟨w.heap.size+1,1,none⟩ (.string ⟨#[]⟩)).setCell ⟨w.heap.size+1,2,none⟩ (.int .i64 0)).setCell ⟨w.heap.size+1,3,none⟩ (.int .i64 0)).setCell ⟨w.heap.size+1,4,none⟩ (.slice none 0 0)).setCell ⟨w.heap.size+1,5,none⟩ (.slice none 0 0)).setCell ⟨w.heap.size+1,6,none⟩ (.slice none 0 0)).setCell ⟨w.heap.size+1,7,none⟩ (.slice none 0 0)).setCell ⟨w.heap.size+1,8,none⟩ (.int .i64 y.kind)).setCell ⟨w.heap.size+1,9,none⟩ (.int .i64 y.n)).setCell ⟨w.heap.size+1,10,none⟩ (.string y.s)).setCell ⟨w.heap.size+1,11,none⟩ (.slice Ay y.kids.length cy)=w2.setCells (w.heap.size+1) 0 [.int .i64 0,.string ⟨#[]⟩,.int .i64 0,.int .i64 0,.slice none 0 0,.slice none 0 0,.slice none 0 0,.slice none 0 0,.int .i64 y.kind,.int .i64 y.n,.string y.s,.slice Ay y.kids.length cy]:=rfl;rw [hgen];clear hgen;generalize w2.setCells (w.heap.size+1) 0 [.int .i64 0,.string ⟨#[]⟩,.int .i64 0,.int .i64 0,.slice none 0 0,.slice none 0 0,.slice none 0 0,.slice none 0 0,.int .i64 y.kind,.int .i64 y.n,.string y.s,.slice Ay y.kids.length cy]=WF at *;exact bodyPost_ret (v:=hH ⟨0,⟨#[]⟩,0,0,[],[],[],[],y⟩ ⟨none,0,none,0,none,0,none,0,Ay,cy⟩) (by simp [results,Tryz.results41,go_sem,z0,z1,z2,z3,z4,z5,z6,z7,z8,z9,z10,z11]) rfl ⟨_,_,rfl,⟨by simp [I64],by show (0:Nat)<=_;omega,by simp [I64],by simp [I64],bT.nil,qT.nil,cB.nil,bT.nil,hV⟩,⟨by simp,by simp,by simp,by simp,by show gsz y<=_;omega,by simp⟩,by simp,hE⟩
def xC (gx:Nat)(Pn:Nat->Prop)(w0 wx:World):Prop :=
 ∃ x a,Blk wx gx 87 (aE x a).toArray∧NAt wx (fun b=>Pn b∧b<wx.heap.size∧b ≠ gx) x a∧dL x∧(x.kind=3->x.kids.length<=4)∧Ext w0 wx
structure nP (gx B:Nat)(kind:Int)(name:ByteArray)(wv lv kv:Value)(ws:List Int)(ls:List ByteArray)(ks:List Int)(w0 w:World):Prop where
 box:Blk w gx 87 #[.int .i64 kind,.string name,.int .i64 0,.int .i64 0,wv,lv,.slice none 0 0,kv,.int .i64 0,.int .i64 0,.string ⟨#[]⟩,.slice none 0 0]
 wo:w.ownsRow B 3 1 wv ws.length (ws.map (Value.int .i64))
 lo:w.ownsRow B 9 1 lv ls.length (ls.map Value.string)
 ko:w.ownsRow B 3 1 kv ks.length (ks.map (Value.int .i64))
 wl:wv.ownBlock=none∨wv.ownBlock ≠ lv.ownBlock
 wk:wv.ownBlock=none∨wv.ownBlock ≠ kv.ownBlock
 lk:lv.ownBlock=none∨lv.ownBlock ≠ kv.ownBlock
 gw:some gx ≠ wv.ownBlock
 gl:some gx ≠ lv.ownBlock
 gk:some gx ≠ kv.ownBlock
 w64:∀ z ∈ ws,I64 z
 k64:∀ z ∈ ks,I64 z
 l1:∀ s ∈ ls,s.size<=100
 ext:Ext w0 w
 B0:w0.heap.size<=B
theorem iL {M:Nat->Prop}{w w':World}{base:Nat}{e:TypeId}{size:Nat}{v:Value}{n:Nat}{xs:List Value}(h:w.ownsRow base e size v n xs)(hf:Fr M w w')(hn:∀ b,v.ownBlock=some b->¬ M b):w'.ownsRow base e size v n xs:=by
 refine ⟨h.1,?_⟩;rcases h.2 with h3 | ⟨G,cap,cur,h4,h5,h6,h7⟩
 ·exact .inl h3
 ·exact .inr ⟨G,cap,cur,h4,h5,(hf.block G (Blk.lt (t:=e) h6) (hn G (by rw [h4];rfl))).trans h6,h7⟩
section
variable {gx B:Nat}{kind:Int}{name:ByteArray}{wv lv kv:Value}{ws:List Int}{ls:List ByteArray}{ks:List Int}{w0 w w1 w5:World}
theorem nP.ext_ (h:nP gx B kind name wv lv kv ws ls ks w0 w)(hx:Ext w w1):nP gx B kind name wv lv kv ws ls ks w0 w1 :=
 ⟨h.box.ext hx,h.wo.ext_ hx,h.lo.ext_ hx,h.ko.ext_ hx,h.wl,h.wk,h.lk,h.gw,h.gl,h.gk,h.w64,h.k64,h.l1,h.ext.trans' hx,h.B0⟩
theorem nP.gB (h:nP gx B kind name wv lv kv ws ls ks w0 w):∀ {b:Nat},wv.ownBlock=some b∨lv.ownBlock=some b∨kv.ownBlock=some b->B<=b∧b<w.heap.size:=by
 intro b hb;rcases hb with hb | hb | hb
 ·exact ⟨h.wo.block_ge hb,h.wo.block_lt hb⟩
 ·exact ⟨h.lo.block_ge hb,h.lo.block_lt hb⟩
 ·exact ⟨h.ko.block_ge hb,h.ko.block_lt hb⟩
theorem nP.kid (h:nP gx B kind name wv lv kv ws ls ks w0 w){z:Int}(hz:I64 z){v5:Value}(hg:w0.heap.size<=gx)(ho:w5.ownsRow B 3 1 v5 (ks.length+1) (ks.map (Value.int .i64) ++ [.int .i64 z]))(hf:Fr (fun k=>some k=kv.ownBlock) w w5)(hb:v5.ownBlock=kv.ownBlock∨∃ b,v5.ownBlock=some b∧w.heap.size<=b) :
  nP gx B kind name wv lv v5 ws ls (ks ++ [z]) w0 (w5.setCell ⟨gx,7,none⟩ v5):=by
 have hgx:=h.box.lt
 have g5:some gx ≠ v5.ownBlock:=by
  rcases hb with e | ⟨b,e,hl⟩
  ·rw [e];exact h.gk
  ·rw [e];intro e';injection e' with e';omega
 have hne:∀ {v:Value},(v.ownBlock=none∨v.ownBlock ≠ kv.ownBlock)->(∀ b,v.ownBlock=some b->b<w.heap.size)->(v.ownBlock=none∨v.ownBlock ≠ v5.ownBlock):=by
  intro v h1 h2;rcases h1 with h1 | h1
  ·exact .inl h1
  ·refine .inr (fun e=>?_)
   rcases hb with e5 | ⟨b,e5,hl⟩
   ·exact h1 (e.trans e5)
   ·have:=h2 b (e.trans e5);omega
 have hoth:∀ {v:Value},(v.ownBlock=none∨v.ownBlock ≠ kv.ownBlock)->∀ b,v.ownBlock=some b->¬ (some b=kv.ownBlock):=by
  intro v h1 b hb e;rcases h1 with h1 | h1
  ·rw [h1] at hb;cases hb
  ·exact h1 (hb.trans e)
 refine ⟨(h.box.fr hf (fun e=>h.gk e)).set_ 7 v5,fB (iL h.wo hf (hoth h.wk)) h.gw _,fB (iL h.lo hf (hoth h.lk)) h.gl _,fB (ho.len_cast (by simp) (by simp)) g5 _,h.wl,hne h.wk (fun b hb=>(h.gB (.inl hb)).2),hne h.lk (fun b hb=>(h.gB (.inr (.inl hb))).2),h.gw,h.gl,g5,h.w64,?_,h.l1,?_,h.B0⟩
 ·intro y hy
  rcases List.mem_append.1 hy with hy | hy
  ·exact h.k64 y hy
  ·simp only [List.mem_singleton] at hy;subst hy;exact hz
 ·have h1:Fr (fun k=>w0.heap.size<=k) w0 w5:=(Fr.of_ext h.ext).trans (hf.mono (fun b hb=>by have:=h.gB (.inr (.inr hb.symm));have:=h.B0;omega))
  exact (h1.setCell (p:=⟨gx,7,none⟩) (.inl hg) _).new_ext (fun _ h=>h)
theorem nP.weight (h:nP gx B kind name wv lv kv ws ls ks w0 w){z:Int}(hz:I64 z){v5:Value}(hg:w0.heap.size<=gx)(ho:w5.ownsRow B 3 1 v5 (ws.length+1) (ws.map (Value.int .i64) ++ [.int .i64 z]))(hf:Fr (fun k=>some k=wv.ownBlock) w w5)(hb:v5.ownBlock=wv.ownBlock∨∃ b,v5.ownBlock=some b∧w.heap.size<=b) :
  nP gx B kind name v5 lv kv (ws ++ [z]) ls ks w0 (w5.setCell ⟨gx,4,none⟩ v5):=by
 have hgx:=h.box.lt
 have g5:some gx ≠ v5.ownBlock:=by
  rcases hb with e | ⟨b,e,hl⟩
  ·rw [e];exact h.gw
  ·rw [e];intro e';injection e' with e';omega
 have hne:∀ {v:Value},(wv.ownBlock=none∨wv.ownBlock ≠ v.ownBlock)->(∀ b,v.ownBlock=some b->b<w.heap.size)->(v5.ownBlock=none∨v5.ownBlock ≠ v.ownBlock):=by
  intro v h1 h2;rcases hb with e5 | ⟨b,e5,hl⟩
  ·rw [e5];exact h1
  ·refine .inr (fun e=>?_)
   have:=h2 b (e.symm.trans e5);omega
 have hoth:∀ {v:Value},(wv.ownBlock=none∨wv.ownBlock ≠ v.ownBlock)->∀ b,v.ownBlock=some b->¬ (some b=wv.ownBlock):=by
  intro v h1 b hb e;rcases h1 with h1 | h1
  ·rw [h1] at e;cases e
  ·exact h1 (e.symm.trans hb.symm)
 refine ⟨(h.box.fr hf (fun e=>h.gw e)).set_ 4 v5,fB (ho.len_cast (by simp) (by simp)) g5 _,fB (iL h.lo hf (hoth h.wl)) h.gl _,fB (iL h.ko hf (hoth h.wk)) h.gk _,hne h.wl (fun b hb=>(h.gB (.inr (.inl hb))).2),hne h.wk (fun b hb=>(h.gB (.inr (.inr hb))).2),h.lk,g5,h.gl,h.gk,?_,h.k64,h.l1,?_,h.B0⟩
 ·intro y hy
  rcases List.mem_append.1 hy with hy | hy
  ·exact h.w64 y hy
  ·simp only [List.mem_singleton] at hy;subst hy;exact hz
 ·have h1:Fr (fun k=>w0.heap.size<=k) w0 w5:=(Fr.of_ext h.ext).trans (hf.mono (fun b hb=>by have:=h.gB (.inl hb.symm);have:=h.B0;omega))
  exact (h1.setCell (p:=⟨gx,4,none⟩) (.inl hg) _).new_ext (fun _ h=>h)
theorem nP.label (h:nP gx B kind name wv lv kv ws ls ks w0 w){z:ByteArray}(hz:z.size<=100){v5:Value}(hg:w0.heap.size<=gx)(ho:w5.ownsRow B 9 1 v5 (ls.length+1) (ls.map Value.string ++ [.string z]))(hf:Fr (fun k=>some k=lv.ownBlock) w w5)(hb:v5.ownBlock=lv.ownBlock∨∃ b,v5.ownBlock=some b∧w.heap.size<=b) :
  nP gx B kind name wv v5 kv ws (ls ++ [z]) ks w0 (w5.setCell ⟨gx,5,none⟩ v5):=by
 have hgx:=h.box.lt
 have g5:some gx ≠ v5.ownBlock:=by
  rcases hb with e | ⟨b,e,hl⟩
  ·rw [e];exact h.gl
  ·rw [e];intro e';injection e' with e';omega
 have n1:wv.ownBlock=none∨wv.ownBlock ≠ v5.ownBlock:=by
  rcases hb with e5 | ⟨b,e5,hl⟩
  ·rw [e5];exact h.wl
  ·exact .inr (fun e=>by have:=(h.gB (.inl (e.trans e5))).2;omega)
 have n2:v5.ownBlock=none∨v5.ownBlock ≠ kv.ownBlock:=by
  rcases hb with e5 | ⟨b,e5,hl⟩
  ·rw [e5];exact h.lk
  ·exact .inr (fun e=>by have:=(h.gB (.inr (.inr (e.symm.trans e5)))).2;omega)
 have o1:∀ b,wv.ownBlock=some b->¬ (some b=lv.ownBlock):=fun b hb e=>by
  rcases h.wl with h1 | h1
  ·rw [h1] at hb;cases hb
  ·exact h1 (hb.trans e)
 have o2:∀ b,kv.ownBlock=some b->¬ (some b=lv.ownBlock):=fun b hb e=>by
  rcases h.lk with h1 | h1
  ·rw [h1] at e;cases e
  ·exact h1 (e.symm.trans hb.symm)
 refine ⟨(h.box.fr hf (fun e=>h.gl e)).set_ 5 v5,fB (iL h.wo hf o1) h.gw _,fB (ho.len_cast (by simp) (by simp)) g5 _,fB (iL h.ko hf o2) h.gk _,n1,h.wk,n2,h.gw,g5,h.gk,h.w64,h.k64,?_,?_,h.B0⟩
 ·intro y hy
  rcases List.mem_append.1 hy with hy | hy
  ·exact h.l1 y hy
  ·simp only [List.mem_singleton] at hy;subst hy;exact hz
 ·have h1:Fr (fun k=>w0.heap.size<=k) w0 w5:=(Fr.of_ext h.ext).trans (hf.mono (fun b hb=>by have:=h.gB (.inr (.inl hb.symm));have:=h.B0;omega))
  exact (h1.setCell (p:=⟨gx,5,none⟩) (.inl hg) _).new_ext (fun _ h=>h)
theorem nP.node (h:nP gx B kind name wv lv kv ws ls ks w0 w){Pn:Nat->Prop}(hP:∀ b,B<=b->Pn b)(hk:I64 kind)(hn:name.size<=100)(h1:ws.length<=100)(h2:ls.length<=100)(h3:ks.length<=100)(h4:kind=3->ks.length<=4):xC gx Pn w0 w:=by
 obtain ⟨Aw,cw,ew,-,-,-⟩:=Sl.of_own h.wo;obtain ⟨Al,cl,el,-,-,-⟩:=Sl.of_own h.lo;obtain ⟨Ak,ck,ek,-,-,-⟩:=Sl.of_own h.ko;have hw:bT w (fun b=>Pn b∧b<w.heap.size∧b ≠ gx) wv ws:=bT.of_own h.wo h.w64 (by omega) (fun b hb=>⟨hP b (h.gB (.inl hb)).1,(h.gB (.inl hb)).2,fun e=>h.gw (by rw [hb,e])⟩);have hkk:bT w (fun b=>Pn b∧b<w.heap.size∧b ≠ gx) kv ks:=bT.of_own h.ko h.k64 (by omega) (fun b hb=>⟨hP b (h.gB (.inr (.inr hb))).1,(h.gB (.inr (.inr hb))).2,fun e=>h.gk (by rw [hb,e])⟩)
 have hl:qT w (fun b=>Pn b∧b<w.heap.size∧b ≠ gx) lv ls:=Lst.of_own h.lo (by
  have:∀ (m:List ByteArray),(∀ s ∈ m,s.size<=100)->RL aS2 m (m.map Value.string):=by
   intro m
   induction m with
   | nil=>intro _;simp [RL]
   | cons s m ih =>
    intro hm;exact ⟨[.string s],m.map Value.string,rfl,⟨by have:=hm s (by simp);omega,rfl⟩,ih (fun y hy=>hm y (by simp [hy]))⟩
  exact this ls h.l1) (by omega) (fun b hb=>⟨hP b (h.gB (.inr (.inl hb))).1,(h.gB (.inr (.inl hb))).2,fun e=>h.gl (by rw [hb,e])⟩)
 have hbx:=h.box;subst ew el ek;refine ⟨⟨kind,name,0,0,ws,ls,[],ks,.mk 0 0 ⟨#[]⟩ []⟩,⟨Aw,cw,Al,cl,none,0,Ak,ck,none,0⟩,hbx,⟨hk,by show name.size<=_;omega,by simp [I64],by simp [I64],hw,hl,cB.nil,hkk,VAt.noKids (by simp [I64]) (by simp [I64]) (by decide)⟩,⟨by show ws.length<=_;omega,by show ls.length<=_;omega,by simp,by show ks.length<=_;omega,by simp [gsz,jO],by simp⟩,h4,h.ext⟩
end
def aFf (B:Nat)(w:World)(v:Value):Nat->Prop:=fun b=>B<=b∧b<w.heap.size∧some b ≠ v.ownBlock
def qP (w:World)(e:Ending)(w':World):Prop:=∃ A c t,e=.returned (.agg #[.slice A t.length c])∧Nds w' (fun b=>w.heap.size<=b∧b<w'.heap.size) (.slice A t.length c) t∧fJ t∧t.length<=14∧Ext w w'
def lL (n:Nat)(g3:Nat)(W:World)(iv:Value)(wr:World):Prop :=
 ∃ (i:Nat) (t:List GN) (v:Value) (xs:List Value),i<=n∧iv=.int .i64 i∧t.length=i∧fJ t∧Blk wr g3 25 #[v]∧wr.ownsRow W.heap.size 87 12 v i xs∧RL (RN wr (aFf W.heap.size wr v)) t xs∧Fr (fun b=>b=g3) W wr
theorem aEe {gx B:Nat}{w0 wx:World}{y:GV}{Ay:Option Addr}{cy:Nat}(hb:Blk wx gx 87 #[.int .i64 0,.string ⟨#[]⟩,.int .i64 0,.int .i64 0,.slice none 0 0,.slice none 0 0,.slice none 0 0,.slice none 0 0,.int .i64 y.kind,.int .i64 y.n,.string y.s,.slice Ay y.kids.length cy])(hE:Ext w0 wx)(hg:gsz y<=2)(_:B<=w0.heap.size)(hy:VAt wx (fun b=>B<=b∧b<wx.heap.size∧b ≠ gx) y Ay cy):xC gx (fun b=>B<=b) w0 wx :=
 ⟨⟨0,⟨#[]⟩,0,0,[],[],[],[],y⟩,⟨none,0,none,0,none,0,none,0,Ay,cy⟩,hb,⟨by simp [I64],by show (0:Nat)<=_;omega,by simp [I64],by simp [I64],bT.nil,qT.nil,cB.nil,bT.nil,hy⟩,⟨by simp,by simp,by simp,by simp,by show gsz y<=_;omega,by simp⟩,by simp,hE⟩
theorem RN.one {w:World}{P:Nat->Prop}:∀ {l:List GN}{xs:List Value},RL (RN w P) l xs->∀ u ∈ xs,u.oneCell'=true
 | [],xs,h,u,hu=>by simp only [RL] at h;subst h;simp at hu
 | x :: l,xs,h,u,hu=>by
  obtain ⟨c1,c2,rfl,⟨a,rfl,-⟩,h2⟩:=h;rcases List.mem_append.1 hu with hu | hu
  ·simp only [aE,List.mem_cons,List.not_mem_nil,or_false] at hu
   rcases hu with rfl | rfl | rfl | rfl | rfl | rfl | rfl | rfl | rfl | rfl | rfl | rfl <;> rfl
  ·exact RN.one h2 u hu
section
variable {n g3 i m:Nat}{W wo w6 w9:World}{t:List GN}{x:GN}{a:NA}{v v2:Value}{xs:List Value}
theorem aA1 (hi:i<n)(htl:t.length=i)(hg3:g3<W.heap.size)(hF:Fr (fun b=>b=g3) W wo)(hE:Ext wo w6)(hB:Blk w6 g3 25 #[v])(ho:w6.ownsRow W.heap.size 87 12 v2 (i+1) (xs ++ aE x a))(hv2:∀ b,v2.ownBlock=some b->m<=b)
  (hr:RL (RN wo (aFf W.heap.size wo v)) t xs)(hmo:wo.heap.size<=m)(_:m<=w6.heap.size)(hx:NAt w6 (fun b=>W.heap.size<=b∧b<m) x a)(hgen:fJ (t ++ [x])):lL n g3 W (.int .i64 ((i:Int)+1)) (w6.setCell ⟨g3,0,none⟩ v2):=by
 have hne:some g3 ≠ v2.ownBlock:=fun e=>by have:=ho.block_ge e.symm;omega
 have hks:∀ (Q:Nat->Prop) (w1:World),(¬ Q g3)->aD Q w1 w6->aD Q w1 (w6.setCell ⟨g3,0,none⟩ v2):=fun Q w1 hq hk=>hk.set (p:=⟨g3,0,none⟩) _ hq
 have hsz:(w6.setCell ⟨g3,0,none⟩ v2).heap.size=w6.heap.size:=by simp [World.setCell]
 refine ⟨i+1,t ++ [x],v2,xs ++ aE x a,by omega,by go_num,by rw [List.length_append,htl];rfl,hgen,hB.set_ 0 v2,fB ho hne _,?_,?_⟩
 ·refine (hr.move qC (hks _ _ (fun h=>by have:=h.1;omega) (aD.of_ext hE)) (fun b hb h=>⟨h.1,by rw [hsz];have:=hE.size;omega,fun e=>by have:=hv2 b e.symm;omega⟩)).append (RL.one ⟨a,rfl,hx.carry (hks _ _ (fun h=>by omega) (fun _ _ _=>rfl)) (fun b hb h=>⟨h.1,by rw [hsz];omega,fun e=>by have:=hv2 b e.symm;omega⟩)⟩)
 ·exact (hF.trans (Fr.of_ext hE)).setCell (p:=⟨g3,0,none⟩) (.inl rfl) _
theorem aCn {z:Int}(hz:0<=z∧z<5)(hi:i<n)(hn:n<=14)(htl:t.length=i)(hg3:g3<W.heap.size)(hF:Fr (fun b=>b=g3) W wo)(hE:Ext wo w6)(hB:Blk w6 g3 25 #[v])(ho:wo.ownsRow W.heap.size 87 12 v i xs)(ho9:w9.ownsRow W.heap.size 87 12 v2 (i+1) (xs ++ aE (bF z) ⟨none,0,none,0,none,0,none,0,none,0⟩))(hf9:Fr (fun k=>some k=v.ownBlock) w6 w9)(hv2:v2.ownBlock=v.ownBlock∨∃ b,v2.ownBlock=some b∧w6.heap.size<=b)
  (hr:RL (RN wo (aFf W.heap.size wo v)) t xs)(hgen:fJ t):lL n g3 W (.int .i64 ((i:Int)+1)) (w9.setCell ⟨g3,0,none⟩ v2):=by
 have hne:some g3 ≠ v2.ownBlock:=fun e=>by have:=ho9.block_ge e.symm;omega
 have hne0:¬ some g3=v.ownBlock:=fun e=>by have:=ho.block_ge e.symm;omega
 have hsz:(w9.setCell ⟨g3,0,none⟩ v2).heap.size=w9.heap.size:=by simp [World.setCell]
 have hs6:=hE.size;have hs9:=hf9.size;have hgen2:=hgen.leaf (by omega) z
 have hoff:∀ b,b<wo.heap.size->some b ≠ v.ownBlock->some b ≠ v2.ownBlock:=fun b hb h=>by
  rcases hv2 with e | ⟨b',e,hl⟩
  ·rw [e];exact h
  ·rw [e];intro e';injection e' with e';omega
 refine ⟨i+1,t ++ [bF z],v2,_,by omega,by go_num,by rw [List.length_append,htl];rfl,hgen2,(hB.fr hf9 hne0).set_ 0 v2,fB ho9 hne _,?_,?_⟩
 ·refine (hr.move qC (w':=w9.setCell ⟨g3,0,none⟩ v2) ?_ (fun b hb h=>⟨h.1,by rw [hsz];omega,hoff b hb h.2.2⟩)).append (RL.one ⟨_,rfl,⟨by simp [bF,I64],by simp [bF],by simp [bF,I64],by simp [bF,I64],bT.nil,qT.nil,cB.nil,bT.nil,VAt.noKids (by simp [I64]) (by unfold I64;omega) (by decide)⟩⟩)
  have hk:aD (aFf W.heap.size wo v) wo w9:=fun b hb h=>(hf9.block b (by omega) (fun e=>h.2.2 e)).trans (hE.block b hb)
  exact hk.set (p:=⟨g3,0,none⟩) _ (fun (h:aFf W.heap.size wo v g3)=>by have:=h.1;omega)
 ·have h1:Fr (fun b=>b=g3) W w9:=by
   refine Fr.trans_new (hF.trans (Fr.of_ext hE)) (hf9.mono (fun b hb=>.inr ?_));exact ho.block_ge hb.symm
  exact h1.setCell (p:=⟨g3,0,none⟩) (.inl rfl) _
end
def aVy (gx B:Nat)(name:ByteArray)(m:Nat)(w0:World)(jv:Value)(wr:World):Prop:=∃ (j:Nat)(kv:Value)(ks:List Int),j<=m∧jv=.int .i64 j∧ks.length=j∧nP gx B 3 name (.slice none 0 0) (.slice none 0 0) kv [] [] ks w0 wr
def aVf (gx B:Nat)(m:Nat)(w0:World)(jv:Value)(wr:World):Prop:=∃ (j:Nat)(wv lv kv:Value)(ws:List Int)(ls:List ByteArray)(ks:List Int),j<=m+1∧jv=.int .i64 j∧ws.length=j∧ks.length=j∧ls.length<=j∧nP gx B 2 ⟨#[]⟩ wv lv kv ws ls ks w0 wr
theorem nP.start {gx B:Nat}{kind:Int}{name:ByteArray}{w0 w:World}(hb:Blk w gx 87 #[.int .i64 kind,.string name,.int .i64 0,.int .i64 0,.slice none 0 0,.slice none 0 0,.slice none 0 0,.slice none 0 0,.int .i64 0,.int .i64 0,.string ⟨#[]⟩,.slice none 0 0])(hE:Ext w0 w)(hB:w0.heap.size<=B):nP gx B kind name (.slice none 0 0) (.slice none 0 0) (.slice none 0 0) [] [] [] w0 w :=
 ⟨hb,aX _ _ _ _,aX _ _ _ _,aX _ _ _ _,.inl rfl,.inl rfl,.inl rfl,by simp [Value.ownBlock],by simp [Value.ownBlock],by simp [Value.ownBlock],by simp,by simp,by simp,hE,hB⟩
end Go.Proofs.YtkoeecdjijfjnaaGreat
