/- Contracts and laws. Conditions: none. -/
import Derived.Test.YtkoeecdjijfjnaaGreatG3
import Derived.Test.YtkoeecdjijfjnaaGreatPlL
set_option linter.all false
set_option maxRecDepth 100000
set_option maxHeartbeats 8000000
namespace Go.Proofs.YtkoeecdjijfjnaaGreat
open Go.RowKit
theorem xG (l)(i j:Nat)(P v w)(hv:Ints w P v l)(hi:1<=i)(hi2:i<=1000)(hj:j<=1000) :
  Calls Tryz.prog 40 #[v,↑i,↑j] w fun e w'=>∃ n:Int,e=.returned (↑n)∧(0<=n∧n<i)∧w=w':=by
 have HC:=a4b (kG l (3*(i:Int)+(j:Int)+2) 1000000 P v w hv br I I);have hb:=kF (l:=l) (i:=3*(i:Int)+(j:Int)+2) (m:=1000000) I;generalize xB l (3*(i:Int)+(j:Int)+2) 1000000=k at *;obtain ⟨A,c,e,h1,h2⟩:=hv.form;subst e;clear hv;by_cases h3:k % 3=0
 ·go_enter Tryz.func40,Tryz.ntmps40
  go_wp2_with (go_at_call 38;refine HC.out.mono ?_;rintro e w' ⟨rfl,rfl⟩);go_ret;exact ⟨_,rfl,⟨Int.emod_nonneg _ I,Int.emod_lt_of_pos _ I⟩,rfl⟩
 ·go_enter Tryz.func40,Tryz.ntmps40
  go_wp2_with (go_at_call 38;refine HC.out.mono ?_;rintro e w' ⟨rfl,rfl⟩)
  all_goals
   go_ret;exact ⟨_,rfl,I,rfl⟩
def aQ5 (w:World)(e:Ending)(w':World):Prop:=∃ x A c,e=.returned (dA x A c)∧VAt w' (fun b=>w.heap.size<=b) x A c∧gsz x<=2∧Ext w w'
theorem VAt.noKids {w P k n s}(hk:I64 k)(hn:I64 n)(hs:s.size<=100):VAt w P (.mk k n s []) none 0 :=
 ⟨hk,hn,by show s.size<=_;omega,ab _,dl,⟨none,0,[],rfl,dl,dl,⟨dl,fun h=>absurd h dl⟩,by simp [GV.kids,RVs]⟩⟩
theorem aDo (k:Int)(w)(h0:0<=k)(h1:k<=1000000000):qg 39 #[↑k] w (aQ5 w):=by
 by_cases h3:k % 4=0
 ·go_enter Tryz.func39,Tryz.ntmps39
  go_wp2_with fail;exact bodyPost_ret (v:=.agg #[qz,.int .i64 (k / 4 % 9 - 4),qe,qn]) (by simp [results,Tryz.results39,go_sem]) rfl ⟨.mk 0 (k / 4 % 9 - 4) ⟨#[]⟩ [],none,0,rfl,VAt.noKids br br cq,eq,(aq _).alloc' _⟩
 ·by_cases h4:k % 4=1
  ·go_enter Tryz.func39,Tryz.ntmps39
   go_wp2_with fail;exact bodyPost_ret (v:=.agg #[.int .i64 1,.int .i64 (k / 4 % 2),qe,qn]) (by simp [results,Tryz.results39,go_sem]) rfl ⟨.mk 1 (k / 4 % 2) ⟨#[]⟩ [],none,0,rfl,VAt.noKids br br cq,eq,(aq _).alloc' _⟩
  ·by_cases h5:k % 4=2
   ·have hm:k / 4 % 3=0∨k / 4 % 3=1∨k / 4 % 3=2:=by omega
    rcases hm with hm | hm | hm
    ·go_enter Tryz.func39,Tryz.ntmps39
     go_wp2_with fail;exact bodyPost_ret (v:=.agg #[.int .i64 3,qz,.string ⟨#[76,101,97,102]⟩,qn]) (by simp [results,Tryz.results39,go_sem]) rfl ⟨.mk 3 0 ⟨#[76,101,97,102]⟩ [],none,0,rfl,VAt.noKids br br cq,eq,((aq _).alloc' _).alloc' _⟩
    ·go_enter Tryz.func39,Tryz.ntmps39
     go_wp2_with fail;exact bodyPost_ret (v:=.agg #[.int .i64 3,qz,.string ⟨#[82,101,100]⟩,qn]) (by simp [results,Tryz.results39,go_sem]) rfl ⟨.mk 3 0 ⟨#[82,101,100]⟩ [],none,0,rfl,VAt.noKids br br cq,eq,((aq _).alloc' _).alloc' _⟩
    ·go_enter Tryz.func39,Tryz.ntmps39
     go_wp2_with fail;exact bodyPost_ret (v:=.agg #[.int .i64 3,qz,.string ⟨#[88]⟩,qn]) (by simp [results,Tryz.results39,go_sem]) rfl ⟨.mk 3 0 ⟨#[88]⟩ [],none,0,rfl,VAt.noKids br br cq,eq,((aq _).alloc' _).alloc' _⟩
   ·go_enter Tryz.func39,Tryz.ntmps39
    go_wp2_with fail;have hB:=az (w.alloc (qk #[.int .i64 2,qz,qe,.slice (qp (w+1)) 1 1] 85)) 85 #[qz,.int .i64 (k / 4 % 3),qe,qn] (g:=w.heap.size+1) O;have hq:I64 (k / 4 % 3):=by unfold I64;omega
    have hz:I64 0:=br;have h2:I64 2:=br;refine bodyPost_ret (v:=.agg #[.int .i64 2,qz,qe,.slice (qp (w+1)) 1 1]) (by simp [results,Tryz.results39,go_sem]) rfl ⟨.mk 2 0 ⟨#[]⟩ [.mk 0 (k / 4 % 3) ⟨#[]⟩ []],some ↑(qp (w+1)),1,rfl,⟨h2,hz,dh,by show 1<=1;omega,by show 1<=_∧1<=_;omega,⟨some ↑(qp (w+1)),1,[↑qz,.int .i64 (k / 4 % 3),↑qe,↑qn],rfl,by show 1<=1;omega,by show 1<=_∧1<=_;omega,⟨rfl,fun _=>⟨w.heap.size+1,0,rfl,cj,fun j u hu=>by rw [Nat.zero_add];exact hB.cell' j ie⟩⟩,RVs.one (VAt.noKids (w:=_) (P:=_) hz hq cq).rv⟩⟩,eq,((aq _).alloc' _).alloc' _⟩
theorem sG:∀ a b,iQ (a ++ b)=iQ a+iQ b
 | [],b=>by simp [iQ]
 | x :: xs,b=>by simp only [List.cons_append,iQ,sG xs b];omega
theorem aLn (s r):gsz (bX s r)=1+iQ r:=by
 unfold bX;split <;> simp only [gsz]
theorem mL {bl bs}:∀ zs rows out (s:Int),bL bl rows zs=some out->0<=s->s+1024*zs.length<=1000000000 ->
  (∀ z ∈ zs,1<=bs.getD z.toNat 0∧bs.getD z.toNat 0<=1024)->(∀ z ∈ zs,∀ v ∈ (bl.getD z.toNat default).vals,(gsz v:Int)<=bs.getD z.toNat 0) ->
  (∀ q ∈ rows,1+(iQ q:Int)<=s)->∀ r ∈ out,1+(iQ r:Int)<=dG bs s zs
 | [],rows,out,s,h,_,_,_,_,hr,r,hro=>by
  simp only [bL,Option.some.injEq] at h;subst h;simp only [dG];exact hr r hro
 | z :: zs,rows,out,s,h,h0,hs,hb,hv,hr,r,hro=>by
  simp only [bL] at h;split at h
  ·cases h
  ·have hz:=hb z O
   simp only [ai] at hs;simp only [dG];rw [oF br];refine mL zs _ out _ h I I (fun y hy=>hb y db) (fun y hy=>hv y db) ?_ r hro;intro q hq;obtain ⟨q',hq',v,hv',rfl⟩:=jV.1 hq;have h1:=hr q' hq';have h2:=hv z O v hv';rw [sG];simp only [iQ];omega
theorem vW {before bind}:∀ zs k out m,∀ v ∈ (jH before bind k out m zs).vals,v ∈ out∨∃ i,i<zs.length∧¬ (bind=true∧k+i=0)∧v ∈ (before.getD (zs.getD i 0).toNat default).vals
 | [],k,out,m,v,hv=>by
  simp only [jH] at hv;split at hv
  ·simp at hv
  ·exact .inl hv
 | z :: zs,k,out,m,v,hv=>by
  simp only [jH] at hv;split at hv
  ·rcases vW zs (k+1) out m v hv with h | ⟨i,h1,h2,h3⟩
   ·exact .inl h
   ·exact .inr ⟨i+1,by simpa using h1,I,by simpa using h3⟩
  ·next hb =>
   rcases vW zs (k+1) _ _ v hv with h | ⟨i,h1,h2,h3⟩
   ·rcases ap.1 ((eR _ v).1 h) with h | h
    ·exact .inl h
    ·exact .inr ⟨0,O,I,fw⟩
   ·exact .inr ⟨i+1,by simpa using h1,I,by simpa using h3⟩
theorem aCd {t i}(h:bD t i)(hs:pZ t):∀ j,j<i->∀ v ∈ ((aF t).getD j default).vals,(gsz v:Int)<=(bH t).getD j 0:=by
 intro j
 induction j using Nat.strongRecOn with
 | ind j ih =>
  intro hj v hv;have hjt:j<t:=by have:=h.1;omega
  have hn:=(h.at_ hj).node;have hsz:=wB h hs;have hx:=hs _ (aD (d:=default) hjt);rw [iN hjt] at hv;rw [mK hjt]
  have hbz:∀ z:Int,0<=z->z<(j:Int)->1<=(bH (t.take j)).getD z.toNat 0∧(bH (t.take j)).getD z.toNat 0<=1024:=fun z h1 h2=>by
   rw [jS hjt ⟨h1,h2⟩];exact hsz _ I
  have hvz:∀ z:Int,0<=z->z<(j:Int)->∀ v ∈ ((aF (t.take j)).getD z.toNat default).vals,(gsz v:Int)<=(bH (t.take j)).getD z.toNat 0:=fun z h1 h2=>by
   rw [jS hjt ⟨h1,h2⟩,gT hjt ⟨h1,h2⟩];exact ih z.toNat I I
  have hkl:=(eX h hj).1;generalize t.getD j default=x at *;generalize bH (t.take j)=bs at *;generalize aF (t.take j)=bl at *;unfold cI at hv;unfold jK;split at hv
  ·next h0 =>
   rw [if_pos h0];simp only [List.mem_singleton] at hv;subst hv;rw [wJ _ I];exact Int.le_refl _
  ·next h0 =>
   rw [if_neg h0];split at hv
   ·next h1 =>
    rw [if_pos h1];split at hv
    ·simp at hv
    ·obtain ⟨k,_,_,rfl⟩:=iI.1 hv
     simp [gsz,iQ]
   ·next h1 =>
    rw [if_neg h1];split at hv
    ·next h3 =>
     rw [if_pos h3];unfold zL at hv;split at hv
     ·simp at hv
     ·next rows hrows =>
      have hv:=(eR _ v).1 hv;obtain ⟨r,hr,rfl⟩:=List.mem_map.1 hv;rw [aLn];have:=mL (bs:=bs) x.kids [[]] rows 1 hrows I I (fun z hz=>hbz z (hn.kids z hz).1 (hn.kids z hz).2) (fun z hz=>hvz z (hn.kids z hz).1 (hn.kids z hz).2) (fun q hq=>by simp only [List.mem_singleton] at hq;subst hq;simp [iQ]) r hr;omega
    ·next h3 =>
     rw [if_neg h3];rcases vW _ _ _ _ v hv with hv | ⟨i,h1,h2,h3⟩
     ·simp at hv
     ·have hz:=hn.kids _ (aD (d:=0) h1)
      have hle:=hvz _ hz.1 hz.2 v h3;have hkd:=hn.kind;refine Int.le_trans hle ((eV x.kids 0 0).2 i h1 ?_);by_cases h4:x.kind=4
      ·exact .inr (by simp only [h4,decide_true,true_and] at h2;omega)
      ·exact .inl (a4e I)
section
variable {t:List GN}{x:GN}
theorem yL {β}(f:List β->GN->β)(d){i:Nat}(hi:i<t):(jJ f [] (t ++ [x])).getD i d=(jJ f [] t).getD i d:=by
 rw [iS];have h:i<(jJ f [] t):=by rw [eF];simpa using hi
 simp only [List.getD];rw [List.getElem?_append_left h]
theorem vZ {i:Nat}(hi:i<t):(t ++ [x]).getD i default=t.getD i default:=by
 simp only [List.getD];rw [List.getElem?_append_left hi]
theorem mJ:(t ++ [x]).getD t default=x:=by
 simp [List.getD]
theorem aIy {i:Nat}(hi:i<t)(h:yQ t i):yQ (t ++ [x]) i:=by
 have hn:=h.node;have hm:=h.many;have hv:=h.vals;have hl:=h.len;have hs:=h.size
 have hkd:(t.getD i default).kind=4->((t.getD i default).kids.getD 0 0).toNat<t:=fun h4=>by
  have hb:=hn.bind h4;have hz:=hn.kids _ (aD (d:=0) (show 0<(t.getD i default).kids.length by omega));omega
 refine ⟨?_,?_,?_,?_,?_⟩
 ·rw [vZ hi];exact hn
 ·rw [show (aM (t ++ [x])).getD i 0=(aM t).getD i 0 from yL gZ 0 hi];exact hl
 ·rw [show (bH (t ++ [x])).getD i 0=(bH t).getD i 0 from yL jK 0 hi];exact hs
 ·rw [vZ hi];intro h4
  rw [show (aF (t ++ [x])).getD _ default=(aF t).getD _ default from yL cI default (hkd h4)];exact hm h4
 ·rw [vZ hi];intro h4
  rw [show (aF (t ++ [x])).getD _ default=(aF t).getD _ default from yL cI default (hkd h4)];exact hv h4
end
def bE (n:Int):GN:=⟨0,ByteArray.empty,0,0,[],[],[],[],.mk 0 n ByteArray.empty []⟩
structure aA9 (x:GN):Prop where
 sm:iD x
 few:x.weights.length<=100∧x.labels.length<=100∧x.values.length<=100∧x.kids.length<=100∧x.name.size<=100
 lab:∀ s ∈ x.labels,s.size<=100
structure fF (t:List GN):Prop where
 good:aY t=0
 few:∀ x ∈ t,x.kind=3->x.kids.length<=4
 smg:∀ x ∈ t,aA9 x
theorem fF.small {t}(h:fF t):∀ x ∈ t,iD x:=fun x hx=>(h.smg x hx).sm
theorem fF.sm {t}(h:fF t):pZ t:=fun x hx=>(h.small x hx).2.2.2.2.1
theorem fF.nil:fF []:=⟨rfl,fun _ h=>(by simp at h),fun _ h=>(by simp at h)⟩
theorem fF.add {t x}(h:fF t)(hv:aY (t ++ [x])=0)(hf:x.kind=3->x.kids.length<=4)(hs:aA9 x):fF (t ++ [x]) :=
 ⟨hv,fun y hy=>by
  rcases ap.1 hy with hy | hy
  ·exact h.few y hy
  ·simp only [List.mem_singleton] at hy;subst hy;exact hf,fun y hy=>by
  rcases ap.1 hy with hy | hy
  ·exact h.smg y hy
  ·simp only [List.mem_singleton] at hy;subst hy;exact hs⟩
theorem pN:aU ByteArray.empty=true:=by unfold aU;rw [kB];rfl
theorem aAe (n j):dV j (bE n):=by
 have hV:dO (.mk 0 n ByteArray.empty [])=0:=by
  unfold dO;have h1:dQ aE (.mk 0 n ByteArray.empty [])=true:=by simp [bV,GV.kids,eI,aE,GV.kind,GV.s,pN]
  have h2:dQ bY (.mk 0 n ByteArray.empty [])=true:=by simp [bV,GV.kids,eI,bY,GV.kind]
  have h3:rsz (.mk 0 n ByteArray.empty [])=1:=by rw [pI];simp [GV.kids,fJ]
  rw [h1,h2,h3];simp
 refine ⟨ff,?_,ff,ff,ff,ff,Inc.nil,?_,?_⟩
 ·simp [bE,fV,unA,unB,unC,pN]
 ·simp [bE,bK,cG,hV]
 ·simp [bE,bG,yR]
theorem fF.leaf {t}(h:fF t)(hl:t.length<=100)(n):fF (t ++ [bE n]):=by
 have hg:=eE.1 h.good;have hlen:(t ++ [bE n]).length=t.length+1:=by simp
 refine h.add (eE.2 ⟨ab _,I,fun j hj=>nR.2 ?_⟩) (fun h3=>by simp [bE] at h3) ⟨⟨ff,ff,ff,ff,by simp [bE,gsz,iQ],ff⟩,ff,ff⟩;by_cases hj':j<t.length
 ·exact aIy hj' (hg.at_ hj')
 ·obtain rfl:j=t.length:=by omega
  have e1:(aM (t ++ [bE n])).getD t 0=0:=by
   rw [xF I,mJ];simp [gZ,bE]
  have e2:(bH (t ++ [bE n])).getD t 0=1:=by
   rw [mK I,mJ];simp [jK,bE,pI,GV.kids,fJ]
  refine ⟨by rw [mJ];exact aAe n _,I,I,?_,?_⟩
  ·rw [mJ];intro h4;simp [bE] at h4
  ·rw [mJ];intro h4;simp [bE] at h4
theorem fF.vals {t}(h:fF t){j:Nat}(hj:j<t):∀ v ∈ ((aF t).getD j default).vals,gsz v<=1000000000:=by
 intro v hv;have hg:=eE.1 h.good;have h1:=aCd hg h.sm j hj v hv;have h2:=(wB hg h.sm j hj).2;omega
section
variable {w w':World}{P Q:Nat->Prop}
theorem Ints.nil:Ints w P qn []:=⟨none,0,rfl,ab _,O,O,⟨rfl,fun h=>absurd h O⟩⟩
theorem nW.nil:nW w P qn []:=⟨none,0,[],rfl,ab _,O,⟨rfl,fun h=>absurd h O⟩,fy⟩
theorem bT.nil:bT w P qn []:=⟨none,0,[],rfl,ab _,O,⟨rfl,fun h=>absurd h O⟩,by simp [RVs]⟩
end
theorem eG {w:World}{base e size v n xs}(h:w.ownsRow base e size v n xs){p}(hp:some p.block ≠ v.ownBlock)(u):(w.setCell p u).ownsRow base e size v n xs:=by
 refine ⟨h.1,?_⟩;rcases h.2 with h3 | ⟨G,cap,cur,h4,h5,h6,h7⟩
 ·exact .inl h3
 ·exact .inr ⟨G,cap,cur,h4,h5,(Below.heap_setCell _ _ _ _ (fun e=>hp (by rw [h4];simp [Value.ownBlock,e]))).trans h6,h7⟩
def aQ8 (P:Nat->Prop)(w:World)(e:Ending)(w':World):Prop:=∃ x a,e=.returned (fU x a)∧NAt w' (New P w) x a∧aA9 x∧x.kind ≠ 3∧Ext w w'
def aJp (n0:Nat)(Av:Option Addr)(cv:Nat)(gx B:Nat)(W:World)(jv:Value)(wr:World):Prop :=
 ∃ (j:Nat) (kids:List Int) (kv:Value),j<=n0∧jv=↑j∧kids=j+1∧(∀ z ∈ kids,I64 z)∧Blk wr gx 87 #[.int .i64 4,qe,qz,qz,qn,qn,.slice Av n0 cv,kv,qz,qz,qe,qn] ∧
  wr.ownsRow B 3 1 kv (j+1) (kids.map (Value.int .i64))∧some gx ≠ kv.ownBlock∧Ext W wr
theorem aMk (t l)(k:Int)(P Q:Nat->Prop)(vn vl)(w:World)(hg:fF t)(hlen:1<=t.length)(hlen2:t.length<=100)(hk0:0<=k)(hk1:k<=1000000000)(hP:∀ b,P b->b<w)(ht:Nds w P vn t)(hl:Ints w Q vl l) :
  qg 41 #[.agg #[vn],vl,t.length,↑k] w (aQ8 P w):=by
 have HT:=a4b ht;have HL:=a4b hl;have HG:=a4b hg;have HP:=a4b hP;obtain ⟨An,cn,en,hn1,hn2⟩:=ht.form;subst en;obtain ⟨Al,cl,el,hl1,hl2⟩:=hl.form;subst el;obtain ⟨i0,hi,hz0,hz1,hz2⟩:=info_parts Tryz.info3;have HI:=a4b hi;clear ht hl hg hP hi;go_enter Tryz.func41,Tryz.ntmps41;go_upto_region 1 with fail;have HE:=a4b (show Ext w ((w.alloc (qk #[.slice An t cn] 25)).alloc (qk #[qz,qe,qz,qz,qn,qn,qn,qn,qz,qz,qe,qn] 87)) from ((aq w).alloc' _).alloc' _);have HB:=a4b ((aw w 25 #[.slice An t cn]).alloc (qk #[qz,qe,qz,qz,qn,qn,qn,qn,qz,qz,qe,qn] 87));have HR:=a4b (az (w.alloc (qk #[.slice An t cn] 25)) 87 #[qz,qe,qz,qz,qn,qn,qn,qn,qz,qz,qe,qn] (g:=w.heap.size+1) O);have hsz:w.heap.size+2<=((w.alloc (qk #[.slice An t cn] 25)).alloc (qk #[qz,qe,qz,qz,qn,qn,qn,qn,qz,qz,qe,qn] 87)):=by simp
 generalize (w.alloc (qk #[.slice An t cn] 25)).alloc (qk #[qz,qe,qz,qz,qn,qn,qn,qn,qz,qz,qe,qn] 87)=W at *;have b0:=HB.out.cell' (u:=.slice An t cn) 0 rfl;go_upto_region 2 with (go_at_call 40;refine (xG l t 0 Q _ W (HL.out.ext HE.out) hlen I I).mono ?_;rintro e w1 ⟨nf,rfl,hnf,rfl⟩);obtain ⟨n,rfl⟩:∃ n:Nat,nf=(n:Int):=⟨nf.toNat,I⟩;have hnl:n<t.length:=by omega
 have HVS:=a4b (HG.out.vals hnl);have hgood:=eE.1 HG.out.good;have HV:=a4b (uH t n P _ W (HT.out.ext HE.out) (hgood.mono I));clear hgood;generalize (aF t).getD n default=gl at *;obtain ⟨vals,many⟩:=gl;go_upto_region 3 with (go_at_call 86;refine HV.out.mono ?_;rintro e w1 ⟨Av,cv,rfl,hv1,hx1⟩);have HV1:=a4b hv1;have HX1:=a4b (HE.out.trans' hx1);have HR1:=a4b (HR.out.ext hx1);have hs1:=hx1.size;obtain ⟨A9,c9,e9,hcap1,hcap2⟩:=hv1.form;injection e9 with e91 _ e92;subst e91 e92;clear hv1 hx1 b0 HV
 try dsimp only at HV1
 try dsimp only at HVS
 try dsimp only at hcap1
 try dsimp only at hcap2
 try dsimp only
 generalize hn0:vals.length=n0 at *;have HN0:=a4b hn0;clear hn0;have HLF:=a4b (fun (V:World)=>aDo k V hk0 hk1);cases many with
 | true =>
  go_wp2_with (go_at_call 39;refine (HLF.out _).mono ?_;rintro e w2 ⟨y,Ay,cy,rfl,hy,hgy,hx2⟩;have R2:=HR1.out.ext hx2;have rc0:=R2.cell' (u:=qz) 0 rfl;have rc1:=R2.cell' (u:=qe) 1 rfl;have rc2:=R2.cell' (u:=qz) 2 rfl;have rc3:=R2.cell' (u:=qz) 3 rfl;have rc4:=R2.cell' (u:=qn) 4 rfl;have rc5:=R2.cell' (u:=qn) 5 rfl;have rc6:=R2.cell' (u:=qn) 6 rfl;have rc7:=R2.cell' (u:=qn) 7 rfl;have rc8:=R2.cell' (u:=qz) 8 rfl;have rc9:=R2.cell' (u:=qz) 9 rfl;have rc10:=R2.cell' (u:=qe) 10 rfl;have rc11:=R2.cell' (u:=qn) 11 rfl;have rf0:=R2.frozen 0;have rf1:=R2.frozen 1;have rf2:=R2.frozen 2;have rf3:=R2.frozen 3;have rf4:=R2.frozen 4;have rf5:=R2.frozen 5;have rf6:=R2.frozen 6;have rf7:=R2.frozen 7;have rf8:=R2.frozen 8;have rf9:=R2.frozen 9;have rf10:=R2.frozen 10;have rf11:=R2.frozen 11;have HR2:=a4b R2;have HX2:=a4b (HX1.out.trans' hx2);have HY:=a4b hy;clear R2 hx2 hy);have hfin:=aG [qz,qe,qz,qz,qn,qn,qn,qn,y.kind,y.n,y.s,.slice Ay y.kids cy] (w:=w2) (cs:=[qz,qe,qz,qz,qn,qn,qn,qn,qz,qz,qe,qn]) (g:=w.heap.size+1) (t:=87) 0 HR2.out O;simp only [List.take_zero,List.nil_append,ai,List.length_nil,Nat.zero_add,List.drop_succ_cons,List.drop_nil,List.append_nil] at hfin;have z0:=hfin.cell' (u:=qz) 0 rfl;have z1:=hfin.cell' (u:=qe) 1 rfl;have z2:=hfin.cell' (u:=qz) 2 rfl;have z3:=hfin.cell' (u:=qz) 3 rfl;have z4:=hfin.cell' (u:=qn) 4 rfl;have z5:=hfin.cell' (u:=qn) 5 rfl;have z6:=hfin.cell' (u:=qn) 6 rfl;have z7:=hfin.cell' (u:=qn) 7 rfl;have z8:=hfin.cell' (u:=↑y.kind) 8 rfl;have z9:=hfin.cell' (u:=↑y.n) 9 rfl;have z10:=hfin.cell' (u:=y.s) 10 rfl;have z11:=hfin.cell' (u:=.slice Ay y.kids cy) 11 rfl;have hE:Ext w (w2.setCells (w+1) 0 [qz,qe,qz,qz,qn,qn,qn,qn,y.kind,y.n,y.s,.slice Ay y.kids cy]):=((ar (M:=fun _=>False) HX2.out).setCells _ 0 (.inr I)).ext;have hV:VAt (w2.setCells (w+1) 0 [qz,qe,qz,qz,qn,qn,qn,qn,y.kind,y.n,y.s,.slice Ay y.kids cy]) (New P w) y Ay cy:=HY.out.carry (aB.setCells I _ 0 (fun _ _ _=>rfl)) (fun b _ h=>.inr I);have hgen:((((((((((((w2).setCell (qp (w+1)) qz).setCell (qt (w+1) 1) qe).setCell (qt (w+1) 2) qz).setCell (qt (w+1) 3) qz).setCell (qt (w+1) 4) qn).setCell (qt (w+1) 5) qn).setCell (qt (w+1) 6) qn).setCell (qt (w+1) 7) qn).setCell (qt (w+1) 8) (↑y.kind)).setCell (qt (w+1) 9) (↑y.n)).setCell (qt (w+1) 10) y.s).setCell (qt (w+1) 11) (.slice Ay y.kids cy)=w2.setCells (w+1) 0 [qz,qe,qz,qz,qn,qn,qn,qn,y.kind,y.n,y.s,.slice Ay y.kids cy]:=rfl;rw [hgen];clear hgen;generalize w2.setCells (w+1) 0 [qz,qe,qz,qz,qn,qn,qn,qn,y.kind,y.n,y.s,.slice Ay y.kids cy]=WF at *;exact bodyPost_ret (v:=fU ⟨0,⟨#[]⟩,0,0,[],[],[],[],y⟩ ⟨none,0,none,0,none,0,none,0,Ay,cy⟩) (by simp [results,Tryz.results41,go_sem,z0,z1,z2,z3,z4,z5,z6,z7,z8,z9,z10,z11]) rfl ⟨_,_,rfl,⟨cm,dh,cm,cm,Ints.nil,nW.nil,bT.nil,Ints.nil,hV⟩,⟨⟨O,O,O,O,by show gsz y<=_;omega,O⟩,⟨O,O,O,O,dh⟩,O⟩,O,hE⟩
 | false =>
  by_cases hn6:n0<=6
  ·have hd:decide (6<(n0:Int))=false:=a4f I
   go_upto_region 6 with fail;have HE2:=a4b (show Ext w1 ((w1.alloc (qk #[↑n] 3)).alloc (qk #[.int .i64 4,qe,qz,qz,qn,qn,.slice Av n0 cv,.slice (qp w1) 1 1,qz,qz,qe,qn] 87)) from ((aq w1).alloc' _).alloc' _);have HKO:=a4b (show ((w1.alloc (qk #[↑n] 3)).alloc (qk #[.int .i64 4,qe,qz,qz,qn,qn,.slice Av n0 cv,.slice (qp w1) 1 1,qz,qz,qe,qn] 87)).ownsRow w1 3 1 (.slice (qp w1) 1 1) 1 [.int .i64 n] from ((World.ownsRow_lit w1 #[↑n] 1 (ab _) di rfl)).alloc _);have HBX:=a4b (az (w1.alloc (qk #[↑n] 3)) 87 #[.int .i64 4,qe,qz,qz,qn,qn,.slice Av n0 cv,.slice (qp w1) 1 1,qz,qz,qe,qn] (g:=w1.heap.size+1) O);generalize (w1.alloc (qk #[↑n] 3)).alloc (qk #[.int .i64 4,qe,qz,qz,qn,qn,.slice Av n0 cv,.slice (qp w1) 1 1,qz,qz,qe,qn] 87)=W2 at *
   generalize hgx:w1.heap.size+1=gx at *;have HKI:=a4b (show aJp n0 Av cv gx w1 w1 qz W2 from ⟨0,[(n:Int)],_,af _,rfl,rfl,fun z hz=>by simp only [List.mem_singleton] at hz;subst hz;unfold I64;omega,HBX.out,HKO.out,by simp [Value.ownBlock];omega,HE2.out⟩);have hgx1:w1<gx:=by omega
   clear hgx HBX HKO hd;go_wp2_with fail;go_loopw [13] (fun j wr=>aJp n0 Av cv gx w1 w1 j wr) (fun j _=>n0 - (intOf j).toNat)
   case atStart=>exact HKI.out
   case round =>
    obtain ⟨j,kids,kv,hj,rfl,hkl,hk64,hB,hown,hne,hF⟩:=hrel;obtain ⟨A7,c7,e7,-,-,-⟩:=Sl.of_own hown;subst e7;have HOWN:=a4b hown;have HKL:=a4b hkl;have HK64:=a4b hk64;have HBX:=a4b hB;have HF:=a4b hF;have hsw:=hF.size;have hne':¬ some gx=(Value.slice A7 (j+1) c7).ownBlock:=hne;have HEX:=a4b (HX1.out.trans' hF);clear hown hkl hk64 hB hF hne;by_cases hlt:j<n0
    ·have HKC:=a4b (fun (V:World) (hE:Ext wr V)=>show qg 40 #[.slice Al l cl,t.length,.int .i64 ((j:Int)+1)] V _ from (by have h:=xG l t (j+1) Q _ V (HL.out.ext (HEX.out.trans' hE)) hlen I I;rw [show ((j+1:Nat):Int)=(j:Int)+1 by omega] at h;exact h))
     have x7:=HBX.out.cell' (u:=.slice A7 (j+1) c7) 7 rfl;have lx:=HBX.out.lt;have hwr:IntKind.i64.wrap ((j:Int)+1)=(j:Int)+1:=IntWalk.i64_in _ I;go_upto_region 9 with fail
     go_region_law (first
      | (refine zH (by rfl) 40 #[.tmp 45,.tmp 46,.tmp 48] #[22,3,3] (by rfl) _ Tryz.func40 (by rfl) (by rfl) #[.slice Al l cl,t.length,.int .i64 ((j:Int)+1)] (by simp [Act.eval,Act.put]) ?_;refine (HKC.out _ (aq wr).drew').mono ?_;rintro e w' ⟨nk,rfl,hnk,rfl⟩;refine ⟨_,rfl,?_⟩)
      | (refine dK _ (by rfl) (.tmp 44) (.tmp 50) 22 (by rfl) w1 3 i0 _ 1 8 Tryz.underlying22 HI.out hz0 hz1 hz2 rfl (by omega) (.slice A7 (j+1) c7) (j+1) (kids.map (Value.int .i64)) (by rfl) ((HOWN.out.ext_ (aq _).drew').alloc _) (fun _=>True) (qp wr) 1 1 [.int .i64 nk] (by rfl) (Sl.new wr.drew _ _ _ _ rfl) (by simp [Value.oneCell']) (by omega) (by omega) (by simp;omega) ?_;intro v5 w5 ho5 hf5 hb5;obtain ⟨A5,c5,e5,-,-,-⟩:=Sl.of_own ho5;subst e5;have R5:=(HBX.out.drew.alloc (qk #[.int .i64 nk] 3)).fr hf5 hne';have y7:=R5.cell' (u:=.slice A7 (j+1) c7) 7 rfl;have y7f:=R5.frozen 7;have HR5:=a4b R5;have HO5:=a4b ho5;have HF5:=a4b hf5;have HB5:=a4b hb5;clear R5 ho5 hf5 hb5))
     all_goals
      clear hwr;go_wp2_with fail;go_roundw
      case rel =>
       have hs5:=HF5.out.size;have hown5:w1<=gx:=by omega
       have hne5:some gx ≠ (Value.slice A5 (j+1+1) c5).ownBlock:=by
        rcases HB5.out with h | h
        ·rw [h];exact hne'
        ·rw [h];intro e;injection e with e;simp at e;omega
       have hfr:Fr (fun b=>w1.heap.size<=b) w1 (w5.setCell (qt gx 7) (.slice A5 (j+1+1) c5)):=by
        refine Fr.setCell ?_ (.inl hown5) _;exact ((ar ((HF.out.drew').alloc' _)).trans (HF5.out.mono (fun b hb=>HOWN.out.block_ge hb.symm)))
       refine ⟨j+1,kids ++ [nk],.slice A5 (j+1+1) c5,I,by go_num,by rw [aa,HKL.out];rfl,?_,HR5.out.set_ 7 _,?_,hne5,hfr.new_ext (fun _ h=>h)⟩
       ·intro z hz
        rcases ap.1 hz with hz | hz
        ·exact HK64.out z hz
        ·simp only [List.mem_singleton] at hz;subst hz;unfold I64;omega
       ·refine World.ownsRow.len_cast (eG HO5.out (p:=qt gx 7) (fun e=>hne5 e) _) rfl O
      case measure=>simp [intOf];omega
    ·obtain rfl:j=n0:=by omega
     have R2:=HR1.out.ext HF.out;have rc0:=R2.cell' (u:=qz) 0 rfl;have rc1:=R2.cell' (u:=qe) 1 rfl;have rc2:=R2.cell' (u:=qz) 2 rfl;have rc3:=R2.cell' (u:=qz) 3 rfl;have rc4:=R2.cell' (u:=qn) 4 rfl;have rc5:=R2.cell' (u:=qn) 5 rfl;have rc6:=R2.cell' (u:=qn) 6 rfl;have rc7:=R2.cell' (u:=qn) 7 rfl;have rc8:=R2.cell' (u:=qz) 8 rfl;have rc9:=R2.cell' (u:=qz) 9 rfl;have rc10:=R2.cell' (u:=qe) 10 rfl;have rc11:=R2.cell' (u:=qn) 11 rfl;have rf0:=R2.frozen 0;have rf1:=R2.frozen 1;have rf2:=R2.frozen 2;have rf3:=R2.frozen 3;have rf4:=R2.frozen 4;have rf5:=R2.frozen 5;have rf6:=R2.frozen 6;have rf7:=R2.frozen 7;have rf8:=R2.frozen 8;have rf9:=R2.frozen 9;have rf10:=R2.frozen 10;have rf11:=R2.frozen 11;have xc0:=HBX.out.cell' (u:=.int .i64 4) 0 rfl;have xc1:=HBX.out.cell' (u:=qe) 1 rfl;have xc2:=HBX.out.cell' (u:=qz) 2 rfl;have xc3:=HBX.out.cell' (u:=qz) 3 rfl;have xc4:=HBX.out.cell' (u:=qn) 4 rfl;have xc5:=HBX.out.cell' (u:=qn) 5 rfl;have xc6:=HBX.out.cell' (u:=.slice Av j cv) 6 rfl;have xc7:=HBX.out.cell' (u:=.slice A7 (j+1) c7) 7 rfl;have xc8:=HBX.out.cell' (u:=qz) 8 rfl;have xc9:=HBX.out.cell' (u:=qz) 9 rfl;have xc10:=HBX.out.cell' (u:=qe) 10 rfl;have xc11:=HBX.out.cell' (u:=qn) 11 rfl;have HR2:=a4b R2;clear R2;go_wp2_with fail;have hfin:=aG [.int .i64 4,qe,qz,qz,qn,qn,.slice Av j cv,.slice A7 (j+1) c7,qz,qz,qe,qn] (w:=wr) (cs:=[qz,qe,qz,qz,qn,qn,qn,qn,qz,qz,qe,qn]) (g:=w.heap.size+1) (t:=87) 0 HR2.out O;simp only [List.take_zero,List.nil_append,ai,List.length_nil,Nat.zero_add,List.drop_succ_cons,List.drop_nil,List.append_nil] at hfin;have z0:=hfin.cell' (u:=.int .i64 4) 0 rfl;have z1:=hfin.cell' (u:=qe) 1 rfl;have z2:=hfin.cell' (u:=qz) 2 rfl;have z3:=hfin.cell' (u:=qz) 3 rfl;have z4:=hfin.cell' (u:=qn) 4 rfl;have z5:=hfin.cell' (u:=qn) 5 rfl;have z6:=hfin.cell' (u:=.slice Av j cv) 6 rfl;have z7:=hfin.cell' (u:=.slice A7 (j+1) c7) 7 rfl;have z8:=hfin.cell' (u:=qz) 8 rfl;have z9:=hfin.cell' (u:=qz) 9 rfl;have z10:=hfin.cell' (u:=qe) 10 rfl;have z11:=hfin.cell' (u:=qn) 11 rfl;have hsx:=HX1.out.size
     have hnew:¬ New P W (w+1):=by
      rintro (h | h)
      ·have:=HP.out _ h;omega
      ·omega
     have hE:Ext w (wr.setCells (w+1) 0 [.int .i64 4,qe,qz,qz,qn,qn,.slice Av j cv,.slice A7 (j+1) c7,qz,qz,qe,qn]):=((ar (M:=fun _=>False) HEX.out).setCells _ 0 (.inr I)).ext;have hV:bT (wr.setCells (w+1) 0 [.int .i64 4,qe,qz,qz,qn,qn,.slice Av j cv,.slice A7 (j+1) c7,qz,qz,qe,qn]) (New P w) (.slice Av vals cv) vals:=by rw [HN0.out];exact HV1.out.carry (aB.setCells hnew _ 0 (aB.of_ext HF.out)) (fun b _ h=>h.elim .inl (fun h=>.inr I))
     have hK:Ints (wr.setCells (w+1) 0 [.int .i64 4,qe,qz,qz,qn,qn,.slice Av j cv,.slice A7 (j+1) c7,qz,qz,qe,qn]) (New P w) (.slice A7 kids c7) kids:=by
      have h1:Ints wr (fun b=>w1.heap.size<=b) (.slice A7 (j+1) c7) kids:=Ints.of_own (HOWN.out.len_cast HKL.out.symm rfl) HK64.out (by rw [HKL.out];omega) (fun b hb=>HOWN.out.block_ge hb);rw [HKL.out];exact h1.carry (aB.setCells I _ 0 (fun _ _ _=>rfl)) (fun b _ h=>.inr I)
     have hve:(Value.slice Av vals cv)=.slice Av j cv:=by rw [HN0.out]
     have hke:(Value.slice A7 kids c7)=.slice A7 (j+1) c7:=by rw [HKL.out]
     have hgen:((((((((((((wr).setCell (qp (w+1)) (.int .i64 4)).setCell (qt (w+1) 1) qe).setCell (qt (w+1) 2) qz).setCell (qt (w+1) 3) qz).setCell (qt (w+1) 4) qn).setCell (qt (w+1) 5) qn).setCell (qt (w+1) 6) (.slice Av j cv)).setCell (qt (w+1) 7) (.slice A7 (j+1) c7)).setCell (qt (w+1) 8) qz).setCell (qt (w+1) 9) qz).setCell (qt (w+1) 10) qe).setCell (qt (w+1) 11) qn=wr.setCells (w+1) 0 [.int .i64 4,qe,qz,qz,qn,qn,.slice Av j cv,.slice A7 (j+1) c7,qz,qz,qe,qn]:=rfl;rw [hgen];clear hgen;generalize wr.setCells (w+1) 0 [.int .i64 4,qe,qz,qz,qn,qn,.slice Av j cv,.slice A7 (j+1) c7,qz,qz,qe,qn]=WF at *;rw [<- hve] at z6;rw [<- hke] at z7;exact bodyPost_ret (v:=fU ⟨4,⟨#[]⟩,0,0,[],[],vals,kids,.mk 0 0 ⟨#[]⟩ []⟩ ⟨none,0,none,0,Av,cv,A7,c7,none,0⟩) (by simp [results,Tryz.results41,go_sem,GV.kind,GV.n,GV.s,GV.kids,z0,z1,z2,z3,z4,z5,z6,z7,z8,z9,z10,z11]) rfl ⟨_,_,rfl,⟨cm,dh,cm,cm,Ints.nil,nW.nil,hV,hK,VAt.noKids cm cm cq⟩,⟨⟨O,O,by show vals.length<=_;rw [HN0.out];omega,by show kids.length<=_;rw [HKL.out];omega,eq,HVS.out⟩,⟨O,O,by show vals.length<=_;rw [HN0.out];omega,by show kids.length<=_;rw [HKL.out];omega,dh⟩,O⟩,O,hE⟩
  ·have hd:decide (6<(n0:Int))=true:=a4e I
   go_wp2_with (go_at_call 39;refine (HLF.out _).mono ?_;rintro e w2 ⟨y,Ay,cy,rfl,hy,hgy,hx2⟩;have R2:=HR1.out.ext hx2;have rc0:=R2.cell' (u:=qz) 0 rfl;have rc1:=R2.cell' (u:=qe) 1 rfl;have rc2:=R2.cell' (u:=qz) 2 rfl;have rc3:=R2.cell' (u:=qz) 3 rfl;have rc4:=R2.cell' (u:=qn) 4 rfl;have rc5:=R2.cell' (u:=qn) 5 rfl;have rc6:=R2.cell' (u:=qn) 6 rfl;have rc7:=R2.cell' (u:=qn) 7 rfl;have rc8:=R2.cell' (u:=qz) 8 rfl;have rc9:=R2.cell' (u:=qz) 9 rfl;have rc10:=R2.cell' (u:=qe) 10 rfl;have rc11:=R2.cell' (u:=qn) 11 rfl;have rf0:=R2.frozen 0;have rf1:=R2.frozen 1;have rf2:=R2.frozen 2;have rf3:=R2.frozen 3;have rf4:=R2.frozen 4;have rf5:=R2.frozen 5;have rf6:=R2.frozen 6;have rf7:=R2.frozen 7;have rf8:=R2.frozen 8;have rf9:=R2.frozen 9;have rf10:=R2.frozen 10;have rf11:=R2.frozen 11;have HR2:=a4b R2;have HX2:=a4b (HX1.out.trans' hx2);have HY:=a4b hy;clear R2 hx2 hy);have hfin:=aG [qz,qe,qz,qz,qn,qn,qn,qn,y.kind,y.n,y.s,.slice Ay y.kids cy] (w:=w2) (cs:=[qz,qe,qz,qz,qn,qn,qn,qn,qz,qz,qe,qn]) (g:=w.heap.size+1) (t:=87) 0 HR2.out O;simp only [List.take_zero,List.nil_append,ai,List.length_nil,Nat.zero_add,List.drop_succ_cons,List.drop_nil,List.append_nil] at hfin;have z0:=hfin.cell' (u:=qz) 0 rfl;have z1:=hfin.cell' (u:=qe) 1 rfl;have z2:=hfin.cell' (u:=qz) 2 rfl;have z3:=hfin.cell' (u:=qz) 3 rfl;have z4:=hfin.cell' (u:=qn) 4 rfl;have z5:=hfin.cell' (u:=qn) 5 rfl;have z6:=hfin.cell' (u:=qn) 6 rfl;have z7:=hfin.cell' (u:=qn) 7 rfl;have z8:=hfin.cell' (u:=↑y.kind) 8 rfl;have z9:=hfin.cell' (u:=↑y.n) 9 rfl;have z10:=hfin.cell' (u:=y.s) 10 rfl;have z11:=hfin.cell' (u:=.slice Ay y.kids cy) 11 rfl;have hE:Ext w (w2.setCells (w+1) 0 [qz,qe,qz,qz,qn,qn,qn,qn,y.kind,y.n,y.s,.slice Ay y.kids cy]):=((ar (M:=fun _=>False) HX2.out).setCells _ 0 (.inr I)).ext;have hV:VAt (w2.setCells (w+1) 0 [qz,qe,qz,qz,qn,qn,qn,qn,y.kind,y.n,y.s,.slice Ay y.kids cy]) (New P w) y Ay cy:=HY.out.carry (aB.setCells I _ 0 (fun _ _ _=>rfl)) (fun b _ h=>.inr I);have hgen:((((((((((((w2).setCell (qp (w+1)) qz).setCell (qt (w+1) 1) qe).setCell (qt (w+1) 2) qz).setCell (qt (w+1) 3) qz).setCell (qt (w+1) 4) qn).setCell (qt (w+1) 5) qn).setCell (qt (w+1) 6) qn).setCell (qt (w+1) 7) qn).setCell (qt (w+1) 8) (↑y.kind)).setCell (qt (w+1) 9) (↑y.n)).setCell (qt (w+1) 10) y.s).setCell (qt (w+1) 11) (.slice Ay y.kids cy)=w2.setCells (w+1) 0 [qz,qe,qz,qz,qn,qn,qn,qn,y.kind,y.n,y.s,.slice Ay y.kids cy]:=rfl;rw [hgen];clear hgen;generalize w2.setCells (w+1) 0 [qz,qe,qz,qz,qn,qn,qn,qn,y.kind,y.n,y.s,.slice Ay y.kids cy]=WF at *;exact bodyPost_ret (v:=fU ⟨0,⟨#[]⟩,0,0,[],[],[],[],y⟩ ⟨none,0,none,0,none,0,none,0,Ay,cy⟩) (by simp [results,Tryz.results41,go_sem,z0,z1,z2,z3,z4,z5,z6,z7,z8,z9,z10,z11]) rfl ⟨_,_,rfl,⟨cm,dh,cm,cm,Ints.nil,nW.nil,bT.nil,Ints.nil,hV⟩,⟨⟨O,O,O,O,by show gsz y<=_;omega,O⟩,⟨O,O,O,O,dh⟩,O⟩,O,hE⟩
def aBc (gx:Nat)(Pn:Nat->Prop)(w0 wx:World):Prop :=
 ∃ x a,Blk wx gx 87 (aK x a).toArray∧NAt wx (fun b=>Pn b∧b<wx∧b ≠ gx) x a∧aA9 x∧(x.kind=3->x.kids.length<=4)∧Ext w0 wx
structure oD (gx B:Nat)(kind:Int)(name:ByteArray)(wv lv kv:Value)(ws:List Int)(ls:List ByteArray)(ks:List Int)(w0 w:World):Prop where
 box:Blk w gx 87 #[↑kind,name,qz,qz,wv,lv,qn,kv,qz,qz,qe,qn]
 wo:w.ownsRow B 3 1 wv ws (ws.map (Value.int .i64))
 lo:w.ownsRow B 9 1 lv ls (ls.map Value.string)
 ko:w.ownsRow B 3 1 kv ks (ks.map (Value.int .i64))
 wl:wv.ownBlock=none∨wv.ownBlock ≠ lv.ownBlock
 wk:wv.ownBlock=none∨wv.ownBlock ≠ kv.ownBlock
 lk:lv.ownBlock=none∨lv.ownBlock ≠ kv.ownBlock
 gw:some gx ≠ wv.ownBlock
 gl:some gx ≠ lv.ownBlock
 gk:some gx ≠ kv.ownBlock
 w64:∀ z ∈ ws,I64 z
 k64:∀ z ∈ ks,I64 z
 l1:∀ s ∈ ls,s.size<=100
 ext:Ext w0 w
 B0:w0<=B
theorem gR {M w w' base e size v n xs}(h:w.ownsRow base e size v n xs)(hf:Fr M w w')(hn:∀ b,v.ownBlock=some b->¬ M b):w'.ownsRow base e size v n xs:=by
 refine ⟨h.1,?_⟩;rcases h.2 with h3 | ⟨G,cap,cur,h4,h5,h6,h7⟩
 ·exact .inl h3
 ·exact .inr ⟨G,cap,cur,h4,h5,(hf.block G (Blk.lt (t:=e) h6) (hn G (by rw [h4];rfl))).trans h6,h7⟩
section
variable {gx B:Nat}{kind:Int}{name:ByteArray}{wv lv kv:Value}{ws:List Int}{ls:List ByteArray}{ks:List Int}{w0 w w1 w5:World}
theorem oD.ext_ (h:oD gx B kind name wv lv kv ws ls ks w0 w)(hx:Ext w w1):oD gx B kind name wv lv kv ws ls ks w0 w1 :=
 ⟨h.box.ext hx,h.wo.ext_ hx,h.lo.ext_ hx,h.ko.ext_ hx,h.wl,h.wk,h.lk,h.gw,h.gl,h.gk,h.w64,h.k64,h.l1,h.ext.trans' hx,h.B0⟩
theorem oD.gB (h:oD gx B kind name wv lv kv ws ls ks w0 w):∀ {b},wv.ownBlock=some b∨lv.ownBlock=some b∨kv.ownBlock=some b->B<=b∧b<w:=by
 intro b hb;rcases hb with hb | hb | hb
 ·exact ⟨h.wo.block_ge hb,h.wo.block_lt hb⟩
 ·exact ⟨h.lo.block_ge hb,h.lo.block_lt hb⟩
 ·exact ⟨h.ko.block_ge hb,h.ko.block_lt hb⟩
theorem oD.kid (h:oD gx B kind name wv lv kv ws ls ks w0 w){z}(hz:I64 z){v5}(hg:w0<=gx)(ho:w5.ownsRow B 3 1 v5 (ks+1) (ks.map (Value.int .i64) ++ [.int .i64 z]))(hf:Fr (fun k=>some k=kv.ownBlock) w w5)(hb:v5.ownBlock=kv.ownBlock∨∃ b,v5.ownBlock=some b∧w<=b) :
  oD gx B kind name wv lv v5 ws ls (ks ++ [z]) w0 (w5.setCell (qt gx 7) v5):=by
 have hgx:=h.box.lt
 have g5:some gx ≠ v5.ownBlock:=by
  rcases hb with e | ⟨b,e,hl⟩
  ·rw [e];exact h.gk
  ·rw [e];intro e';injection e' with e';omega
 have hne:∀ {v:Value},(v.ownBlock=none∨v.ownBlock ≠ kv.ownBlock)->(∀ b,v.ownBlock=some b->b<w)->(v.ownBlock=none∨v.ownBlock ≠ v5.ownBlock):=by
  intro v h1 h2;rcases h1 with h1 | h1
  ·exact .inl h1
  ·refine .inr (fun e=>?_)
   rcases hb with e5 | ⟨b,e5,hl⟩
   ·exact h1 (e.trans e5)
   ·have:=h2 b (e.trans e5);omega
 have hoth:∀ {v:Value},(v.ownBlock=none∨v.ownBlock ≠ kv.ownBlock)->∀ b,v.ownBlock=some b->¬ (some b=kv.ownBlock):=by
  intro v h1 b hb e;rcases h1 with h1 | h1
  ·rw [h1] at hb;cases hb
  ·exact h1 (hb.trans e)
 refine ⟨(h.box.fr hf (fun e=>h.gk e)).set_ 7 v5,eG (gR h.wo hf (hoth h.wk)) h.gw _,eG (gR h.lo hf (hoth h.lk)) h.gl _,eG (ho.len_cast O O) g5 _,h.wl,hne h.wk (fun b hb=>(h.gB (.inl hb)).2),hne h.lk (fun b hb=>(h.gB (.inr (.inl hb))).2),h.gw,h.gl,g5,h.w64,?_,h.l1,?_,h.B0⟩
 ·intro y hy
  rcases ap.1 hy with hy | hy
  ·exact h.k64 y hy
  ·simp only [List.mem_singleton] at hy;subst hy;exact hz
 ·have h1:Fr (fun k=>w0.heap.size<=k) w0 w5:=(ar h.ext).trans (hf.mono (fun b hb=>by have:=h.gB (.inr (.inr hb.symm));have:=h.B0;omega))
  exact (h1.setCell (p:=qt gx 7) (.inl hg) _).new_ext (fun _ h=>h)
theorem oD.weight (h:oD gx B kind name wv lv kv ws ls ks w0 w){z}(hz:I64 z){v5}(hg:w0<=gx)(ho:w5.ownsRow B 3 1 v5 (ws+1) (ws.map (Value.int .i64) ++ [.int .i64 z]))(hf:Fr (fun k=>some k=wv.ownBlock) w w5)(hb:v5.ownBlock=wv.ownBlock∨∃ b,v5.ownBlock=some b∧w<=b) :
  oD gx B kind name v5 lv kv (ws ++ [z]) ls ks w0 (w5.setCell (qt gx 4) v5):=by
 have hgx:=h.box.lt
 have g5:some gx ≠ v5.ownBlock:=by
  rcases hb with e | ⟨b,e,hl⟩
  ·rw [e];exact h.gw
  ·rw [e];intro e';injection e' with e';omega
 have hne:∀ {v:Value},(wv.ownBlock=none∨wv.ownBlock ≠ v.ownBlock)->(∀ b,v.ownBlock=some b->b<w)->(v5.ownBlock=none∨v5.ownBlock ≠ v.ownBlock):=by
  intro v h1 h2;rcases hb with e5 | ⟨b,e5,hl⟩
  ·rw [e5];exact h1
  ·refine .inr (fun e=>?_)
   have:=h2 b (e.symm.trans e5);omega
 have hoth:∀ {v:Value},(wv.ownBlock=none∨wv.ownBlock ≠ v.ownBlock)->∀ b,v.ownBlock=some b->¬ (some b=wv.ownBlock):=by
  intro v h1 b hb e;rcases h1 with h1 | h1
  ·rw [h1] at e;cases e
  ·exact h1 (e.symm.trans hb.symm)
 refine ⟨(h.box.fr hf (fun e=>h.gw e)).set_ 4 v5,eG (ho.len_cast O O) g5 _,eG (gR h.lo hf (hoth h.wl)) h.gl _,eG (gR h.ko hf (hoth h.wk)) h.gk _,hne h.wl (fun b hb=>(h.gB (.inr (.inl hb))).2),hne h.wk (fun b hb=>(h.gB (.inr (.inr hb))).2),h.lk,g5,h.gl,h.gk,?_,h.k64,h.l1,?_,h.B0⟩
 ·intro y hy
  rcases ap.1 hy with hy | hy
  ·exact h.w64 y hy
  ·simp only [List.mem_singleton] at hy;subst hy;exact hz
 ·have h1:Fr (fun k=>w0.heap.size<=k) w0 w5:=(ar h.ext).trans (hf.mono (fun b hb=>by have:=h.gB (.inl hb.symm);have:=h.B0;omega))
  exact (h1.setCell (p:=qt gx 4) (.inl hg) _).new_ext (fun _ h=>h)
theorem oD.label (h:oD gx B kind name wv lv kv ws ls ks w0 w){z}(hz:z.size<=100){v5}(hg:w0<=gx)(ho:w5.ownsRow B 9 1 v5 (ls+1) (ls.map Value.string ++ [.string z]))(hf:Fr (fun k=>some k=lv.ownBlock) w w5)(hb:v5.ownBlock=lv.ownBlock∨∃ b,v5.ownBlock=some b∧w<=b) :
  oD gx B kind name wv v5 kv ws (ls ++ [z]) ks w0 (w5.setCell (qt gx 5) v5):=by
 have hgx:=h.box.lt
 have g5:some gx ≠ v5.ownBlock:=by
  rcases hb with e | ⟨b,e,hl⟩
  ·rw [e];exact h.gl
  ·rw [e];intro e';injection e' with e';omega
 have n1:wv.ownBlock=none∨wv.ownBlock ≠ v5.ownBlock:=by
  rcases hb with e5 | ⟨b,e5,hl⟩
  ·rw [e5];exact h.wl
  ·exact .inr (fun e=>by have:=(h.gB (.inl (e.trans e5))).2;omega)
 have n2:v5.ownBlock=none∨v5.ownBlock ≠ kv.ownBlock:=by
  rcases hb with e5 | ⟨b,e5,hl⟩
  ·rw [e5];exact h.lk
  ·exact .inr (fun e=>by have:=(h.gB (.inr (.inr (e.symm.trans e5)))).2;omega)
 have o1:∀ b,wv.ownBlock=some b->¬ (some b=lv.ownBlock):=fun b hb e=>by
  rcases h.wl with h1 | h1
  ·rw [h1] at hb;cases hb
  ·exact h1 (hb.trans e)
 have o2:∀ b,kv.ownBlock=some b->¬ (some b=lv.ownBlock):=fun b hb e=>by
  rcases h.lk with h1 | h1
  ·rw [h1] at e;cases e
  ·exact h1 (e.symm.trans hb.symm)
 refine ⟨(h.box.fr hf (fun e=>h.gl e)).set_ 5 v5,eG (gR h.wo hf o1) h.gw _,eG (ho.len_cast O O) g5 _,eG (gR h.ko hf o2) h.gk _,n1,h.wk,n2,h.gw,g5,h.gk,h.w64,h.k64,?_,?_,h.B0⟩
 ·intro y hy
  rcases ap.1 hy with hy | hy
  ·exact h.l1 y hy
  ·simp only [List.mem_singleton] at hy;subst hy;exact hz
 ·have h1:Fr (fun k=>w0.heap.size<=k) w0 w5:=(ar h.ext).trans (hf.mono (fun b hb=>by have:=h.gB (.inr (.inl hb.symm));have:=h.B0;omega))
  exact (h1.setCell (p:=qt gx 5) (.inl hg) _).new_ext (fun _ h=>h)
theorem oD.node (h:oD gx B kind name wv lv kv ws ls ks w0 w){Pn}(hP:∀ b,B<=b->Pn b)(hk:I64 kind)(hn:name.size<=100)(h1:ws.length<=100)(h2:ls.length<=100)(h3:ks.length<=100)(h4:kind=3->ks.length<=4):aBc gx Pn w0 w:=by
 obtain ⟨Aw,cw,ew,-,-,-⟩:=Sl.of_own h.wo;obtain ⟨Al,cl,el,-,-,-⟩:=Sl.of_own h.lo;obtain ⟨Ak,ck,ek,-,-,-⟩:=Sl.of_own h.ko;have hw:Ints w (fun b=>Pn b∧b<w∧b ≠ gx) wv ws:=Ints.of_own h.wo h.w64 I (fun b hb=>⟨hP b (h.gB (.inl hb)).1,(h.gB (.inl hb)).2,fun e=>h.gw ju⟩);have hkk:Ints w (fun b=>Pn b∧b<w∧b ≠ gx) kv ks:=Ints.of_own h.ko h.k64 I (fun b hb=>⟨hP b (h.gB (.inr (.inr hb))).1,(h.gB (.inr (.inr hb))).2,fun e=>h.gk ju⟩)
 have hl:nW w (fun b=>Pn b∧b<w∧b ≠ gx) lv ls:=Lst.of_own h.lo (by
  have:∀ (m:List ByteArray),(∀ s ∈ m,s.size<=100)->RL aJt m (m.map Value.string):=by
   intro m
   induction m with
   | nil=>intro _;simp [RL]
   | cons s m ih =>
    intro hm;exact ⟨[.string s],m.map Value.string,rfl,⟨by have:=hm s O;omega,rfl⟩,ih (fun y hy=>hm y db)⟩
  exact this ls h.l1) I (fun b hb=>⟨hP b (h.gB (.inr (.inl hb))).1,(h.gB (.inr (.inl hb))).2,fun e=>h.gl ju⟩)
 have hbx:=h.box;subst ew el ek;refine ⟨⟨kind,name,0,0,ws,ls,[],ks,.mk 0 0 ⟨#[]⟩ []⟩,⟨Aw,cw,Al,cl,none,0,Ak,ck,none,0⟩,hbx,⟨hk,by show name.size<=_;omega,cm,cm,hw,hl,bT.nil,hkk,VAt.noKids cm cm cq⟩,⟨⟨by show ws.length<=_;omega,by show ls.length<=_;omega,O,by show ks.length<=_;omega,eq,O⟩,⟨h1,h2,O,h3,hn⟩,h.l1⟩,h4,h.ext⟩
end
def aJs (B:Nat)(w:World)(v:Value):Nat->Prop:=fun b=>B<=b∧b<w.heap.size∧some b ≠ v.ownBlock
def aCz (w:World)(e:Ending)(w':World):Prop:=∃ A c t,e=.returned (.agg #[.slice A t.length c])∧Nds w' (fun b=>w.heap.size<=b∧b<w'.heap.size) (.slice A t.length c) t∧fF t∧t.length<=14∧Ext w w'
def mA (n:Nat)(g3:Nat)(W:World)(iv:Value)(wr:World):Prop :=
 ∃ (i:Nat) (t:List GN) (v:Value) (xs:List Value),i<=n∧iv=↑i∧t=i∧fF t∧Blk wr g3 25 #[v]∧wr.ownsRow W 87 12 v i xs∧RL (RN wr (aJs W wr v)) t xs∧Fr (fun b=>b=g3) W wr
theorem aHu {gx B:Nat}{w0 wx y Ay cy}(hb:Blk wx gx 87 #[qz,qe,qz,qz,qn,qn,qn,qn,y.kind,y.n,y.s,.slice Ay y.kids cy])(hE:Ext w0 wx)(hg:gsz y<=2)(_:B<=w0)(hy:VAt wx (fun b=>B<=b∧b<wx.heap.size∧b ≠ gx) y Ay cy):aBc gx (fun b=>B<=b) w0 wx :=
 ⟨⟨0,⟨#[]⟩,0,0,[],[],[],[],y⟩,⟨none,0,none,0,none,0,none,0,Ay,cy⟩,hb,⟨cm,dh,cm,cm,Ints.nil,nW.nil,bT.nil,Ints.nil,hy⟩,⟨⟨O,O,O,O,by show gsz y<=_;omega,O⟩,⟨O,O,O,O,dh⟩,O⟩,O,hE⟩
theorem RN.one {w P}:∀ {l xs},RL (RN w P) l xs->∀ u ∈ xs,u.oneCell'=true
 | [],xs,h,u,hu=>by simp only [RL] at h;subst h;simp at hu
 | x :: l,xs,h,u,hu=>by
  obtain ⟨c1,c2,rfl,⟨a,rfl,-⟩,h2⟩:=h;rcases ap.1 hu with hu | hu
  ·simp only [aK,ao,List.not_mem_nil,or_false] at hu
   rcases hu with rfl | rfl | rfl | rfl | rfl | rfl | rfl | rfl | rfl | rfl | rfl | rfl <;> rfl
  ·exact RN.one h2 u hu
section
variable {n g3 i m:Nat}{W wo w6 w9:World}{t:List GN}{x:GN}{a:NA}{v v2:Value}{xs:List Value}
theorem aE1 (hi:i<n)(htl:t=i)(hg3:g3<W)(hF:Fr (fun b=>b=g3) W wo)(hE:Ext wo w6)(hB:Blk w6 g3 25 #[v])(ho:w6.ownsRow W 87 12 v2 (i+1) (xs ++ aK x a))(hv2:∀ b,v2.ownBlock=some b->m<=b)
  (hr:RL (RN wo (aJs W wo v)) t xs)(hmo:wo<=m)(hm6:m<=w6)(hx:NAt w6 (fun b=>W.heap.size<=b∧b<m) x a)(hgen:fF (t ++ [x])):mA n g3 W (.int .i64 ((i:Int)+1)) (w6.setCell (qp g3) v2):=by
 have hne:some g3 ≠ v2.ownBlock:=fun e=>by have:=ho.block_ge e.symm;omega
 have hks:∀ (Q:Nat->Prop) (w1:World),(¬ Q g3)->aB Q w1 w6->aB Q w1 (w6.setCell (qp g3) v2):=fun Q w1 hq hk=>hk.set (p:=qp g3) _ hq
 have hsz:(w6.setCell (qp g3) v2).heap.size=w6:=gj;refine ⟨i+1,t ++ [x],v2,xs ++ aK x a,I,by go_num,by rw [aa,htl];rfl,hgen,hB.set_ 0 v2,eG ho hne _,?_,?_⟩
 ·refine (hr.move aA0 (hks _ _ (fun h=>by have:=h.1;omega) (aB.of_ext hE)) (fun b hb h=>⟨h.1,by rw [hsz];have:=hE.size;omega,fun e=>by have:=hv2 b e.symm;omega⟩)).append (RL.one ⟨a,rfl,hx.carry (hks _ _ (fun h=>by omega) (fun _ _ _=>rfl)) (fun b hb h=>⟨h.1,by rw [hsz];omega,fun e=>by have:=hv2 b e.symm;omega⟩)⟩)
 ·exact (hF.trans (ar hE)).setCell (p:=qp g3) (.inl rfl) _
theorem aGp {z}(hz:0<=z∧z<5)(hi:i<n)(hn:n<=14)(htl:t=i)(hg3:g3<W)(hF:Fr (fun b=>b=g3) W wo)(hE:Ext wo w6)(hB:Blk w6 g3 25 #[v])(ho:wo.ownsRow W 87 12 v i xs)(ho9:w9.ownsRow W 87 12 v2 (i+1) (xs ++ aK (bE z) ⟨none,0,none,0,none,0,none,0,none,0⟩))(hf9:Fr (fun k=>some k=v.ownBlock) w6 w9)(hv2:v2.ownBlock=v.ownBlock∨∃ b,v2.ownBlock=some b∧w6<=b)
  (hr:RL (RN wo (aJs W wo v)) t xs)(hgen:fF t):mA n g3 W (.int .i64 ((i:Int)+1)) (w9.setCell (qp g3) v2):=by
 have hne:some g3 ≠ v2.ownBlock:=fun e=>by have:=ho9.block_ge e.symm;omega
 have hne0:¬ some g3=v.ownBlock:=fun e=>by have:=ho.block_ge e.symm;omega
 have hsz:(w9.setCell (qp g3) v2).heap.size=w9:=gj;have hs6:=hE.size;have hs9:=hf9.size;have hgen2:=hgen.leaf I z
 have hoff:∀ b,b<wo.heap.size->some b ≠ v.ownBlock->some b ≠ v2.ownBlock:=fun b hb h=>by
  rcases hv2 with e | ⟨b',e,hl⟩
  ·rw [e];exact h
  ·rw [e];intro e';injection e' with e';omega
 refine ⟨i+1,t ++ [bE z],v2,_,I,by go_num,by rw [aa,htl];rfl,hgen2,(hB.fr hf9 hne0).set_ 0 v2,eG ho9 hne _,?_,?_⟩
 ·refine (hr.move aA0 (w':=w9.setCell (qp g3) v2) ?_ (fun b hb h=>⟨h.1,by rw [hsz];omega,hoff b hb h.2.2⟩)).append (RL.one ⟨_,rfl,⟨by simp [bE,I64],ff,by simp [bE,I64],by simp [bE,I64],Ints.nil,nW.nil,bT.nil,Ints.nil,VAt.noKids cm br cq⟩⟩)
  have hk:aB (aJs W wo v) wo w9:=fun b hb h=>(hf9.block b I (fun e=>h.2.2 e)).trans (hE.block b hb)
  exact hk.set (p:=qp g3) _ (fun (h:aJs W wo v g3)=>by have:=h.1;omega)
 ·have h1:Fr (fun b=>b=g3) W w9:=by
   refine Fr.trans_new (hF.trans (ar hE)) (hf9.mono (fun b hb=>.inr ?_));exact ho.block_ge hb.symm
  exact h1.setCell (p:=qp g3) (.inl rfl) _
end
def a3t (gx B:Nat)(name:ByteArray)(m:Nat)(w0:World)(jv:Value)(wr:World):Prop:=∃ (j:Nat)(kv:Value)(ks:List Int),j<=m∧jv=↑j∧ks=j∧oD gx B 3 name qn qn kv [] [] ks w0 wr
def a07 (gx B:Nat)(m:Nat)(w0:World)(jv:Value)(wr:World):Prop:=∃ (j:Nat)(wv lv kv:Value)(ws:List Int)(ls:List ByteArray)(ks:List Int),j<=m+1∧jv=↑j∧ws=j∧ks=j∧ls<=j∧oD gx B 2 ⟨#[]⟩ wv lv kv ws ls ks w0 wr
theorem oD.start {gx B:Nat}{kind:Int}{name:ByteArray}{w0 w}(hb:Blk w gx 87 #[↑kind,name,qz,qz,qn,qn,qn,qn,qz,qz,qe,qn])(hE:Ext w0 w)(hB:w0<=B):oD gx B kind name qn qn qn [] [] [] w0 w :=
 ⟨hb,aP _ _ _ _,aP _ _ _ _,aP _ _ _ _,.inl rfl,.inl rfl,.inl rfl,fc,fc,fc,O,O,O,hE,hB⟩
