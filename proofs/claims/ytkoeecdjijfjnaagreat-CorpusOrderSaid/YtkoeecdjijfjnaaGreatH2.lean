/- Words for the walker's memory. Conditions: none. Before it: Plain laws: what the program's walker makes of a path. Conditions: none. The contracts of slices.BinarySearchFunc at values, values.Find and walk.Case. Conditions: none. -/
import Derived.Deep.RegionHeld3
import Derived.Test.YtkoeecdjijfjnaaGreatG3
import Derived.Test.YtkoeecdjijfjnaaGreatF7
namespace Go.Proofs.YtkoeecdjijfjnaaGreat
open Go.RowKit
def fixStep (lens:List Int)(before:List GV)(x:GN):GV :=
 if 0<lens.getD before.length 0 then default
 else if x.kind=0 then x.value
 else if x.kind=3 then madeV x.name (x.kids.map (fun z=>before.getD z.toNat default))
 else if x.kind=4 then before.getD (x.kids.getD 1 0).toNat default
 else default
def fixR (t:List GN):List GV:=accL (fixStep (lensR t)) [] t
def fixTo (t:List GN)(j:Nat):List GV:=accL (fixStep (lensR t)) [] (t.take j)
theorem fixTo_len {t:List GN}{j:Nat}(hj:j≤t.length):(fixTo t j).length=j:=by unfold fixTo;rw [accL_len];simp;omega
theorem fix_kid {t:List GN}{j:Nat}(hj:j≤t.length){k:Nat}(hk:k<j):(fixTo t j).getD k default=(fixR t).getD k default:=by
 unfold fixTo fixR
 rw [accL_take _ t j hj]
 simp [List.getD,hk]
theorem fix_get {t:List GN}{j:Nat}(hj:j<t.length):(fixR t).getD j default=fixStep (lensR t) (fixTo t j) (t.getD j default):=accL_get _ default t hj
theorem fixTo_succ {t:List GN}{j:Nat}(hj:j<t.length):fixTo t (j+1)=fixTo t j ++ [fixStep (lensR t) (fixTo t j) (t.getD j default)]:=by
 unfold fixTo
 rw [take_succ_getD default hj,accL_snoc]
theorem fixTo_all (t:List GN):fixTo t t.length=fixR t:=by unfold fixTo fixR;rw [List.take_length]
theorem readParts_fix {r:Int→Int→GR}{name:ByteArray}{at_:Int}{F:Int→GV}:∀ (zs:List Int)(acc:List GV),(∀ z ∈ zs,r z at_=⟨F z,0,-1⟩)→readParts r name at_ 0 acc zs=⟨madeV name (acc ++ zs.map F),0,-1⟩
 | [],acc,_=>by simp [readParts]
 | z :: zs,acc,h=>by
  have hz:=h z (by simp)
  simp only [readParts,Int.add_zero,hz,if_true]
  rw [readParts_fix zs _ (fun y hy=>h y (by simp [hy]))]
  simp
theorem seqRows_fix {before:List GL}{F:Int→GV}:∀ (zs:List Int)(r:List GV),(∀ z ∈ zs,before.getD z.toNat default=⟨[F z],false⟩)→seqRows before [r] zs=some [r ++ zs.map F]
 | [],r,_=>by simp [seqRows]
 | z :: zs,r,h=>by
  have hz:=h z (by simp)
  simp only [seqRows,hz]
  rw [if_neg (by simp)]
  have:rowsR [r] [F z]=[r ++ [F z]]:=rfl
  rw [this,seqRows_fix zs _ (fun y hy=>h y (by simp [hy]))]
  simp
theorem sortR_one (v:GV):sortR [v]=[v]:=sortR_id (List.pairwise_singleton _ _)
theorem lsum_zero {before:List Int}:∀ {zs:List Int},(∀ z ∈ zs,0≤before.getD z.toNat 0)→lsum before zs=0→∀ z ∈ zs,before.getD z.toNat 0=0
 | [],_,_,z,hz=>by simp at hz
 | y :: ys,h,hs,z,hz=>by
  simp only [lsum] at hs
  have hn:∀ {l:List Int},(∀ z ∈ l,0≤before.getD z.toNat 0)→0≤lsum before l:=by
   intro l
   induction l with
   | nil=>intro _;simp [lsum]
   | cons u us ih=>intro hh;have:=ih (fun w hw=>hh w (by simp [hw]));have:=hh u (by simp);simp only [lsum];omega
  have h1:=h y (by simp)
  have h2:=hn (l:=ys) (fun w hw=>h w (by simp [hw]))
  rcases List.mem_cons.1 hz with rfl | hz
  ·omega
  ·exact lsum_zero (fun w hw=>h w (by simp [hw])) (by omega) z hz
theorem fix_ok {t:List GN}{n:Nat}(h:GoodTo t n)(path:List Int):∀ j,j<n→(lensR t).getD j 0=0 →
  (∀ (f:Nat)(at_:Int),j<f→readR t path f j at_=⟨(fixR t).getD j default,0,-1⟩)∧(listsR t).getD j default=⟨[(fixR t).getD j default],false⟩:=by
 intro j
 induction j using Nat.strongRecOn with
 | ind j ih =>
  intro hj h0
  have hjt:j<t.length:=by have:=h.1;omega
  have hc:=h.at_ hj
  have hL:=lens_ok h j hj
  have hlg:=lists_get hjt
  have hfg:=fix_get hjt
  have L2:=hL.range
  have L4:=hL.seq
  have L5:=hL.choice
  have L6:=hL.bind
  have hn:=hc.node
  have hcm:=hc.many
  have hcv:=hc.vals
  have hft:=fixTo_len (t:=t) (j:=j) (by omega)
  have hread:∀ (f:Nat) (at_:Int),j<f→readR t path f j at_=readStep (readR t path (f - 1)) path j (t.getD j default) at_:=by
   intro f at_ hf
   cases f with
   | zero=>omega
   | succ f=>simp only [readR,Int.toNat_natCast,Nat.add_sub_cancel]
  generalize hx:t.getD j default=x at *
  have hkl:∀ z ∈ x.kids,(listsR (t.take j)).getD z.toNat default=(listsR t).getD z.toNat default:=fun z hz=>lists_kid hjt (hn.kids z hz)
  have hkf:∀ z ∈ x.kids,(fixTo t j).getD z.toNat default=(fixR t).getD z.toNat default:=fun z hz=>fix_kid (by omega) (by have:=hn.kids z hz;omega)
  have hln:∀ z ∈ x.kids,0≤(lensR t).getD z.toNat 0:=fun z hz=>(lens_ok h z.toNat (by have:=hn.kids z hz;omega)).bd.1
  have hkd:=hn.kind
  unfold fixStep at hfg
  rw [if_neg (by rw [hft];omega)] at hfg
  by_cases k0:x.kind=0
  ·rw [if_pos k0] at hfg
   rw [hfg,hlg]
   refine ⟨fun f at_ hf=>?_,by unfold listR;rw [if_pos k0]⟩
   rw [hread f at_ hf]
   unfold readStep
   rw [if_pos k0]
  rw [if_neg k0] at hfg
  by_cases k1:x.kind=1
  ·have:=L2 k1;omega
  by_cases k2:x.kind=2
  ·have:=(L5 k2).1;omega
  by_cases k3:x.kind=3
  ·rw [if_pos k3] at hfg
   have hz0:=lsum_zero hln (by rw [← L4 k3];exact h0)
   have hmap:x.kids.map (fun z=>(fixTo t j).getD z.toNat default)=x.kids.map (fun z=>(fixR t).getD z.toNat default):=List.map_congr_left hkf
   rw [hmap] at hfg
   rw [hfg,hlg]
   refine ⟨fun f at_ hf=>?_,?_⟩
   ·rw [hread f at_ hf]
    unfold readStep
    rw [if_neg k0,if_pos k3]
    rw [readParts_fix (F:=fun z=>(fixR t).getD z.toNat default)]
    ·simp
    ·intro z hz
     have hzz:=hn.kids z hz
     have:=(ih z.toNat (by omega) (by omega) (hz0 z hz)).1 (f - 1) at_ (by omega)
     rw [Int.toNat_of_nonneg hzz.1] at this
     exact this
   ·unfold listR
    rw [if_neg k0,if_neg k1,if_pos k3]
    unfold seqR
    rw [seqRows_fix (F:=fun z=>(fixR t).getD z.toNat default)]
    ·simp [sortR_one]
    ·intro z hz
     rw [hkl z hz]
     have hzz:=hn.kids z hz
     exact (ih z.toNat (by omega) (by omega) (hz0 z hz)).2
  ·have k4:x.kind=4:=by omega
   rw [if_neg k3,if_pos k4] at hfg
   have hb:=hn.bind k4
   have hbl:=L6 k4
   have hm0:x.kids.getD 0 0 ∈ x.kids:=getD_mem (by omega)
   have hz0:=hn.kids _ hm0
   have hln0:=hln _ hm0
   have l0:(lensR t).getD (x.kids.getD 0 0).toNat 0=0:=by have:=hbl.1;omega
   have i0:=ih (x.kids.getD 0 0).toNat (by omega) (by omega) l0
   have hv:=hcv k4
   rw [i0.2] at hv
   have hvl:x.values.length=1:=by rw [← hv];rfl
   have hm1:x.kids.getD 1 0 ∈ x.kids:=getD_mem (by omega)
   have hz1:=hn.kids _ hm1
   have hln1:=hln _ hm1
   have l1:(lensR t).getD (x.kids.getD 1 0).toNat 0=0:=by have:=hbl.2 1 (by omega) (by omega);omega
   have i1:=ih (x.kids.getD 1 0).toNat (by omega) (by omega) l1
   rw [hkf _ hm1] at hfg
   rw [hfg,hlg]
   have hfind:(findR x.values ((fixR t).getD (x.kids.getD 0 0).toNat default)).1=0:=by
    have:=(findR_mem hn.inc (v:=(fixR t).getD (x.kids.getD 0 0).toNat default) (by rw [← hv];simp)).2.1
    omega
   refine ⟨fun f at_ hf=>?_,?_⟩
   ·rw [hread f at_ hf]
    unfold readStep
    rw [if_neg k0,if_neg k3,if_pos k4]
    have r0:=i0.1 (f - 1) at_ (by omega)
    rw [Int.toNat_of_nonneg hz0.1] at r0
    have r1:=i1.1 (f - 1) at_ (by omega)
    rw [Int.toNat_of_nonneg hz1.1] at r1
    rw [r0,if_pos rfl]
    simp only [hfind,Int.add_zero,Nat.zero_add,r1]
   ·unfold listR
    rw [if_neg k0,if_neg k1,if_neg k3]
    have hk2:x.kids=[x.kids.getD 0 0,x.kids.getD 1 0]:=by
     have hl2:x.kids.length=2:=by omega
     match hkk:x.kids,hl2 with
     | [a,b],_=>rfl
    rw [hk2]
    have e1:=hkl _ hm1
    rw [i1.2] at e1
    simp [-List.getD_eq_getElem?_getD,uniR,k4,e1,sortR_one]
    rfl
structure GF where
 val:GV
 at_:Int
 good:Bool
def chooseP (path:List Int)(x:GN)(at_:Int)(good:Bool):Int × Int × Bool :=
 if (path.length:Int)≤at_∨path.getD at_.toNat 0<0∨optionsI x≤path.getD at_.toNat 0 then (0,at_,false) else (path.getD at_.toNat 0,at_+1,good)
def folParts (r:Int→Int→Bool→GF)(name:ByteArray):Int→Bool→List GV→List Int→GF
 | at_,good,acc,[]=>⟨madeV name acc,at_,good⟩
 | at_,good,acc,z :: zs=>folParts r name (r z at_ good).at_ (r z at_ good).good (acc ++ [(r z at_ good).val]) zs
def folStep (r:Int→Int→Bool→GF)(t:List GN)(path:List Int)(i:Int)(x:GN)(at_:Int)(good:Bool):GF :=
 if (lensR t).getD i.toNat 0=0 then ⟨(fixR t).getD i.toNat default,at_,good⟩
 else if x.kind=1 then ⟨.mk 0 (x.lo+(chooseP path x at_ good).1) ByteArray.empty [],(chooseP path x at_ good).2.1,(chooseP path x at_ good).2.2⟩
 else if x.kind=2 then r (x.kids.getD (chooseP path x at_ good).1.toNat 0) (chooseP path x at_ good).2.1 (chooseP path x at_ good).2.2
 else if x.kind=4 then r (x.kids.getD ((findR x.values (r (x.kids.getD 0 0) at_ good).val).1+1) 0) (r (x.kids.getD 0 0) at_ good).at_ (r (x.kids.getD 0 0) at_ good).good
 else folParts r x.name at_ good [] x.kids
def folR (t:List GN)(path:List Int):Nat→Int→Int→Bool→GF
 | 0,_,at_,good=>⟨default,at_,good⟩
 | f+1,i,at_,good=>folStep (folR t path f) t path i (t.getD i.toNat default) at_ good
structure FolOK (t:List GN)(path:List Int)(i:Nat)(at_:Int)(good:Bool)(s:GR)(r:GF):Prop where
 at0:at_≤r.at_∧r.at_≤path.length
 mem:((listsR t).getD i default).many=false→r.val ∈ ((listsR t).getD i default).vals
 bad:good=false→r.good=false
 yes:good=true→s.stop=-1→r.val=s.val∧r.at_=at_+s.used∧r.good=true
 no:good=true→¬ s.stop=-1→r.good=false
structure FolPartsOK (t:List GN)(path:List Int)(name:ByteArray)(at0 used:Int)(good:Bool)(acc:List GV)(zs:List Int)(s:GR)(r:GF):Prop where
 bd:at0+used≤r.at_∧r.at_≤path.length
 mem:(∀ z ∈ zs,((listsR t).getD z.toNat default).many=false)→∃ vs,Fits (listsR t) vs zs∧r.val=madeV name (acc ++ vs)
 bad:good=false→r.good=false
 yes:good=true→s.stop=-1→r.val=s.val∧r.at_=at0+s.used∧r.good=true
 no:good=true→¬ s.stop=-1→r.good=false
theorem folParts_ok {t:List GN}{path:List Int}{i:Nat}{name:ByteArray}{rr:Int→Int→GR}{r:Int→Int→Bool→GF}{at0:Int}
  (hr:∀ (z k:Int)(g:Bool),0≤z→z<i→0≤k→k≤path.length→FolOK t path z.toNat k g (rr z k) (r z k g))(h0:0≤at0) :
  ∀ (zs:List Int) (used:Int) (good:Bool) (acc:List GV),(∀ z ∈ zs,0≤z∧z<(i:Int))→0≤used→at0+used≤path.length →
   FolPartsOK t path name at0 used good acc zs (readParts rr name at0 used acc zs) (folParts r name (at0+used) good acc zs)
 | [],used,good,acc,_,h1,h2=>by
  simp only [readParts,folParts]
  exact ⟨⟨Int.le_refl _,h2⟩,fun _=>⟨[],trivial,by simp⟩,fun h=>h,fun h _=>⟨rfl,rfl,h⟩,fun _ h=>absurd rfl h⟩
 | z :: zs,used,good,acc,hz,h1,h2=>by
  have hz0:=hz z (by simp)
  have hb:=hr z (at0+used) good hz0.1 hz0.2 (by omega) h2
  simp only [readParts,folParts]
  generalize rr z (at0+used)=s at *
  generalize r z (at0+used) good=b at *
  obtain ⟨v,a,g⟩:=b
  have ha:=hb.at0
  have hbad:=hb.bad
  have hyes:=hb.yes
  have hno:=hb.no
  have hmem:=hb.mem
  simp only at ha hbad hyes hno hmem ⊢
  have ih:=folParts_ok (name:=name) hr h0 zs (a - at0) g (acc ++ [v]) (fun y hy=>hz y (by simp [hy])) (by omega) (by omega)
  have e:at0+(a - at0)=a:=by omega
  rw [e] at ih
  have ih0:=ih.bd
  have ihb:=ih.bad
  have ihm:=ih.mem
  have ihy:=ih.yes
  have ihn:=ih.no
  generalize folParts r name a g (acc ++ [v]) zs=R at *
  refine ⟨⟨by omega,ih0.2⟩,fun hm=>?_,fun hg=>ihb (hbad hg),fun hg hs=>?_,fun hg hs=>?_⟩
  ·obtain ⟨vs,q1,q2⟩:=ihm (fun y hy=>hm y (by simp [hy]))
   exact ⟨v :: vs,⟨hmem (hm z (by simp)),q1⟩,by rw [q2];simp⟩
  ·by_cases hs1:s.stop=-1
   ·obtain ⟨y1,y2,y3⟩:=hyes hg hs1
    subst y1 y3
    have e2:a - at0=used+s.used:=by omega
    rw [e2] at ihy
    rw [if_pos hs1] at hs ⊢
    exact ihy rfl hs
   ·rw [if_neg hs1] at hs
    exact absurd hs hs1
  ·by_cases hs1:s.stop=-1
   ·obtain ⟨y1,y2,y3⟩:=hyes hg hs1
    subst y1 y3
    have e2:a - at0=used+s.used:=by omega
    rw [e2] at ihn
    rw [if_pos hs1] at hs
    exact ihn rfl hs
   ·exact ihb (hno hg hs1)
theorem fol_ok {t:List GN}{n:Nat}(h:GoodTo t n)(path:List Int)(hpl:path.length≤1000000):∀ (f:Nat)(i:Nat)(at_:Int)(good:Bool),i<f→i<n→0≤at_→at_≤path.length →
  FolOK t path i at_ good (readR t path f i at_) (folR t path f i at_ good)
 | 0,i,at_,good,hf,_,_,_=>by omega
 | f+1,i,at_,good,hf,hi,ha0,ha1=>by
  have hit:i<t.length:=by have:=h.1;omega
  have hc:=h.at_ hi
  have hL:=lens_ok h i hi
  have hr:∀ (z k:Int) (g:Bool),0≤z→z<i→0≤k→k≤path.length→FolOK t path z.toNat k g (readR t path f z k) (folR t path f z k g):=fun z k g h1 h2 h3 h4=>by
   have:=fol_ok h path hpl f z.toNat k g (by omega) (by omega) h3 h4
   rw [Int.toNat_of_nonneg h1] at this
   exact this
  have hlg:=lists_get hit
  have hfx:=fix_ok h path i hi
  by_cases hl0:(lensR t).getD i 0=0
  ·obtain ⟨q1,q2⟩:=hfx hl0
   rw [q1 (f+1) at_ hf]
   simp only [folR,Int.toNat_natCast]
   unfold folStep
   rw [Int.toNat_natCast,if_pos hl0]
   exact ⟨⟨Int.le_refl _,ha1⟩,fun _=>by rw [q2];simp,fun h=>h,fun h _=>⟨rfl,by simp,h⟩,fun _ h=>absurd rfl h⟩
  simp only [readR,folR,Int.toNat_natCast]
  have hn:=hc.node
  have hcm:=hc.many
  have hcv:=hc.vals
  have L2:=hL.range
  have L3:=hL.leaf
  generalize hx:t.getD i default=x at *
  have hkd:=hn.kind
  have hkl:∀ z ∈ x.kids,(listsR (t.take i)).getD z.toNat default=(listsR t).getD z.toNat default:=fun z hz=>lists_kid hit (hn.kids z hz)
  have k0:¬ x.kind=0:=fun k=>hl0 (L3 k)
  unfold folStep readStep
  rw [Int.toNat_natCast,if_neg hl0,if_neg k0]
  by_cases k3:x.kind=3
  ·have n1:¬ x.kind=1:=by omega
   have n2:¬ x.kind=2:=by omega
   have n4:¬ x.kind=4:=by omega
   simp only [if_pos k3,if_neg n1,if_neg n2,if_neg n4]
   have hp:=folParts_ok (name:=x.name) hr ha0 x.kids 0 good [] (fun z hz=>hn.kids z hz) (Int.le_refl _) (by omega)
   rw [Int.add_zero] at hp
   generalize readParts (readR t path f) x.name at_ 0 [] x.kids=S at *
   generalize folParts (folR t path f) x.name at_ good [] x.kids=R at *
   refine ⟨by have:=hp.bd;omega,fun hm=>?_,hp.bad,hp.yes,hp.no⟩
   rw [hlg] at hm ⊢
   unfold listR at hm ⊢
   rw [if_neg k0,if_neg (by omega),if_pos k3] at hm ⊢
   unfold seqR at hm ⊢
   split at hm
   ·cases hm
   ·next rows hrows =>
    (try rw [hrows])
    have hmm:=seqRows_many x.kids _ rows hrows
    obtain ⟨vs,h3,h4⟩:=hp.mem (fun z hz=>by rw [← hkl z hz];exact hmm z hz)
    show R.val ∈ sortR _
    rw [sortR_mem,h4]
    refine List.mem_map.2 ⟨vs,?_,by simp⟩
    have:=seqRows_mem x.kids _ rows hrows [] (by simp) vs (h3.cast (fun z hz=>(hkl z hz).symm))
    simpa using this
  by_cases k4:x.kind=4
  ·have n1:¬ x.kind=1:=by omega
   have n2:¬ x.kind=2:=by omega
   simp only [if_neg k3,if_pos k4,if_neg n1,if_neg n2]
   have hbk:=hn.bind k4
   have hz0:x.kids.getD 0 0 ∈ x.kids:=getD_mem (by omega)
   have hz0':=hn.kids _ hz0
   have ha:=hr (x.kids.getD 0 0) at_ good hz0'.1 hz0'.2 ha0 ha1
   have hm0:=hcm k4
   have hv0:=hcv k4
   have hinc:=hn.inc
   generalize readR t path f (x.kids.getD 0 0) at_=a at *
   generalize folR t path f (x.kids.getD 0 0) at_ good=a' at *
   have p1:=ha.at0
   have hmem:=ha.mem hm0
   rw [hv0] at hmem
   obtain ⟨f1,f2,f3⟩:=findR_mem hinc hmem
   have hq:(findR x.values a'.val).1+1<x.kids.length:=by omega
   have hzq:=hn.kids _ (getD_mem (d:=0) hq)
   have hb:=hr (x.kids.getD ((findR x.values a'.val).1+1) 0) a'.at_ a'.good hzq.1 hzq.2 (by omega) p1.2
   have b0:=hb.at0
   refine ⟨by omega,fun hm=>?_,fun hg=>hb.bad (ha.bad hg),fun hg hs=>?_,fun hg hs=>?_⟩
   ·rw [hlg] at hm ⊢
    unfold listR at hm ⊢
    rw [if_neg k0,if_neg (by omega),if_neg k3] at hm ⊢
    obtain ⟨h3,h4⟩:=(uniR_mem x.kids 0 [] hm).2 _ hq (by omega)
    rw [hkl _ (getD_mem hq)] at h3 h4
    exact h4 _ (hb.mem h3)
   ·by_cases hs1:a.stop=-1
    ·obtain ⟨y1,y2,y3⟩:=ha.yes hg hs1
     rw [if_pos hs1] at hs ⊢
     rw [y1,y2,y3] at hb
     obtain ⟨z1,z2,z3⟩:=hb.yes rfl hs
     rw [y1,y2,y3]
     exact ⟨z1,by rw [z2];show _=at_+(_+_);omega,z3⟩
    ·rw [if_neg hs1] at hs
     exact absurd hs hs1
   ·by_cases hs1:a.stop=-1
    ·obtain ⟨y1,y2,y3⟩:=ha.yes hg hs1
     rw [if_pos hs1] at hs
     rw [y1,y2,y3] at hb ⊢
     exact hb.no rfl hs
    ·exact hb.bad (ha.no hg hs1)
  simp only [if_neg k3,if_neg k4]
  have k12:x.kind=1∨x.kind=2:=by omega
  have hopt:=options_ok hn
  by_cases hbad:(path.length:Int)≤at_∨path.getD at_.toNat 0<0∨optionsI x≤path.getD at_.toNat 0
  ·
   have hch:chooseP path x at_ good=(0,at_,false):=by unfold chooseP;rw [if_pos hbad]
   rw [hch]
   generalize hS:(if (path.length:Int)≤at_ then (⟨zeroGV,0,(i:Int)⟩:GR) else if path.getD at_.toNat 0<0∨optionsI x≤path.getD at_.toNat 0 then ⟨zeroGV,0,-2⟩
     else if x.kind=1 then ⟨.mk 0 (x.lo+path.getD at_.toNat 0) ByteArray.empty [],1,-1⟩
     else ⟨(readR t path f (x.kids.getD (path.getD at_.toNat 0).toNat 0) (at_+1)).val,(readR t path f (x.kids.getD (path.getD at_.toNat 0).toNat 0) (at_+1)).used+1,(readR t path f (x.kids.getD (path.getD at_.toNat 0).toNat 0) (at_+1)).stop⟩)=S
   have hstop:¬ S.stop=-1:=by
    rw [← hS]
    split
    ·show ¬ (i:Int)=-1;omega
    ·next h1 =>
     rw [if_pos (by rcases hbad with hb | hb | hb <;> (first | exact absurd hb h1 | exact .inl hb | exact .inr hb))]
     decide
   by_cases k1:x.kind=1
   ·rw [if_pos k1]
    have hnum:=numbersB_ok hn.numbers
    refine ⟨⟨Int.le_refl _,ha1⟩,fun hm=>?_,fun _=>rfl,fun _ hs=>absurd hs hstop,fun _ _=>rfl⟩
    rw [hlg] at hm ⊢
    unfold listR at hm ⊢
    rw [if_neg k0,if_pos k1] at hm ⊢
    split at hm
    ·cases hm
    ·next hr=>rw [if_neg hr];exact rangeV_mem.2 ⟨x.lo+0,by omega,by omega,rfl⟩
   ·have k2:x.kind=2:=by omega
    rw [if_neg k1,if_pos k2]
    have hch2:=hn.choice k2
    have hq:(0:Int).toNat<x.kids.length:=by simp;omega
    have hzq:=hn.kids _ (getD_mem (d:=0) hq)
    have hb:=hr (x.kids.getD (0:Int).toNat 0) at_ false hzq.1 hzq.2 ha0 ha1
    refine ⟨hb.at0,fun hm=>?_,fun _=>hb.bad rfl,fun _ hs=>absurd hs hstop,fun _ _=>hb.bad rfl⟩
    rw [hlg] at hm ⊢
    unfold listR at hm ⊢
    rw [if_neg k0,if_neg k1,if_neg k3] at hm ⊢
    obtain ⟨h3,h4⟩:=(uniR_mem x.kids 0 [] hm).2 (0:Int).toNat hq (by simp [k4])
    rw [hkl _ (getD_mem hq)] at h3 h4
    exact h4 _ (hb.mem h3)
  ·have hch:chooseP path x at_ good=(path.getD at_.toNat 0,at_+1,good):=by unfold chooseP;rw [if_neg hbad]
   rw [hch]
   have hb1:¬ (path.length:Int)≤at_:=fun k=>hbad (.inl k)
   have hb2:¬ (path.getD at_.toNat 0<0∨optionsI x≤path.getD at_.toNat 0):=fun k=>hbad (.inr k)
   rw [if_neg hb1,if_neg hb2]
   rw [hopt] at hb2
   generalize path.getD at_.toNat 0=c at *
   by_cases k1:x.kind=1
   ·simp only [if_pos k1]
    rw [if_pos k1] at hb2
    have hnum:=numbersB_ok hn.numbers
    refine ⟨⟨by show at_≤at_+1;omega,by show at_+1≤_;omega⟩,fun hm=>?_,fun hg=>hg,fun hg _=>⟨rfl,rfl,hg⟩,fun _ hs=>absurd rfl hs⟩
    rw [hlg] at hm ⊢
    unfold listR at hm ⊢
    rw [if_neg k0,if_pos k1] at hm ⊢
    split at hm
    ·cases hm
    ·next hr=>rw [if_neg hr];exact rangeV_mem.2 ⟨x.lo+c,by omega,by omega,rfl⟩
   ·have k2:x.kind=2:=by omega
    simp only [if_neg k1,if_pos k2]
    rw [if_neg k1] at hb2
    have hq:c.toNat<x.kids.length:=by omega
    have hzq:=hn.kids _ (getD_mem (d:=0) hq)
    have hb:=hr (x.kids.getD c.toNat 0) (at_+1) good hzq.1 hzq.2 (by omega) (by omega)
    generalize readR t path f (x.kids.getD c.toNat 0) (at_+1)=S at *
    have b0:=hb.at0
    refine ⟨by omega,fun hm=>?_,hb.bad,fun hg hs=>?_,fun hg hs=>hb.no hg hs⟩
    ·rw [hlg] at hm ⊢
     unfold listR at hm ⊢
     rw [if_neg k0,if_neg k1,if_neg k3] at hm ⊢
     obtain ⟨h3,h4⟩:=(uniR_mem x.kids 0 [] hm).2 c.toNat hq (by simp [k4])
     rw [hkl _ (getD_mem hq)] at h3 h4
     exact h4 _ (hb.mem h3)
    ·obtain ⟨y1,y2,y3⟩:=hb.yes hg hs
     exact ⟨y1,by rw [y2];show at_+1+S.used=at_+(S.used+1);omega,y3⟩
def wholeB (t:List GN)(path:List Int):Bool:=decide (0<t.length) && (folR t path t.length ((t.length:Int) - 1) 0 true).good && decide ((folR t path t.length ((t.length:Int) - 1) 0 true).at_=path.length)
theorem inc_getD {l:List GV}(h:Inc l){i j:Nat}(hij:i<j)(hj:j<l.length):cmpV (l.getD i default) (l.getD j default)<0:=by
 have:=List.pairwise_iff_getElem.1 h i j (by omega) hj hij
 have h1:l.getD i default=l[i]:=by simp [show i<l.length by omega]
 have h2:l.getD j default=l[j]:=by simp [hj]
 rw [h1,h2];exact this
theorem inc_below {l:List GV}(h:Inc l)(x:GV){i j:Nat}(hij:i≤j)(hj:j<l.length)(hx:cmpV (l.getD j default) x<0):cmpV (l.getD i default) x<0:=by
 rcases Nat.eq_or_lt_of_le hij with rfl | hij
 ·exact hx
 ·exact ltV.tr (inc_getD h hij hj) hx
def BsInv (l:List GV)(x:GV)(W:World)(s9 s10:Value)(wr:World):Prop:=∃ i j:Nat,i≤j∧j≤l.length∧s9=.int .i64 i∧s10=.int .i64 j∧Ext W wr∧(∀ k,k<i→cmpV (l.getD k default) x<0)∧(∀ k,j≤k→k<l.length→0≤cmpV (l.getD k default) x)
theorem findR_is {l:List GV}{x:GV}{i:Nat}(hi:i≤l.length)(h1:∀ k,k<i→cmpV (l.getD k default) x<0)(h2:∀ k,i≤k→k<l.length→¬ cmpV (l.getD k default) x<0) :
  (findR l x).1=i∧(findR l x).2=(decide (i<l.length) && decide (cmpV (l.getD i default) x=0)):=by
 have hg:∀ (l:List GV) (i o:Nat),i≤l.length→(∀ k,k<i→cmpV (l.getD k default) x<0)→(∀ k,i≤k→k<l.length→¬ cmpV (l.getD k default) x<0) →
   findFrom x o l=(o+i,(decide (i<l.length) && decide (cmpV (l.getD i default) x=0))):=by
  intro l
  induction l with
  | nil =>
   intro i o hi _ _
   obtain rfl:i=0:=by simpa using hi
   simp [findFrom]
  | cons y ys ih =>
   intro i o hi h1 h2
   cases i with
   | zero =>
    have:=h2 0 (Nat.le_refl _) (by simp)
    simp only [List.getD_cons_zero] at this
    simp only [findFrom]
    rw [if_neg this]
    simp
   | succ i =>
    have h0:=h1 0 (by omega)
    simp only [List.getD_cons_zero] at h0
    simp only [findFrom]
    rw [if_pos h0,ih i (o+1) (by simpa using hi) (fun k hk=>by have:=h1 (k+1) (by omega);simpa using this) (fun k hk hk'=>by have:=h2 (k+1) (by omega) (by simpa using hk');simpa using this)]
    simp
    omega
 have:=hg l i 0 hi h1 h2
 unfold findR
 rw [this]
 simp
set_option maxRecDepth 100000 in
set_option maxHeartbeats 2000000 in
theorem bsearchV_any (l:List GV)(x:GV)(A:Option Addr)(c:Nat)(P Q:Nat→Prop)(v:Value)(w:World)(hl:Vals w P v l)(hx:VAt w Q x A c)(hinc:Inc l)(hlen:l.length≤1000000) :
  Calls Tryz.prog 218 #[v,vagg x A c,.func (.func 134) #[] #[]] w (RetE2 (.int .i64 (findR l x).1) (.bool (findR l x).2) w):=by
 have HL:=Lib.hid hl
 have HX:=Lib.hid hx
 have HI:=Lib.hid hinc
 obtain ⟨Al,cl,el,h1,h2⟩:=hl.form
 subst el
 clear hl hx hinc
 go_enter Tryz.func218,Tryz.ntmps218
 go_wp2_with fail
 have HE:=Lib.hid ((Ext.refl w).alloc' (.cells #[.int .i64 x.kind,.int .i64 x.n,.string x.s,.slice A x.kids.length c] 85))
 have HB:=Lib.hid (Blk.new w 85 #[.int .i64 x.kind,.int .i64 x.n,.string x.s,.slice A x.kids.length c])
 generalize w.alloc (.cells #[.int .i64 x.kind,.int .i64 x.n,.string x.s,.slice A x.kids.length c] 85)=W at *
 go_loopw [9,10] (fun a b wr=>BsInv l x W a b wr) (fun a b _=>(intOf b).toNat - (intOf a).toNat)
 case atStart=>exact ⟨0,l.length,Nat.zero_le _,Nat.le_refl _,rfl,rfl,Ext.refl _,fun k hk=>by omega,fun k hk hk'=>by omega⟩
 case round =>
  obtain ⟨i,j,hij,hj,rfl,rfl,hE,hlo,hhi⟩:=hrel
  have HE1:=Lib.hid hE
  have HLO:=Lib.hid hlo
  have HHI:=Lib.hid hhi
  clear hE hlo hhi
  by_cases hlt:i<j
  ·go_upto_region 5 with fail
   obtain ⟨h,hh⟩:∃ h:Nat,((i:Int)+(j:Int)) / 2=(h:Int):=⟨(((i:Int)+(j:Int)) / 2).toNat,by omega⟩
   have h1':i≤h:=by omega
   have h2':h<j:=by omega
   rw [hh]
   clear hh
   have hhl:h<l.length:=by omega
   obtain ⟨b1,o1,A1,d1,rfl,-,hv1,g10,g11,g12,g13⟩:=(HL.out.ext (HE.out.trans' HE1.out)).get hhl
   have HV1:=Lib.hid hv1
   have HMX:=Lib.hid (HX.out.ext (HE.out.trans' HE1.out))
   obtain ⟨x0,x1,x2,x3⟩:=cells_of_blk4 (HB.out.ext HE1.out)
   have HG:=Lib.hid (show ∃ y,y=l.getD h default from ⟨_,rfl⟩)
   obtain ⟨y,hy⟩:=HG.out
   have HY:=Lib.hid hy
   rw [← hy] at HV1 g10 g11 g12 g13
   clear hv1 hy HG
   have hq0:(0:Int)≤(h:Int):=by omega
   have hq1:(h:Int)<(l.length:Int):=by omega
   go_still_tail 6,(by kernel_rfl)
   go_wp2_with fail
   refine (valuesCompare_any y x A1 A d1 c P Q _ (HV1.out.ext (Ext.refl _).drew') (HMX.out.ext (Ext.refl _).drew')).mono ?_
   rintro e w2 ⟨rfl,hx2⟩
   have HX2:=Lib.hid (HE1.out.trans' ((Ext.refl _).drew'.trans' hx2))
   clear hx2
   by_cases hz:cmpV y x<0
   ·have HZ:=Lib.hid hz
    go_wp2_with fail
    go_roundw
    case rel=>exact ⟨h+1,j,by omega,hj,by go_num,rfl,HX2.out,fun k hk=>inc_below HI.out x (show k≤h by omega) hhl (by rw [← HY.out];exact HZ.out),HHI.out⟩
    case measure=>simp [intOf];omega
   ·have HZ:=Lib.hid hz
    go_wp2_with fail
    go_roundw
    case rel=>exact ⟨i,h,h1',by omega,rfl,rfl,HX2.out,HLO.out,fun k hk hk'=>Int.not_lt.1 (fun hc=>absurd (show cmpV y x<0 by rw [HY.out];exact inc_below HI.out x hk hk' hc) (Int.not_lt.2 HZ.out))⟩
    case measure=>simp [intOf];omega
  ·obtain rfl:i=j:=by omega
   have HF:=Lib.hid (findR_is (x:=x) hj HLO.out (fun k hk hk'=>Int.not_lt.2 (HHI.out k hk hk')))
   clear HLO HHI
   by_cases hn:i<l.length
   ·have hd:decide (i<l.length)=true:=decide_eq_true hn
    have hd':decide ((i:Int)<(l.length:Int))=true:=decide_eq_true (by omega)
    obtain ⟨b1,o1,A1,d1,rfl,-,hv1,g10,g11,g12,g13⟩:=(HL.out.ext (HE.out.trans' HE1.out)).get hn
    have HF2:=Lib.hid (show (findR l x).2=decide (cmpV (l.getD i default) x=0) by rw [HF.out.2,hd];rfl)
    have HMX:=Lib.hid (HX.out.ext (HE.out.trans' HE1.out))
    have HV1:=Lib.hid hv1
    obtain ⟨x0,x1,x2,x3⟩:=cells_of_blk4 (HB.out.ext HE1.out)
    generalize l.getD i default=y at *
    have hq0:(0:Int)≤(i:Int):=by omega
    have hq1:(i:Int)<(l.length:Int):=by omega
    clear hv1
    go_upto_region 8 with fail
    go_region_held3 (fun w'=>w'.cell? ⟨b1,o1+i*4,none⟩=some (.int .i64 y.kind)∧w'.cell? ⟨b1,o1+i*4+1,none⟩=some (.int .i64 y.n)∧w'.cell? ⟨b1,o1+i*4+2,none⟩=some (.string y.s)∧w'.cell? ⟨b1,o1+i*4+3,none⟩=some (.slice A1 y.kids.length d1) ∧
      w'.cell? ⟨w.heap.size,0,none⟩=some (.int .i64 x.kind)∧w'.cell? ⟨w.heap.size,1,none⟩=some (.int .i64 x.n)∧w'.cell? ⟨w.heap.size,2,none⟩=some (.string x.s)∧w'.cell? ⟨w.heap.size,3,none⟩=some (.slice A x.kids.length c))
     (first
      | go_keep
      | (go_split_ands
         exact ⟨cell_ext hx2 ‹_›,cell_ext hx2 ‹_›,cell_ext hx2 ‹_›,cell_ext hx2 ‹_›,cell_ext hx2 ‹_›,cell_ext hx2 ‹_›,cell_ext hx2 ‹_›,cell_ext hx2 ‹_›⟩))
     (first
      | (go_at_call 134;refine (valuesCompare_any y x A1 A d1 c P Q _ (HV1.out.ext (Ext.refl _).drew') (HMX.out.ext (Ext.refl _).drew')).mono ?_;rintro e w2 ⟨rfl,hx2⟩))
    have HX2:=Lib.hid (HE1.out.trans' ((Ext.refl _).drew'.trans' hx2))
    clear hx2
    go_wp2_with fail
    go_ret2
    exact ⟨by rw [HF.out.1,HF2.out];rfl,HE.out.trans' HX2.out⟩
   ·have hd:decide (i<l.length)=false:=decide_eq_false hn
    have hd':decide ((i:Int)<(l.length:Int))=false:=decide_eq_false (by omega)
    have HF2:=Lib.hid (show (findR l x).2=false by rw [HF.out.2,hd];rfl)
    go_wp2_with fail
    go_quiet (fail)
    go_wp2_with fail
    go_ret2
    exact ⟨by rw [HF.out.1,HF2.out];rfl,HE.out.trans' (HE1.out.trans' (Ext.drewN _ _))⟩
set_option maxHeartbeats 1000000 in
theorem valuesFind_any (l:List GV)(x:GV)(A:Option Addr)(c:Nat)(P Q:Nat→Prop)(v:Value)(w:World)(hl:Vals w P v l)(hx:VAt w Q x A c)(hinc:Inc l)(hlen:l.length≤1000000) :
  Calls Tryz.prog 205 #[v,vagg x A c] w (RetE2 (.int .i64 (findR l x).1) (.bool (findR l x).2) w):=by
 have HC:=Lib.hid (fun (W:World) (h:Ext w W)=>bsearchV_any l x A c P Q v W (hl.ext h) (hx.ext h) hinc hlen)
 obtain ⟨Al,cl,el,h1,h2⟩:=hl.form
 subst el
 clear hl hx hinc
 go_enter Tryz.func205,Tryz.ntmps205
 go_wp2_with fail
 refine (HC.out _ ((Ext.refl w).alloc' _)).mono ?_
 rintro e w1 ⟨rfl,hx1⟩
 have HX1:=Lib.hid (((Ext.refl w).alloc' _).trans' hx1)
 clear hx1
 go_wp2_with fail
 go_ret2
 exact ⟨rfl,HX1.out⟩
set_option maxRecDepth 100000 in
set_option maxHeartbeats 1000000 in
theorem walkCase_any (x:GN)(a:NA)(b o:Nat)(y:GV)(A:Option Addr)(c:Nat)(P Q:Nat→Prop)(w:World)(hn:NCells w b o x a)(hx:NAt w P x a)(hy:VAt w Q y A c)(hinc:Inc x.values)(hlen:x.values.length≤1000000) :
  Calls Tryz.prog 185 #[.pointer (some ⟨b,o,none⟩),vagg y A c] w (RetE (.int .i64 ((findR x.values y).1+1)) w):=by
 have HC:=Lib.hid (fun (W:World) (h:Ext w W)=>valuesFind_any x.values y A c P Q _ W (hx.values.ext h) (hy.ext h) hinc hlen)
 have HN:=Lib.hid hn
 have hf:(findR x.values y).1≤x.values.length:=by
  obtain ⟨p,q,e,h1,_⟩:=findR_cut x.values y
  rw [h1,e];simp
 clear hx hy hinc hn
 go_enter Tryz.func185,Tryz.ntmps185
 go_wp2_with fail
 have HE:=Lib.hid ((Ext.refl w).alloc' (.cells #[.int .i64 y.kind,.int .i64 y.n,.string y.s,.slice A y.kids.length c] 85))
 have HB:=Lib.hid (Blk.new w 85 #[.int .i64 y.kind,.int .i64 y.n,.string y.s,.slice A y.kids.length c])
 generalize w.alloc (.cells #[.int .i64 y.kind,.int .i64 y.n,.string y.s,.slice A y.kids.length c] 85)=W at *
 have n6:=(HN.out.ext HE.out).c6
 obtain ⟨x0,x1,x2,x3⟩:=cells_of_blk4 HB.out
 generalize (findR x.values y).1=f at *
 generalize (findR x.values y).2=fb at *
 go_region_held3 (fun w'=>w'.cell? ⟨b,o+6,none⟩=some (.slice a.vA x.values.length a.vc)∧w'.cell? ⟨w.heap.size,0,none⟩=some (.int .i64 y.kind)∧w'.cell? ⟨w.heap.size,1,none⟩=some (.int .i64 y.n)∧w'.cell? ⟨w.heap.size,2,none⟩=some (.string y.s)∧w'.cell? ⟨w.heap.size,3,none⟩=some (.slice A y.kids.length c))
  (first
   | go_keep
   | (go_split_ands
      exact ⟨cell_ext hx2 ‹_›,cell_ext hx2 ‹_›,cell_ext hx2 ‹_›,cell_ext hx2 ‹_›,cell_ext hx2 ‹_›⟩))
  (first
   | (go_at_call 205;refine (HC.out _ HE.out.drew').mono ?_;rintro e w2 ⟨rfl,hx2⟩))
 have HX2:=Lib.hid (HE.out.drew'.trans' hx2)
 clear hx2
 go_wp2_with fail
 go_ret
 exact ⟨rfl,HX2.out⟩
theorem made4 (a b c d:Value):∀ n:Nat,(madeCells #[a,b,c,d] (n*4)).toList=(List.replicate n [a,b,c,d]).flatten
 | 0=>by simp [madeCells]
 | n+1=>by
  have ih:=made4 a b c d n
  unfold madeCells at ih ⊢
  simp only [Array.toList_map,Array.toList_range] at ih ⊢
  rw [show (n+1)*4=n*4+1+1+1+1 by omega,List.range_succ,List.range_succ,List.range_succ,List.range_succ,List.replicate_succ',List.flatten_append,← ih]
  have e0:(n*4) % 4=0:=by omega
  have e1:(n*4+1) % 4=1:=by omega
  have e2:(n*4+1+1) % 4=2:=by omega
  have e3:(n*4+1+1+1) % 4=3:=by omega
  simp [e0,e1,e2,e3]
theorem RVs_zero (w:World)(P:Nat→Prop):∀ n:Nat,RVs w P (List.replicate n default) (List.replicate n [Value.int .i64 0,.int .i64 0,.string ByteArray.empty,.slice none 0 0]).flatten
 | 0=>by simp [RVs]
 | n+1=>by
  simp only [List.replicate_succ,List.flatten_cons,RVs]
  exact ⟨_,_,rfl,(VAt.zero (w:=w) P).rv,RVs_zero w P n⟩
theorem RVs.set {w:World}{P:Nat→Prop}{l:List GV}{cs us:List Value}(h:RVs w P l cs){k:Nat}(hk:k<l.length){v:GV}(hv:RV w P v us):RVs w P (l.set k v) (cs.take (k*4) ++ us ++ cs.drop (k*4+us.length)):=by
 have hl:=hv.len
 rw [hl,show k*4+4=(k+1)*4 by omega,List.set_eq_take_append_cons_drop,if_pos hk,List.append_assoc]
 refine RVs.append (h.take k) ?_
 show RVs w P ([v] ++ l.drop (k+1)) _
 exact RVs.append (RVs.one hv) (h.drop (k+1))
theorem cell_drew' (w:World)(p:Addr):w.drew.cell? p=w.cell? p:=rfl
theorem cell_set4 {w:World}{g o b off:Nat}{u u0 u1 u2 u3:Value}(hne:¬ b=g)(h:w.cell? ⟨b,off,none⟩=some u):((((w.setCell ⟨g,o,none⟩ u0).setCell ⟨g,o+1,none⟩ u1).setCell ⟨g,o+2,none⟩ u2).setCell ⟨g,o+3,none⟩ u3).cell? ⟨b,off,none⟩=some u :=
 cell_set1 (p:=⟨g,o+3,none⟩) hne (cell_set1 (p:=⟨g,o+2,none⟩) hne (cell_set1 (p:=⟨g,o+1,none⟩) hne (cell_set1 (p:=⟨g,o,none⟩) hne h)))
theorem cell_set4d {w:World}{g o b off:Nat}{u u0 u1 u2 u3:Value}(hne:¬ b=g)(h:w.cell? ⟨b,off,none⟩=some u):((((w.setCell ⟨g,o,none⟩ u0).setCell ⟨g,o+1,none⟩ u1).setCell ⟨g,o+2,none⟩ u2).setCell ⟨g,o+3,none⟩ u3).drew.cell? ⟨b,off,none⟩=some u:=by rw [cell_drew'];exact cell_set4 hne h
theorem cell_set1o {w:World}{g o o':Nat}{u x:Value}(hne:¬ o'=o)(h:w.cell? ⟨g,o',none⟩=some u):(w.setCell ⟨g,o,none⟩ x).cell? ⟨g,o',none⟩=some u:=by
 rw [← h]
 exact World.cell?_setCell_other _ _ _ _ (fun e=>hne (by injection e with _ e;exact e.symm))
theorem cell_same4 {w:World}{g k z:Nat}{u u0 u1 u2 u3:Value}(hne:¬ z=k){o:Nat}(h:w.cell? ⟨g,o,none⟩=some u)(i:Nat)(hi:i<4)(ho:o=z*4+i):((((w.setCell ⟨g,k*4,none⟩ u0).setCell ⟨g,k*4+1,none⟩ u1).setCell ⟨g,k*4+2,none⟩ u2).setCell ⟨g,k*4+3,none⟩ u3).drew.cell? ⟨g,o,none⟩=some u:=by
 rw [cell_drew']
 exact cell_set1o (by omega) (cell_set1o (by omega) (cell_set1o (by omega) (cell_set1o (by omega) h)))
structure WalkAt (t:List GN)(vn:Value)(gw gs gl gf:Nat)(P:Nat→Prop)(w:World):Prop where
 box:Blk w gw 149 #[.pointer (some ⟨gs,0,none⟩),.slice (some ⟨gl,0,none⟩) t.length t.length,.slice (some ⟨gf,0,none⟩) t.length t.length]
 sets:w.cell? ⟨gs,0,none⟩=some vn
 lens:Blk w gl 3 (iblk (lensR t))
 fixed:Vals w P (.slice (some ⟨gf,0,none⟩) t.length t.length) (fixR t)
 nodes:Nds w P vn t
 pw:P gw
 ps:P gs
 pl:P gl
theorem WalkAt.carry {t:List GN}{vn:Value}{gw gs gl gf:Nat}{P Q:Nat→Prop}{w w':World}(h:WalkAt t vn gw gs gl gf P w)(hk:Keeps P w w')(hPQ:∀ b,b<w.heap.size→P b→Q b):WalkAt t vn gw gs gl gf Q w' :=
 ⟨(hk _ h.box.lt h.pw).trans h.box,by rw [← h.sets];exact World.cell?_of_block (w:=w) (hk _ (lt_of_cell h.sets) h.ps),(hk _ h.lens.lt h.pl).trans h.lens,h.fixed.carry hk hPQ,h.nodes.carry hk hPQ,hPQ _ h.box.lt h.pw,hPQ _ (lt_of_cell h.sets) h.ps,hPQ _ h.lens.lt h.pl⟩
structure WN (t:List GN)(vn:Value)(P:Nat→Prop)(W0:World)(gw gs gl gf:Nat)(ls:List Int)(l:List GV)(w:World):Prop where
 box:Blk w gw 149 #[.pointer (some ⟨gs,0,none⟩),.slice (some ⟨gl,0,none⟩) t.length t.length,.slice (some ⟨gf,0,none⟩) t.length t.length]
 sets:w.cell? ⟨gs,0,none⟩=some vn
 lens:Blk w gl 3 (iblk ls)
 fix:∃ cs,Blk w gf 85 cs.toArray∧RVs w (fun b=>(P b∨W0.heap.size≤b)∧b ≠ gl∧b ≠ gf) l cs
 nodes:Nds w P vn t
 n1:gw ≠ gl
 n2:gw ≠ gf
 n3:gl ≠ gf
 n4:gs ≠ gl
 n5:gs ≠ gf
 bw:W0.heap.size≤gw
 bs:W0.heap.size≤gs
 bl:W0.heap.size≤gl
 bf:W0.heap.size≤gf
 llen:ls.length=t.length
 flen:l.length=t.length
 ext:Ext W0 w
section
variable {t:List GN}{vn:Value}{P:Nat→Prop}{W0:World}{gw gs gl gf:Nat}{ls:List Int}{l:List GV}{w w':World}
theorem WN.ext_ (h:WN t vn P W0 gw gs gl gf ls l w)(hx:Ext w w'):WN t vn P W0 gw gs gl gf ls l w':=by
 obtain ⟨cs,h1,h2⟩:=h.fix
 exact ⟨h.box.ext hx,cell_ext hx h.sets,h.lens.ext hx,⟨cs,h1.ext hx,RVs.keep (Keeps.of_ext hx) (fun _ h=>h) h2⟩,h.nodes.ext hx,h.n1,h.n2,h.n3,h.n4,h.n5,h.bw,h.bs,h.bl,h.bf,h.llen,h.flen,h.ext.trans' hx⟩
theorem WN.setLen (h:WN t vn P W0 gw gs gl gf ls l w)(hP:∀ b,P b→b<W0.heap.size)(k:Nat)(v:Int):WN t vn P W0 gw gs gl gf (ls.set k v) l (w.setCell ⟨gl,k,none⟩ (.int .i64 v)):=by
 obtain ⟨cs,h1,h2⟩:=h.fix
 have hb:=h.bl
 have hl:=h.lens.set_ k (.int .i64 v)
 rw [iblk_set] at hl
 exact ⟨h.box.far (p:=⟨gl,k,none⟩) h.n1 _,cell_set1 h.n4 h.sets,hl,⟨cs,h1.far (p:=⟨gl,k,none⟩) h.n3.symm _,RVs.carry (Keeps.set (p:=⟨gl,k,none⟩) (fun _ _ _=>rfl) _ (fun hq=>hq.2.1 rfl)) (fun _ _ h=>h) h2⟩,
  h.nodes.carry (Keeps.set (p:=⟨gl,k,none⟩) (fun _ _ _=>rfl) _ (fun hq=>by have:=hP _ hq;simp at this;omega)) (fun _ _ h=>h),h.n1,h.n2,h.n3,h.n4,h.n5,h.bw,h.bs,h.bl,h.bf,by simp [h.llen],h.flen,((Fr.of_ext (M:=fun _=>False) h.ext).setCell (p:=⟨gl,k,none⟩) (.inr hb) _).ext⟩
theorem WN.setFix (h:WN t vn P W0 gw gs gl gf ls l w)(hP:∀ b,P b→b<W0.heap.size){k:Nat}(hk:k<t.length){v:GV}{us:List Value}(hv:RV w (fun b=>(P b∨W0.heap.size≤b)∧b ≠ gl∧b ≠ gf) v us):WN t vn P W0 gw gs gl gf ls (l.set k v) (w.setCells gf (k*4) us):=by
 obtain ⟨cs,h1,h2⟩:=h.fix
 have hb:=h.bf
 have hcl:=h2.len
 have hfl:=h.flen
 have hus:=hv.len
 have hkf:¬ (fun b=>(P b∨W0.heap.size≤b)∧b ≠ gl∧b ≠ gf) gf:=fun hq=>hq.2.2 rfl
 have hkp:¬ P gf:=fun hq=>by have:=hP _ hq;omega
 have hs:Keeps (fun b=>b=gs) w (w.setCells gf (k*4) us):=Keeps.setCells (fun e=>h.n5 e.symm) us (k*4) (fun _ _ _=>rfl)
 exact ⟨h.box.farCells h.n2 us _,by rw [← h.sets];exact World.cell?_of_block (w:=w) (hs _ (lt_of_cell h.sets) rfl),h.lens.farCells h.n3 us _,
  ⟨_,setCells_blk us (k*4) h1 (by omega),RVs.carry (Keeps.setCells hkf us (k*4) (fun _ _ _=>rfl)) (fun _ _ h=>h) (h2.set (by omega) hv)⟩,
  h.nodes.carry (Keeps.setCells hkp us (k*4) (fun _ _ _=>rfl)) (fun _ _ h=>h),h.n1,h.n2,h.n3,h.n4,h.n5,h.bw,h.bs,h.bl,h.bf,h.llen,by simp [h.flen],((Fr.of_ext (M:=fun _=>False) h.ext).setCells us (k*4) (.inr hb)).ext⟩
theorem WN.frNew (h:WN t vn P W0 gw gs gl gf ls l w)(hf:Fr (fun b=>b=w.heap.size) w w'):WN t vn P W0 gw gs gl gf ls l w':=by
 exact h.ext_ (hf.new_ext (fun b e=>by omega))
theorem WN.getFix (h:WN t vn P W0 gw gs gl gf ls l w){j:Nat}(hj:j<t.length):∃ A c,VAt w (fun b=>(P b∨W0.heap.size≤b)∧b ≠ gl∧b ≠ gf) (l.getD j default) A c ∧
  w.cell? ⟨gf,j*4,none⟩=some (.int .i64 (l.getD j default).kind)∧w.cell? ⟨gf,j*4+1,none⟩=some (.int .i64 (l.getD j default).n)∧w.cell? ⟨gf,j*4+2,none⟩=some (.string (l.getD j default).s)∧w.cell? ⟨gf,j*4+3,none⟩=some (.slice A (l.getD j default).kids.length c):=by
 obtain ⟨cs,h1,h2⟩:=h.fix
 have hfl:=h.flen
 obtain ⟨A,c,e,hu⟩:=(h2.get (i:=j) (by omega)).at_
 have hx:∀ i,i<4→cs[j*4+i]?=((cs.drop (j*4)).take 4)[i]?:=by
  intro i hi
  rw [List.getElem?_take,if_pos hi,List.getElem?_drop]
 unfold cellsOf at e
 refine ⟨A,c,hu,?_,?_,?_,?_⟩
 ·have:=hx 0 (by omega);rw [e] at this;exact h1.cell' _ (by simpa using this)
 ·have:=hx 1 (by omega);rw [e] at this;exact h1.cell' _ (by simpa using this)
 ·have:=hx 2 (by omega);rw [e] at this;exact h1.cell' _ (by simpa using this)
 ·have:=hx 3 (by omega);rw [e] at this;exact h1.cell' _ (by simpa using this)
theorem WN.place (h:WN t vn P W0 gw gs gl gf ls l w){j:Nat}(hj:j<t.length):(∃ y,w.cell? ⟨gf,j*4,none⟩=some y)∧(∃ y,w.cell? ⟨gf,j*4+1,none⟩=some y)∧(∃ y,w.cell? ⟨gf,j*4+2,none⟩=some y)∧(∃ y,w.cell? ⟨gf,j*4+3,none⟩=some y) ∧
  w.frozen? ⟨gf,j*4,none⟩=false∧w.frozen? ⟨gf,j*4+1,none⟩=false∧w.frozen? ⟨gf,j*4+2,none⟩=false∧w.frozen? ⟨gf,j*4+3,none⟩=false:=by
 obtain ⟨A,c,_,h1,h2,h3,h4⟩:=h.getFix hj
 obtain ⟨cs,hb,_⟩:=h.fix
 exact ⟨⟨_,h1⟩,⟨_,h2⟩,⟨_,h3⟩,⟨_,h4⟩,hb.frozen _,hb.frozen _,hb.frozen _,hb.frozen _⟩
end
def fixL (t:List GN)(k:Nat):List GV:=fixTo t k ++ List.replicate (t.length - k) default
theorem fixL_len {t:List GN}{k:Nat}(hk:k≤t.length):(fixL t k).length=t.length:=by unfold fixL;rw [List.length_append,fixTo_len hk];simp;omega
theorem fixL_get {t:List GN}{k j:Nat}(hk:k≤t.length)(hj:j<k):(fixL t k).getD j default=(fixTo t k).getD j default:=by
 unfold fixL
 have:=fixTo_len hk
 simp [List.getD,List.getElem?_append,this,hj]
theorem fixL_set {t:List GN}{k:Nat}(hk:k<t.length):(fixL t k).set k (fixStep (lensR t) (fixTo t k) (t.getD k default))=fixL t (k+1):=by
 unfold fixL
 have hl:=fixTo_len (t:=t) (j:=k) (by omega)
 rw [fixTo_succ hk,List.set_append_right _ _ (by omega),hl,Nat.sub_self,show t.length - k=(t.length - (k+1))+1 by omega,List.replicate_succ,List.set_cons_zero,List.append_assoc]
 rfl
theorem fixL_same {t:List GN}{k:Nat}(hk:k<t.length)(h:fixStep (lensR t) (fixTo t k) (t.getD k default)=default):fixL t k=fixL t (k+1):=by
 rw [← fixL_set hk,h]
 unfold fixL
 have hl:=fixTo_len (t:=t) (j:=k) (by omega)
 rw [List.set_append_right _ _ (by omega),hl,Nat.sub_self,show t.length - k=(t.length - (k+1))+1 by omega,List.replicate_succ,List.set_cons_zero]
theorem fixL_all (t:List GN):fixL t t.length=fixR t:=by unfold fixL;rw [fixTo_all];simp
def CKInv (l:List GV)(Pk:Nat→Prop)(gk:Nat)(W:World)(i:Value)(wr:World):Prop :=
 ∃ (j:Nat) (cs:List Value),j≤l.length∧i=.int .i64 j∧Blk wr gk 85 cs.toArray∧cs.length=l.length*4∧RVs wr Pk (l.take j) (cs.take (j*4))∧Fr (fun b=>b=gk) W wr
theorem ck_step {l:List GV}{Pk:Nat→Prop}{gk:Nat}{W wr:World}{j:Nat}{cs us:List Value}(hg:¬ Pk gk)(hj:j<l.length)(hB:Blk wr gk 85 cs.toArray)(hl:cs.length=l.length*4)(hR:RVs wr Pk (l.take j) (cs.take (j*4)))(hx:Fr (fun b=>b=gk) W wr)(hu:RV wr Pk (l.getD j default) us) :
  CKInv l Pk gk W (.int .i64 ((j:Int)+1)) (wr.setCells gk (j*4) us):=by
 have hus:=hu.len
 have hB1:=setCells_blk us (j*4) hB (by omega)
 have hk:Keeps Pk wr (wr.setCells gk (j*4) us):=Keeps.setCells hg us (j*4) (fun _ _ _=>rfl)
 refine ⟨j+1,_,by omega,by simp,hB1,?_,?_,hx.setCells us (j*4) (.inl rfl)⟩
 ·simp only [List.length_append,List.length_take,List.length_drop];omega
 ·have e:(cs.take (j*4) ++ us ++ cs.drop (j*4+us.length)).take ((j+1)*4)=cs.take (j*4) ++ us:=by
   rw [List.take_append_of_le_length (by simp only [List.length_append,List.length_take];omega),List.take_of_length_le (by simp only [List.length_append,List.length_take];omega)]
  rw [e,take_succ_getD default hj]
  exact RVs.append (RVs.carry hk (fun _ _ h=>h) hR) (RVs.one (RV.carry hk (fun _ _ h=>h) hu))
end Go.Proofs.YtkoeecdjijfjnaaGreat
