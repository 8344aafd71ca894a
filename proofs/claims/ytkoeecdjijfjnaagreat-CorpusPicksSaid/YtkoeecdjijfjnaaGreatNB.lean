/- Contracts of functions. Conditions: none. -/
import Derived.Test.YtkoeecdjijfjnaaGreatL3
set_option maxRecDepth 100000
set_option maxHeartbeats 8000000
namespace Go.Proofs.YtkoeecdjijfjnaaGreat
open Go.RowKit
def vlD:List Int->Int
 | []=>0
 | x :: l=>x+10000*vlD l
def DgD (l:List Int):Prop:=∀ x ∈ l,0<=x∧x<10000
def IsD (n:Int)(l:List Int):Prop:=DgD l∧vlD l=n∧l.getLast? ≠ some 0
theorem yA:∀ (a b:List Int),vlD (a ++ b)=vlD a+10000 ^ a.length*vlD b
 | [],b=>by simp [vlD]
 | x :: a,b=>by
  simp only [List.cons_append,vlD,yA a b,List.length_cons,Int.pow_succ,Int.mul_add,Int.mul_assoc,Int.mul_left_comm];omega
theorem DgD.nil:DgD []:=by simp [DgD]
theorem DgD.app {a b:List Int}(h:DgD a)(h':DgD b):DgD (a ++ b):=fun x hx=>(List.mem_append.1 hx).elim (h x) (h' x)
theorem DgD.one {x:Int}(h:0<=x)(h':x<10000):DgD [x]:=by simp [DgD,h,h']
theorem DgD.take {a:List Int}(h:DgD a)(n:Nat):DgD (a.take n):=fun x hx=>h x (List.mem_of_mem_take hx)
theorem DgD.drop {a:List Int}(h:DgD a)(n:Nat):DgD (a.drop n):=fun x hx=>h x (List.mem_of_mem_drop hx)
theorem iR (n:Nat):(0:Int)<10000 ^ n:=Int.pow_pos U
theorem yP {a b:Nat}(h:a<=b):(10000:Int) ^ a<=10000 ^ b:=by
 induction h with
 | refl=>omega
 | @step m _ ih=>rw [Int.pow_succ];have:=iR m;omega
theorem DgD.bd:∀ {l:List Int},DgD l->0<=vlD l∧vlD l<10000 ^ l.length
 | [],_=>by simp [vlD]
 | x :: l,h=>by
  have h1:=DgD.bd (l:=l) (fun y hy=>h y ao);have h2:=h x Y;simp only [vlD,List.length_cons,Int.pow_succ];omega
theorem mR (l:List Int)(n:Nat):vlD l=vlD (l.take n)+10000 ^ (min n l.length)*vlD (l.drop n):=by
 have:=yA (l.take n) (l.drop n);rw [List.take_append_drop,List.length_take] at this;exact this
theorem nZ {l:List Int}{n:Nat}(hl:l.length=n+1):vlD l=vlD (l.take n)+10000 ^ n*l.getD n 0:=by
 have h:=mR l n
 have h2:l.drop n=[l.getD n 0]:=by
  rw [List.drop_eq_getElem_cons U,List.drop_eq_nil_of_le U];simp [List.getD,List.getElem?_eq_getElem (show n<l.length by omega)]
 rw [h2] at h;simp only [vlD,Int.mul_zero,Int.add_zero] at h;rw [h,Nat.min_eq_left U]
theorem IsD.pos {n:Int}{l:List Int}(h:IsD n l)(hl:0<l.length):10000 ^ (l.length - 1)<=n:=by
 obtain ⟨h1,h2,h3⟩:=h;obtain ⟨m,hm⟩:∃ m,l.length=m+1:=⟨l.length - 1,U⟩;have h4:=nZ hm;have h5:=(h1.take m).bd.1
 have h6:l.getLast?=some (l.getD m 0):=by
  rw [List.getLast?_eq_getElem?,hm];simp [List.getD,List.getElem?_eq_getElem (show m<l.length by omega)]
 have h7:l.getD m 0 ∈ l:=by
  simp [List.getD,List.getElem?_eq_getElem (show m<l.length by omega)]
 have h8:=h1 _ h7;have h9:l.getD m 0 ≠ 0:=fun e=>h3 (by rw [h6,e])
 have h10:=iR m;have h11:10000 ^ m*1<=10000 ^ m*l.getD m 0:=Int.mul_le_mul_of_nonneg_left U U;rw [hm,Nat.add_sub_cancel];omega
theorem IsD.nonneg {n:Int}{l:List Int}(h:IsD n l):0<=n:=by rw [<- h.2.1];exact h.1.bd.1
theorem IsD.zero:IsD 0 []:=⟨DgD.nil,rfl,Y⟩
theorem IsD.len_lt {a b:List Int}{m n:Int}(ha:IsD m a)(hb:IsD n b)(h:a.length<b.length):m<n:=by
 have h1:=ha.1.bd.2;rw [ha.2.1] at h1;have h2:=hb.pos U;have h3:(10000:Int) ^ a.length<=10000 ^ (b.length - 1):=yP U;omega
theorem IsD.len_le {a:List Int}{m:Int}(ha:IsD m a){k:Nat}(h:m<10000 ^ k):a.length<=k:=by
 by_cases h0:a.length<=k
 ·exact h0
 ·have h2:=ha.pos U
  have h3:(10000:Int) ^ k<=10000 ^ (a.length - 1):=yP U;omega
theorem aIi {a b:List Int}{i:Nat}(hl:a.length=b.length)(hi:i<a.length)(hd:a.drop (i+1)=b.drop (i+1))(ha:DgD a)(hb:DgD b)(h:a.getD i 0<b.getD i 0):vlD a<vlD b:=by
 have h1:=mR a (i+1);have h2:=mR b (i+1);have h3:=nZ (l:=a.take (i+1)) (n:=i) ab;have h4:=nZ (l:=b.take (i+1)) (n:=i) ab;have e:∀ l:List Int,(l.take (i+1)).getD i 0=l.getD i 0:=fun l=>by simp [List.getD]
 have e2:∀ l:List Int,(l.take (i+1)).take i=l.take i:=fun l=>by rw [List.take_take,Nat.min_eq_left U]
 rw [e,e2] at h3 h4;have h5:=(ha.take i).bd.2;have h6:=(hb.take i).bd.1;rw [List.length_take,Nat.min_eq_left U] at h5;have h7:10000 ^ i*(a.getD i 0+1)<=10000 ^ i*b.getD i 0:=Int.mul_le_mul_of_nonneg_left U (Int.le_of_lt (iR i));rw [Int.mul_add,Int.mul_one] at h7;rw [hl] at h1;rw [h1,h2,h3,h4,hd];omega
theorem aJp {a b:List Int}(hl:a.length=b.length)(ha:DgD a)(hb:DgD b)(h:vlD a=vlD b):a=b:=by
 induction a generalizing b with
 | nil=>exact (List.eq_nil_of_length_eq_zero (by simpa using hl.symm)).symm
 | cons x a ih =>
  cases b with
  | nil=>simp at hl
  | cons y b =>
   have h1:=ha x Y;have h2:=hb y Y;simp only [vlD] at h;have h3:=ih (by simpa using hl) (fun z hz=>ha z (by simp [hz])) (fun z hz=>hb z (by simp [hz])) U;subst h3;rw [show x=y by omega]
theorem IsD.inj {a b:List Int}{n:Int}(ha:IsD n a)(hb:IsD n b):a=b:=by
 refine aJp ?_ ha.1 hb.1 (ha.2.1.trans hb.2.1.symm);rcases Nat.lt_trichotomy a.length b.length with h | h | h
 ·have:=ha.len_lt hb h;omega
 ·exact h
 ·have:=hb.len_lt ha h;omega
theorem xZ:∀ {l:List Int}{i:Nat}(x:Int),i<l.length->vlD (l.set i x)=vlD l+(x - l.getD i 0)*10000 ^ i
 | [],i,x,h=>by simp at h
 | y :: l,0,x,h=>by simp [vlD];omega
 | y :: l,i+1,x,h=>by
  have:=xZ (l:=l) (i:=i) x ex;simp only [List.set_cons_succ,vlD,this,List.getD_cons_succ,Int.pow_succ,Int.mul_add,Int.mul_left_comm,Int.mul_comm];omega
theorem fZ (l:List Int)(i:Nat):vlD (l.drop i)=l.getD i 0+10000*vlD (l.drop (i+1)):=by
 by_cases h:i<l.length
 ·rw [List.drop_eq_getElem_cons h]
  simp [vlD,List.getD,h]
 ·rw [List.drop_eq_nil_of_le U,List.drop_eq_nil_of_le U]
  simp [vlD,List.getD,List.getElem?_eq_none (show l.length<=i by omega)]
theorem sL {out:List Int}{i:Nat}{s s' x n:Int}(hl:out.length=i)(h:vlD out+10000 ^ i*s=n)(hs:s=x+10000*s'):vlD (out ++ [x])+10000 ^ (i+1)*s'=n:=by
 rw [yA,hl,Int.pow_succ,Int.mul_assoc,<- h,hs,Int.mul_add];simp only [vlD];rw [Int.mul_zero,Int.add_zero];omega
theorem DgD.snoc {out:List Int}{v:Int}(h:DgD out):DgD (out ++ [v % 10000]):=h.app (.one (Int.emod_nonneg _ U) (Int.emod_lt_of_pos _ U))
theorem DgD.at_ {l:List Int}(h:DgD l)(i:Nat):0<=l.getD i 0∧l.getD i 0<10000:=by
 by_cases hi:i<l.length
 ·refine h _ ?_
  simp [List.getD,hi]
 ·simp [List.getD,List.getElem?_eq_none (show l.length<=i by omega)]
theorem mQ {l:List Int}{k:Nat}(hk:k<l.length):vlD (l.take (k+1))=vlD (l.take k)+10000 ^ k*l.getD k 0:=by
 have h:=nZ (l:=l.take (k+1)) (n:=k) ab;rw [List.take_take,Nat.min_eq_left U] at h;rw [h];simp [List.getD]
theorem aD0 {out b:List Int}{i:Nat}{br n:Int}(hd:DgD out)(hb:DgD b)(hl:out.length=i)(h0:0<=br)(hn:0<=n)(h:vlD out+10000 ^ i*(0 - vlD (b.drop i) - br)=n):vlD out=n:=by
 have h1:=hd.bd;have h2:=(hb.drop i).bd.1;have hp:=iR i;rw [hl] at h1
 have h3:vlD (b.drop i)+br=0:=by
  by_cases hc:vlD (b.drop i)+br<=0
  ·omega
  ·have h4:10000 ^ i*1<=10000 ^ i*(vlD (b.drop i)+br):=Int.mul_le_mul_of_nonneg_left U U
   rw [show 0 - vlD (b.drop i) - br=-(vlD (b.drop i)+br) by omega,Int.mul_neg] at h;omega
 rw [show 0 - vlD (b.drop i) - br=0 by omega,Int.mul_zero] at h;omega
theorem aDy {L:List Int}{i k:Nat}{ai bk cy v base T:Int}(hk:i+k<L.length)(hv:v=L.getD (i+k) 0+ai*bk+cy)(h:vlD L+10000 ^ (i+k)*cy=base+10000 ^ i*ai*T) :
  vlD (L.set (i+k) (v % 10000))+10000 ^ (i+(k+1))*(v / 10000)=base+10000 ^ i*ai*(T+10000 ^ k*bk):=by
 have e:10000 ^ i*ai*(10000 ^ k*bk)=10000 ^ (i+k)*(ai*bk):=by rw [Int.pow_add];simp only [Int.mul_assoc,Int.mul_left_comm,Int.mul_comm]
 rw [xZ _ hk,Int.mul_add,e,<- Nat.add_assoc,Int.pow_succ];have h2:v % 10000 - L.getD (i+k) 0=ai*bk+cy - 10000*(v / 10000):=by omega
 rw [h2,Int.mul_comm (_ - _),Int.mul_sub,Int.mul_add,Int.mul_assoc (10000 ^ (i+k))];omega
theorem aPk {x ai bk cy v:Int}(hx:0<=x∧x<10000)(ha:0<=ai∧ai<10000)(hb:0<=bk∧bk<10000)(hc:0<=cy∧cy<10000)(hv:v=x+ai*bk+cy):0<=ai*bk∧ai*bk<=99980001∧0<=v∧v<=99999999∧0<=v / 10000∧v / 10000<10000:=by
 have h1:0<=ai*bk:=Int.mul_nonneg ha.1 hb.1;have h2:ai*bk<=9999*9999:=Int.mul_le_mul U U hb.1 U;omega
theorem DgD.set {L:List Int}(h:DgD L)(i:Nat){x:Int}(h0:0<=x)(h1:x<10000):DgD (L.set i x):=fun y hy=>(List.mem_or_eq_of_mem_set hy).elim (h y) (fun e=>e ▸ ⟨h0,h1⟩)
theorem wR (L:List Int)(i j:Nat)(x:Int)(h:i ≠ j):(L.set i x).getD j 0=L.getD j 0:=by
 simp [List.getD,List.getElem?_set_ne h]
theorem aDz {L a b:List Int}{i:Nat}{cy:Int}(hi:i<a.length)(hk:i+b.length<L.length)(h0:L.getD (i+b.length) 0=0)(h:vlD L+10000 ^ (i+b.length)*cy=vlD (a.take i)*vlD b+10000 ^ i*a.getD i 0*vlD b):vlD (L.set (i+b.length) cy)=vlD (a.take (i+1))*vlD b:=by
 rw [xZ _ hk,h0,mQ hi,Int.add_mul,<- h,Int.sub_zero,Int.mul_comm cy]
theorem IsD.strip {l:List Int}(h:DgD l){m:Nat}(hm:m<=l.length)(h0:vlD (l.take m)=vlD l)(hz:m=0∨l.getD (m - 1) 0 ≠ 0):IsD (vlD l) (l.take m):=by
 refine ⟨h.take m,h0,?_⟩;rcases hz with rfl | hz
 ·simp
 ·by_cases hm0:m=0
  ·subst hm0;simp
  ·rw [List.getLast?_eq_getElem?,List.length_take,Nat.min_eq_left hm,List.getElem?_take_of_lt U]
   intro e;exact hz (by simp [List.getD,e])
theorem yH {l:List Int}{m:Nat}(hm:m+1<=l.length)(h:vlD (l.take (m+1))=vlD l)(hz:l.getD m 0=0):vlD (l.take m)=vlD l:=by
 rw [mQ U,hz,Int.mul_zero,Int.add_zero] at h;exact h
section
variable {w:World}{P:Nat->Prop}{v vb:Value}{l b:List Int}
noncomputable def aRf:=RG Tryz.f224
noncomputable abbrev aWi:Code:=.seq (aRf 0) (.seq (.seq (aRf 1) (.cond (.tmp 8) (.seq (aRf 2) .ret) .skip)) (.seq (aRf 3) .ret))
theorem aXd:Tryz.f224.body=some aWi:=aa
theorem aBb {i:Nat}(hl:aU w P v l)(_:i<=1000000):Calls Tryz.prog 224 #[v,↑(i:Int)] w fun e w'=>e=.returned (.int .i64 (l.getD i 0))∧w'=w:=by
 refine cI Tryz.func224 aXd rfl Y (fun a Q sz df ea hQ=>?_);obtain ⟨A,c,rfl,-,-⟩:=hl.form;have e0:=ea 0 _ rfl;have e1:=ea 1 _ rfl;refine wp_seq (rW ?_);refine lv ?_;refine lN a [0,1] ?_;intro a1 u1
 replace sz:=u1.sz.trans sz
 replace df:=u1.df.trans df
 replace e0:=u1.get 0 e0
 replace e1:=u1.get 1 e1
 refine wp_seq (wp_seq (rW ?_))
 iterate 4 refine lv ?_
 refine lE a1 [0,1] 8 ?_;intro a2 u2 e8
 replace sz:=u2.sz.trans sz
 replace df:=u2.df.trans df
 replace e0:=u2.get 0 e0
 replace e1:=u2.get 1 e1
 by_cases h:i<l.length
 ·obtain ⟨bb,o,rfl,-,-,hc⟩:=hl.get h
  generalize l.getD i 0=x at *;refine wp_cond_true (e8.trans (by simp [h])) (wp_seq (rW ?_));have h1:(i:Int)<(l.length:Int):=by omega
  iterate 5 refine lv ?_
  refine lE a2 [] 4 ?_;intro a3 u3 e4
  replace sz:=u3.sz.trans sz
  replace df:=u3.df.trans df
  exact wp_ret (hQ _ _ _ df (by simp [results,Tryz.results224,go_sem,evT e4];try rfl) ⟨rfl,rfl⟩)
 ·refine wp_cond_false (e8.trans (by simp [h])) (wp_skip (wp_seq (rW ?_)))
  refine lv ?_;refine lE a2 [] 4 ?_;intro a3 u3 e4
  replace sz:=u3.sz.trans sz
  replace df:=u3.df.trans df
  exact wp_ret (hQ _ _ _ df (by simp [results,Tryz.results224,go_sem,evT e4];try rfl) ⟨by simp [List.getD,List.getElem?_eq_none (show l.length<=i by omega)],rfl⟩)
def dgt (l:List Int)(i:Int):Int:=if i<0 then 0 else l.getD i.toNat 0
noncomputable def aRe:=RG Tryz.f227
noncomputable abbrev aWg:Code:=.seq (aRe 0) (.seq (.seq (aRe 1) (.cond (.tmp 12) (.seq (aRe 2) .ret) .skip)) (.seq (aRe 3) .ret))
theorem aXb:Tryz.f227.body=some aWg:=aa
theorem iI {i:Int}(hl:aU w P v l):Calls Tryz.prog 227 #[v,↑i] w fun e w'=>e=.returned (.int .i64 (dgt l i))∧w'=w:=by
 refine cI Tryz.func227 aXb rfl Y (fun a Q sz df ea hQ=>?_);obtain ⟨A,c,rfl,-,-⟩:=hl.form;have e0:=ea 0 _ rfl;have e1:=ea 1 _ rfl;refine wp_seq (rW ?_);refine lv ?_;refine lN a [0,1] ?_;intro a1 u1
 replace sz:=u1.sz.trans sz
 replace df:=u1.df.trans df
 replace e0:=u1.get 0 e0
 replace e1:=u1.get 1 e1
 refine wp_seq (wp_seq (rW ?_))
 by_cases h0:i<0
 ·iterate 3 refine lv ?_
  iterate 4 refine ln ?_
  refine lv ?_;refine lE a1 [] 12 ?_;intro a2 u2 e12
  replace sz:=u2.sz.trans sz
  replace df:=u2.df.trans df
  refine wp_cond_true e12 (wp_seq (rW ?_));refine lv ?_;refine lE a2 [] 4 ?_;intro a3 u3 e4
  replace sz:=u3.sz.trans sz
  replace df:=u3.df.trans df
  exact wp_ret (hQ _ _ _ df (by simp [results,Tryz.results227,go_sem,evT e4];try rfl) ⟨by simp [dgt,h0],rfl⟩)
 ·obtain ⟨k,rfl⟩:∃ k:Nat,i=(k:Int):=⟨i.toNat,U⟩
  iterate 3 refine lv ?_
  iterate 4 refine ly ?_
  refine lv ?_;refine lE a1 [0,1] 12 ?_;intro a2 u2 e12
  replace sz:=u2.sz.trans sz
  replace df:=u2.df.trans df
  replace e0:=u2.get 0 e0
  replace e1:=u2.get 1 e1
  by_cases h:k<l.length
  ·refine wp_cond_false (e12.trans (by simp [h])) (wp_skip (wp_seq (rW ?_)))
   have e:dgt l (k:Int)=l.getD k 0:=by rw [dgt,if_neg U,Int.toNat_natCast]
   obtain ⟨bb,o,rfl,-,-,hc⟩:=hl.get h;generalize l.getD k 0=x at *;have h1:(k:Int)<(l.length:Int):=by omega
   iterate 5 refine lv ?_
   refine lE a2 [] 4 ?_;intro a3 u3 e4
   replace sz:=u3.sz.trans sz
   replace df:=u3.df.trans df
   exact wp_ret (hQ _ _ _ df (by simp [results,Tryz.results227,go_sem,evT e4];try rfl) ⟨by rw [e],rfl⟩)
  ·refine wp_cond_true (e12.trans ab) (wp_seq (rW ?_))
   refine lv ?_;refine lE a2 [] 4 ?_;intro a3 u3 e4
   replace sz:=u3.sz.trans sz
   replace df:=u3.df.trans df
   exact wp_ret (hQ _ _ _ df (by simp [results,Tryz.results227,go_sem,evT e4];try rfl) ⟨by simp [dgt,List.getD,List.getElem?_eq_none (show l.length<=k by omega)],rfl⟩)
theorem aRb {ops:Array Oper}{K:Act->World->Prop}{S:World->Prop}{bf:Nat->Bool}{n:Nat}{is:List Nat}{a:Act}{w:World}{v:Value}(a0:Act)(L:List Nat)(d:Nat)(h:∀ a',Ag L a0 a'->Ev a' (.tmp d)=v->K a' w)(hr:Region.ready .any ops (mkL ops.size is)=[]:=by kernel_rfl)(hA:Ag L a0 a:=by (repeat refine .put ?_ rfl);exact .rf)(he:Ev a (.tmp d)=v:=by simp [*];rfl):WD ops K S bf n is a w:=wZ hr (h a hA he)
def rX (m n:Int):Int:=if m<n then -1 else if n<m then 1 else 0
noncomputable def aCu:=RG Tryz.f215
noncomputable abbrev aWn:Code:=.seq (aCu 0) (.seq (.seq (aCu 1) (.cond (.tmp 10) (.seq (aCu 2) .ret) .skip)) (.seq (.seq (aCu 3) (.cond (.tmp 15) (.seq (aCu 4) .ret) .skip)) (.seq (.seq (aCu 5) (.block 0 (.loop (.seq (.seq (aCu 6) (.cond (.tmp 20) .skip (.exit 0))) (.seq (.block 1 (.seq (.seq (aCu 8) (.cond (.tmp 31) (.seq (aCu 9) .ret) .skip)) (.seq (aCu 10) (.cond (.tmp 40) (.seq (aCu 11) .ret) .skip)))) (aCu 7)))))) (.seq (aCu 12) .ret))))
theorem aXi:Tryz.f215.body=some aWn:=aa
theorem jX {m n:Int}{P':Nat->Prop}(hl:aU w P v l)(hb:aU w P' vb b)(hm:IsD m l)(hn:IsD n b):Calls Tryz.prog 215 #[v,vb] w fun e w'=>e=.returned (.int .i64 (rX m n))∧Ext w w':=by
 refine cI Tryz.func215 aXi rfl Y (fun a Q sz df ea hQ=>?_);obtain ⟨A,c,rfl,hlc,hlc2⟩:=hl.form;obtain ⟨B,c',rfl,-,-⟩:=hb.form;have e0:=ea 0 _ rfl;have e1:=ea 1 _ rfl;refine wp_seq (rW ?_);refine lv ?_;refine lN a [0,1] ?_;intro a1 u1
 replace sz:=u1.sz.trans sz
 replace df:=u1.df.trans df
 replace e0:=u1.get 0 e0
 replace e1:=u1.get 1 e1
 refine wp_seq (wp_seq (rW ?_))
 iterate 5 refine lv ?_
 refine lE a1 [0,1] 10 ?_;intro a2 u2 e10
 replace sz:=u2.sz.trans sz
 replace df:=u2.df.trans df
 replace e0:=u2.get 0 e0
 replace e1:=u2.get 1 e1
 by_cases h1:l.length<b.length
 ·refine wp_cond_true (e10.trans il) (wp_seq (rW ?_))
  refine lv ?_;refine lE a2 [] 4 ?_;intro a3 u3 e4
  replace sz:=u3.sz.trans sz
  replace df:=u3.df.trans df
  exact wp_ret (hQ _ _ _ df (by simp [results,Tryz.results215,go_sem,evT e4];try rfl) ⟨by simp [rX,hm.len_lt hn h1],.refl _⟩)
 refine wp_cond_false (e10.trans ab) (wp_skip (wp_seq (wp_seq (rW ?_))))
 iterate 5 refine lv ?_
 refine lE a2 [0,1] 15 ?_;intro a3 u3 e15
 replace sz:=u3.sz.trans sz
 replace df:=u3.df.trans df
 replace e0:=u3.get 0 e0
 replace e1:=u3.get 1 e1
 by_cases h2:b.length<l.length
 ·have h3:=hn.len_lt hm h2
  refine wp_cond_true (e15.trans (by simp [h2])) (wp_seq (rW ?_));refine lv ?_;refine lE a3 [] 4 ?_;intro a4 u4 e4
  replace sz:=u4.sz.trans sz
  replace df:=u4.df.trans df
  exact wp_ret (hQ _ _ _ df (by simp [results,Tryz.results215,go_sem,evT e4];try rfl) ⟨by simp [rX,h3,show ¬ m<n by omega],.refl _⟩)
 refine wp_cond_false (e15.trans ab) (wp_skip (wp_seq (wp_seq (rW ?_))))
 iterate 4 refine lv ?_
 refine lE a3 [0,1] 5 ?_;intro a4 u4 e5
 replace sz:=u4.sz.trans sz
 replace df:=u4.df.trans df
 replace e0:=u4.get 0 e0
 replace e1:=u4.get 1 e1
 have hlen:l.length=b.length:=U
 refine wp_block (wp_loop (fun a' w'=>∃ j:Nat,Ag [0,1] a4 a'∧j<=l.length∧Ev a' (.tmp 5)=.int .i64 ((j:Int) - 1)∧l.drop j=b.drop j∧Ext w w') (fun a' _=>(intOf (Ev a' (.tmp 5))+1).toNat) ⟨_,.rf,Nat.le_refl _,e5,by rw [List.drop_eq_nil_of_le (Nat.le_refl _),List.drop_eq_nil_of_le U],.refl _⟩ ?_);clear e5;rintro a5 w5 ⟨j,u5,hj,e5,hd,hx⟩
 replace sz:=u5.sz.trans sz
 replace df:=u5.df.trans df
 replace e0:=u5.get 0 e0
 replace e1:=u5.get 1 e1
 refine wp_seq (wp_seq (rW ?_))
 iterate 2 refine lv ?_
 refine lE a5 [0,1,5] 20 ?_;intro a6 u6 e20
 cases j with
 | zero =>
  have heq:l=b:=by simpa using hd
  subst heq;have:m=n:=hm.2.1.symm.trans hn.2.1;subst this;refine wp_cond_false (e20.trans Y) (wp_exit (wp_seq (rW ?_)))
  replace sz:=u6.sz.trans sz
  refine lv ?_;refine lE a6 [] 4 ?_;intro a7 u7 e4;exact wp_ret (hQ _ _ _ (u7.df.trans (u6.df.trans df)) (by simp [results,Tryz.results215,go_sem,evT e4];try rfl) ⟨by simp [rX],hx⟩)
 | succ k =>
  replace e5:=e5.trans (show Value.int .i64 (((k+1:Nat):Int) - 1)=↑(k:Int) by congr 1;omega)
  refine wp_cond_true (e20.trans ab) (wp_skip (wp_seq (wp_block (wp_seq (wp_seq ?_)))))
  replace sz:=u6.sz.trans sz
  replace df:=u6.df.trans df
  replace e0:=u6.get 0 e0
  replace e1:=u6.get 1 e1
  have f5:=u6.get 5 e5;obtain ⟨b1,o1,rfl,-,-,hc1⟩:=(hl.ext hx).get (show k<l.length by omega);obtain ⟨b2,o2,rfl,-,-,hc2⟩:=(hb.ext hx).get (show k<b.length by omega);have hlt:=aIi (a:=l) (b:=b) hlen (show k<l.length by omega) hd hm.1 hn.1;have hgt:=aIi (a:=b) (b:=l) hlen.symm (show k<b.length by omega) hd.symm hn.1 hm.1
  have hds:l.getD k 0=b.getD k 0->l.drop k=b.drop k:=by
   intro e;rw [List.drop_eq_getElem_cons (show k<l.length by omega),List.drop_eq_getElem_cons (show k<b.length by omega),hd];simp [List.getD,show k<l.length by omega,show k<b.length by omega] at e;rw [e]
  rw [hm.2.1,hn.2.1] at hlt;rw [hm.2.1,hn.2.1] at hgt;generalize l.getD k 0=x at *;generalize b.getD k 0=y at *;have i2:(k:Int)<(b.length:Int):=by omega
  refine rD (fun w'=>w'.cell? ⟨b1,o1+k,none⟩=some (↑x)∧w'.cell? ⟨b2,o2+k,none⟩=some (↑y)) (fun _=>true) 9 ?_;have hS:w5.drew.cell? ⟨b1,o1+k,none⟩=some (↑x)∧w5.drew.cell? ⟨b2,o2+k,none⟩=some (↑y):=⟨hc1,hc2⟩;refine dt 0 [0,1,2,3,4,5,6,7,8] ?_
  iterate 9 refine tv ?_
  refine t_e ?_;refine aRb a6 [0,1,5] 31 ?_;intro a7 u7 e31
  replace sz:=u7.sz.trans sz
  replace df:=u7.df.trans df
  replace e0:=u7.get 0 e0
  replace e1:=u7.get 1 e1
  replace f5:=u7.get 5 f5
  by_cases hxy:x<y
  ·refine wp_cond_true (e31.trans (by simp [hxy])) (wp_seq (rW ?_))
   refine lv ?_;refine lE a7 [] 4 ?_;intro a8 u8 e4
   replace sz:=u8.sz.trans sz
   replace df:=u8.df.trans df
   exact wp_ret (hQ _ _ _ df (by simp [results,Tryz.results215,go_sem,evT e4];try rfl) ⟨by simp [rX,hlt hxy],hx.drew'⟩)
  refine wp_cond_false (e31.trans ab) (wp_skip (wp_seq ?_));refine rD (fun w'=>w'.cell? ⟨b1,o1+k,none⟩=some (↑x)∧w'.cell? ⟨b2,o2+k,none⟩=some (↑y)) (fun _=>true) 9 ?_;have hS:w5.drew.drew.cell? ⟨b1,o1+k,none⟩=some (↑x)∧w5.drew.drew.cell? ⟨b2,o2+k,none⟩=some (↑y):=⟨hc1,hc2⟩;refine dt 0 [0,1,2,3,4,5,6,7,8] ?_
  iterate 9 refine tv ?_
  refine t_e ?_;refine aRb a7 [0,1,5] 40 ?_;intro a8 u8 e40
  replace sz:=u8.sz.trans sz
  replace df:=u8.df.trans df
  replace f5:=u8.get 5 f5
  by_cases hyx:y<x
  ·have h3:=hgt hyx
   refine wp_cond_true (e40.trans (by simp [hyx])) (wp_seq (rW ?_));refine lv ?_;refine lE a8 [] 4 ?_;intro a9 u9 e4
   replace sz:=u9.sz.trans sz
   replace df:=u9.df.trans df
   exact wp_ret (hQ _ _ _ df (by simp [results,Tryz.results215,go_sem,evT e4];try rfl) ⟨by simp [rX,h3,show ¬ m<n by omega],hx.drew'.drew'⟩)
  refine wp_cond_false (e40.trans ab) (wp_skip (rW ?_))
  iterate 3 refine lv ?_
  refine lE a8 [0,1] 5 ?_;intro a9 u9 f5';refine ⟨⟨k,(((u5.trans (u6.mono rfl)).trans (u7.mono rfl)).trans (u8.mono rfl)).trans u9,U,f5',hds U,hx.drew'.drew'⟩,?_⟩;rw [f5',e5];simp [intOf]
theorem aU.take {w:World}{P:Nat->Prop}{A:Option Addr}{n c:Nat}{l:List Int}(h:aU w P (.slice A n c) l){m:Nat}(hm:m<=l.length):aU w P (.slice A m c) (l.take m):=by
 obtain ⟨A',c',e,h2,h3,h4,h5⟩:=h;injection e with e1 e2 e3;subst e1 e3;refine ⟨A,c,by rw [List.length_take,Nat.min_eq_left hm],aq,⟨aq,h3.2⟩,fun x hx=>h4 x (List.mem_of_mem_take hx),?_⟩;have:=h5.take hm;rw [Nat.mul_one] at this;rw [List.length_take,Nat.min_eq_left hm,List.map_take];exact this
def jZ (neg:Bool)(l:List Int)(P:Nat->Prop)(w:World)(e:Ending)(w':World):Prop :=
 ∃ m A c,m<=l.length∧e=.returned (.agg #[.bool (neg && decide (0<m)),.slice A m c])∧aU w' P (.slice A m c) (l.take m)∧(DgD l->IsD (vlD l) (l.take m))∧Ext w w'
noncomputable def aQz:=RG Tryz.f195
noncomputable abbrev aWv:Code:=.seq (aQz 0) (.seq (.block 0 (.loop (.seq (.seq (aQz 1) (.cond (.tmp 16) .skip (.exit 0))) (.block 1 (aQz 2))))) (.seq (aQz 3) .ret))
theorem aXq:Tryz.f195.body=some aWv:=aa
theorem dM (neg:Bool)(hl:aU w P v l):Calls Tryz.prog 195 #[.bool neg,v] w (jZ neg l P w):=by
 refine cI Tryz.func195 aXq rfl Y (fun a Q sz df ea hQ=>?_);obtain ⟨A,c,rfl,hlc,hlc2⟩:=hl.form;have e0:=ea 0 (.bool neg) rfl;have e1:=ea 1 (.slice A l.length c) rfl;have B0:=Blk.new w 223 #[.bool false,.slice none 0 0];have x0:Ext w (w.alloc (.cells #[.bool false,.slice none 0 0] 223)):=(Ext.refl w).alloc' _;refine wp_seq (rW ?_);refine lv ?_;refine lE a [0,1] 4 ?_;intro a1 u1 e4
 replace sz:=u1.sz.trans sz
 replace df:=u1.df.trans df
 replace e0:=u1.get 0 e0
 replace e1:=u1.get 1 e1
 refine wp_seq (wp_block (wp_loop (fun a' w'=>∃ m:Nat,Ag [0,4] a1 a'∧m<=l.length∧Ev a' (.tmp 1)=.slice A m c∧vlD (l.take m)=vlD l∧w'=w.alloc (.cells #[.bool false,.slice none 0 0] 223)) (fun a' _=>(match Ev a' (.tmp 1) with | .slice _ m _=>m | _=>0)) ⟨_,.rf,Nat.le_refl _,e1,by rw [List.take_length],rfl⟩ ?_));clear e1;rintro a2 w2 ⟨m,u2,hm,e1,hv,rfl⟩
 replace sz:=u2.sz.trans sz
 replace df:=u2.df.trans df
 replace e0:=u2.get 0 e0
 replace e4:=u2.get 4 e4
 generalize w.alloc (.cells #[.bool false,.slice none 0 0] 223)=w1 at *
 have fin:∀ a3,Ag [0,1,4] a2 a3->(m=0∨l.getD (m - 1) 0 ≠ 0)->Code.wp Tryz.prog (.seq (aQz 3) .ret) Q a3 w1:=by
  intro a3 u3 hz
  replace sz:=u3.sz.trans sz
  replace df:=u3.df.trans df
  replace e0:=u3.get 0 e0
  replace e1:=u3.get 1 e1
  replace e4:=u3.get 4 e4
  have hr:IsD (vlD l) (l.take m)∨¬ DgD l:=by
   by_cases hD:DgD l
   ·exact .inl (IsD.strip hD hm hv hz)
   ·exact .inr hD
  have out:∀ a4,Ag [4] a3 a4->Code.wp Tryz.prog .ret Q a4 (w1.setCells w.heap.size 0 [.bool (neg && decide (0<m)),.slice A m c]):=by
   intro a4 u4;have hb:=aJ [.bool (neg && decide (0<m)),.slice A m c] 0 B0 Y;have hc:=hb.cell;have f4:=evT (u4.get 4 e4);have hE:Ext w (w1.setCells w.heap.size 0 [.bool (neg && decide (0<m)),.slice A m c]):=((Fr.of_ext (M:=fun _=>False) x0).setCells _ 0 (.inr (Nat.le_refl _))).ext;exact wp_ret (hQ _ _ _ (u4.df.trans df) (by simp [results,Tryz.results195,go_sem,f4,hc];try rfl) ⟨m,A,c,hm,rfl,(hl.take hm).ext hE,fun hD=>hr.resolve_right (fun h=>h hD),hE⟩)
  refine wp_seq (rW ?_)
  cases neg
  ·iterate 2 refine lv ?_
   iterate 3 refine ln ?_
   iterate 3 refine lv ?_
   refine ls (w1:=w1.setCells w.heap.size 0 [.bool (false && decide (0<m)),.slice A m c]) ?_ rfl rfl (by simp [execOp,go_sem,B0.cell,B0.frozen,sz,e4,World.setCells]);refine lN a3 [4] ?_;exact out
  ·iterate 2 refine lv ?_
   iterate 3 refine ly ?_
   iterate 3 refine lv ?_
   refine ls (w1:=w1.setCells w.heap.size 0 [.bool (true && decide (0<m)),.slice A m c]) ?_ rfl rfl (by simp [execOp,go_sem,B0.cell,B0.frozen,sz,e4,World.setCells]);refine lN a3 [4] ?_;exact out
 refine wp_seq (wp_seq (rW ?_))
 by_cases h0:m=0
 ·subst h0
  iterate 4 refine lv ?_
  iterate 7 refine ln ?_
  refine lv ?_;refine lE a2 [0,1,4] 16 ?_;intro a3 u3 e16;exact wp_cond_false e16 (wp_exit (fin a3 u3 (.inl rfl)))
 ·obtain ⟨k,rfl⟩:∃ k,m=k+1:=⟨m - 1,U⟩
  obtain ⟨b1,o1,rfl,-,-,hc1⟩:=(hl.ext x0).get (show k<l.length by omega);have i1:IntKind.i64.wrap (((k+1:Nat):Int) - 1)=(k:Int):=by rw [wrI U U];omega
  have i2:(k:Int)<(k:Int)+1:=U
  have hz:k+1=0∨l.getD (k+1 - 1) 0 ≠ 0 ↔ l.getD k 0 ≠ 0:=Y
  have hs:=yH (l:=l) (m:=k) U hv;rw [hz] at fin;generalize l.getD k 0=x at *;have i4:(k:Int)<=(c:Int):=by omega
  have i5:(0:Int)<=(k:Int):=U
  iterate 4 refine lv ?_
  iterate 7 refine ly ?_
  refine lv ?_;refine lE a2 [0,1,4] 16 ?_;intro a3 u3 e16
  by_cases hx:x=0
  ·refine wp_cond_true (e16.trans (by simp [hx])) (wp_skip (wp_block (rW ?_)))
   replace sz:=u3.sz.trans sz
   have f1:=u3.get 1 e1
   iterate 6 refine lv ?_
   refine lE a3 [0,4] 1 ?_;intro a4 u4 g1;refine ⟨⟨k,(u2.trans (u3.mono rfl)).trans u4,U,g1,hs hx,rfl⟩,?_⟩;rw [g1,e1];simp
  ·exact wp_cond_false (e16.trans (by simp [hx])) (wp_exit (fin a3 u3 hx))
end
section
variable {w:World}{m n:Int}{u v:Value}
def NI (w:World)(P:Nat->Prop)(u:Value)(n:Int):Prop:=∃ l A c,u=.agg #[.bool (decide (n<0)),.slice A l.length c]∧aU w P (.slice A l.length c) l∧IsD (n.natAbs:Int) l
theorem NI.carry {w':World}{P Q:Nat->Prop}(h:NI w P u n)(hk:aB P w w')(hPQ:∀ b,b<w.heap.size->P b->Q b):NI w' Q u n:=by
 obtain ⟨l,A,c,h1,h2,h3⟩:=h;exact ⟨l,A,c,h1,h2.carry hk hPQ,h3⟩
theorem NI.ext {w':World}{P:Nat->Prop}(h:NI w P u n)(hx:Ext w w'):NI w' P u n:=h.carry (aB.of_ext hx) (fun _ _ h=>h)
def aL6 (w:World)(P:Nat->Prop)(n:Int)(e:Ending)(w':World):Prop:=∃ u,e=.returned u∧NI w' (New P w.heap.size) u n∧Ext w w'
theorem jZ.ni {w':World}{e:Ending}{l:List Int}{P:Nat->Prop}(h:jZ (decide (n<0)) l P w e w')(hD:DgD l)(hv:vlD l=(n.natAbs:Int)):∃ u,e=.returned u∧NI w' P u n∧Ext w w':=by
 obtain ⟨m,A,c,hm,rfl,hI,hd,hx'⟩:=h;have hl:(l.take m).length=m:=by rw [List.length_take];omega
 have h1:=hd hD;rw [hv] at h1;refine ⟨_,rfl,⟨l.take m,A,c,?_,by rw [hl];exact hI,h1⟩,hx'⟩;rw [hl]
 congr 2
 by_cases hn:n<0
 ·have:0<m:=by
   by_cases h0:m=0
   ·subst h0
    have:=h1.2.1;simp [vlD] at this;omega
   ·omega
  simp [hn,this]
 ·simp [hn]
theorem NI.box {w':World}{P Q:Nat->Prop}{g:Nat}{c0 c1:Value}(h:NI w P u n)(hP:∀ b,P b->b ≠ g)(hPQ:∀ b,P b->Q b)(hb:Blk w g 223 #[c0,c1])(hx:Ext w' w)(hg:w'.heap.size<=g) :
  ∃ (z:Bool) (A:Option Addr) (k c:Nat),u=.agg #[.bool z,.slice A k c]∧NI (w.setCells g 0 [.bool z,.slice A k c]) Q u n∧Blk (w.setCells g 0 [.bool z,.slice A k c]) g 223 #[.bool z,.slice A k c]∧Ext w' (w.setCells g 0 [.bool z,.slice A k c]):=by
 have h':=h;obtain ⟨l,A,c,h1,h2,h3⟩:=h';refine ⟨_,A,_,c,h1,h.carry (aB.setCells (fun hp=>hP g hp rfl) _ 0 (fun _ _ _=>rfl)) (fun b _ hb=>hPQ b hb),?_,((Fr.of_ext (M:=fun _=>False) hx).setCells _ 0 (.inr hg)).ext⟩;exact aJ [.bool (decide (n<0)),.slice A l.length c] 0 hb Y
noncomputable def aC0:=RG Tryz.f163
noncomputable abbrev aW3:Code:=.seq (aC0 0) (.seq (aC0 1) (.seq (aC0 2) (.seq (.block 0 (.loop (.seq (.seq (aC0 3) (.cond (.tmp 9) .skip (.exit 0))) (.block 1 (.seq (aC0 4) (.seq (.seq (aC0 5) (.cond (.tmp 13) (aC0 6) .skip)) (.seq (aC0 7) (aC0 8)))))))) (.seq (aC0 9) .ret))))
theorem aXy:Tryz.f163.body=some aW3:=aa
theorem iS (n:Int)(w:World)(hn:I64 n):Calls Tryz.prog 163 #[↑n] w (aL6 w (fun _=>False) n):=by
 refine cI Tryz.func163 aXy rfl Y (fun a Q sz df ea hQ=>?_);have e0:=ea 0 (↑n) rfl;unfold I64 at hn;have B0:=Blk.new w 223 #[.bool false,.slice none 0 0];have x0:Ext w (w.alloc (.cells #[.bool false,.slice none 0 0] 223)):=(Ext.refl w).alloc' _;have s0:(w.alloc (.cells #[.bool false,.slice none 0 0] 223)).heap.size=w.heap.size+1:=by simp
 refine wp_seq (rW ?_);refine lv ?_;refine lE a [0] 2 ?_;intro a1 u1 e2
 replace sz:=u1.sz.trans sz
 replace df:=u1.df.trans df
 replace e0:=u1.get 0 e0
 generalize w.alloc (.cells #[.bool false,.slice none 0 0] 223)=w1 at *;refine wp_seq (rW ?_);refine lv ?_;refine lE a1 [0,2] 3 ?_;intro a2 u2 e3
 replace sz:=u2.sz.trans sz
 replace df:=u2.df.trans df
 replace e0:=u2.get 0 e0
 replace e2:=u2.get 2 e2
 refine wp_seq (rW ?_)
 iterate 3 refine lv ?_
 refine lE a2 [0,2,3] 4 ?_;intro a3 u3 e4
 replace sz:=u3.sz.trans sz
 replace df:=u3.df.trans df
 replace e0:=u3.get 0 e0
 replace e2:=u3.get 2 e2
 replace e3:=u3.get 3 e3
 obtain ⟨s,hs,hs2⟩:∃ s:Int,(s=1∨s=-1)∧s*(n.natAbs:Int)=n:=by
  by_cases h:n<0
  ·exact ⟨-1,.inr rfl,U⟩
  ·exact ⟨1,.inl rfl,U⟩
 refine wp_seq (wp_block (wp_loop (fun a' w'=>∃ (r:Int) (out:List Int) (v:Value),Ag [2,4] a3 a'∧0<=r∧Ev a' (.tmp 0)=.int .i64 (s*r)∧Ev a' (.tmp 3)=v∧w'.ownsRow w1.heap.size 3 1 v out.length (out.map (Value.int .i64))∧DgD out∧out.length<=5∧vlD out+10000 ^ out.length*r=(n.natAbs:Int)∧Ext w1 w') (fun a' _=>(intOf (Ev a' (.tmp 0))).natAbs) ⟨(n.natAbs:Int),[],_,.rf,U,by rw [hs2];exact e0,e3,aN _ _ _ _,by simp [DgD],Y,fv,.refl _⟩ ?_));clear e0 e3;rintro a4 w4 ⟨r,out,v,u4,hr,e0,e3,hown,hD,h5,hv,hx⟩
 replace sz:=u4.sz.trans sz
 replace df:=u4.df.trans df
 replace e2:=u4.get 2 e2
 replace e4:=u4.get 4 e4
 have hr2:r<=9223372036854775808∧(s=1->r<=9223372036854775807):=by
  have h1:=hD.bd.1;have h2:1*r<=10000 ^ out.length*r:=Int.mul_le_mul_of_nonneg_right (by have:=iR out.length;omega) hr;refine ⟨U,fun h=>?_⟩;subst h;omega
 refine wp_seq (wp_seq (rW ?_))
 iterate 2 refine lv ?_
 refine lE a4 [0,2,3,4] 9 ?_;intro a5 u5 e9
 replace sz:=u5.sz.trans sz
 replace df:=u5.df.trans df
 replace e2:=u5.get 2 e2
 replace e4:=u5.get 4 e4
 have f0:=u5.get 0 e0;have f3:=u5.get 3 e3
 by_cases h0:r=0
 ·subst h0
  refine wp_cond_false (e9.trans Y) (wp_exit (wp_seq (rW ?_)));obtain ⟨A,c,rfl,-,-,-⟩:=Sl.of_own hown;have hI:aU w4 (fun b=>w1.heap.size<=b) (.slice A out.length c) out:=aU.of_own hown (fun x hx=>by have:=hD x hx;unfold I64;omega) U (fun b hb=>hown.block_ge hb)
  iterate 2 refine lv ?_
  refine lc Tryz.func195 (dM (decide (n<0)) hI) ?_;intro e w5 hR;obtain ⟨u,rfl,hN,hx5⟩:=hR.ni hD (by simpa using hv);refine ⟨_,rfl,?_⟩;have B5:=(B0.ext hx).ext hx5;obtain ⟨z,A',k,c',rfl,hN',hb',hE⟩:=hN.box (Q:=New (fun _=>False) w.heap.size) (fun b hb=>by omega) (fun b hb=>.inr U) B5 (x0.trans' (hx.trans' hx5)) (Nat.le_refl _);refine ls (w1:=w5.setCells w.heap.size 0 [.bool z,.slice A' k c']) ?_ rfl rfl (by simp [execOp,go_sem,B5.cell,B5.frozen,sz,e2,World.setCells]);refine lE a5 [] 2 ?_;intro a6 u6 e2;have hb:=hb'.cell;exact wp_ret (hQ _ _ _ (u6.df.trans df) (by simp [results,Tryz.results163,go_sem,evT e2,hb];try rfl) ⟨_,rfl,hN',hE⟩)
 have hlen:out.length<=4:=by
  by_cases h:out.length<=4
  ·exact h
  ·have h1:=yP (show 5<=out.length by omega)
   have h2:10000 ^ out.length*1<=10000 ^ out.length*r:=Int.mul_le_mul_of_nonneg_left U (by have:=iR out.length;omega);have h3:=hD.bd.1;omega
 have mid:∀ a6,Ag [0,2,3,4] a5 a6->Ev a6 (.tmp 5)=.int .i64 (r % 10000)->Code.wp Tryz.prog (.seq (aC0 7) (aC0 8)) (fun e a' w'=>e=.normal∧Ag [2,4] a5 a'∧Ev a' (.tmp 0)=.int .i64 (s*(r / 10000))∧∃ v,Ev a' (.tmp 3)=v∧w'.ownsRow w1.heap.size 3 1 v (out ++ [r % 10000]).length ((out ++ [r % 10000]).map (Value.int .i64))∧Ext w1 w') a6 w4:=by
  intro a6 u6 e5
  replace sz:=u6.sz.trans sz
  have g0:=u6.get 0 f0;have g3:=u6.get 3 f3;refine wp_seq (rW ?_)
  iterate 3 refine lv ?_
  refine la Tryz.underlying22 Tryz.info3 (hown.alloc _) (T:=fun _=>True) (Sl.new w4 _ _ 1 1 rfl) U U (by have:=hx.size;simp;omega) af ?_;intro v5 w5 ho5 hf5 _;refine lv ?_;refine lE a6 [0,2,4] 3 ?_;intro a7 u7 e3
  replace sz:=u7.sz.trans sz
  replace g0:=u7.get 0 g0
  refine rW ?_;refine lv ?_
  have hq:IntKind.i64.wrap ((s*r).tdiv 10000)=s*(r / 10000):=by
   rcases hs with rfl | rfl
   ·rw [Int.one_mul,Int.one_mul,tqI hr (hr2.2 rfl) U]
   ·rw [show -1*r=-r by omega,Int.neg_tdiv,Int.tdiv_eq_ediv_of_nonneg hr,wrI U U]
    omega
  refine lv ?_ rfl rfl (by simp [execOp,go_sem, *];exact ⟨rfl,rfl⟩);refine lv ?_;refine lE2 a7 [2,3,4] 0 3 ?_;intro a8 u8 e0 e3';exact ⟨rfl,(u6.mono rfl).trans ((u7.mono rfl).trans (u8.mono rfl)),e0,_,e3',ho5.len_cast Y Y,Fr.new_ext ((Fr.of_ext (hx.alloc' _)).trans hf5) (fun b hb=>hown.block_ge hb.symm)⟩
 have next:∀ a' w',Ag [2,4] a5 a'->Ev a' (.tmp 0)=.int .i64 (s*(r / 10000))->(∃ v,Ev a' (.tmp 3)=v∧w'.ownsRow w1.heap.size 3 1 v (out ++ [r % 10000]).length ((out ++ [r % 10000]).map (Value.int .i64))∧Ext w1 w')->(∃ (r:Int) (out:List Int) (v:Value),Ag [2,4] a3 a'∧0<=r∧Ev a' (.tmp 0)=.int .i64 (s*r)∧Ev a' (.tmp 3)=v∧w'.ownsRow w1.heap.size 3 1 v out.length (out.map (Value.int .i64))∧DgD out∧out.length<=5∧vlD out+10000 ^ out.length*r=(n.natAbs:Int)∧Ext w1 w')∧(intOf (Ev a' (.tmp 0))).natAbs<(intOf (Ev a4 (.tmp 0))).natAbs:=by
  rintro a' w' u' f0' ⟨v',f3',ho',hx'⟩;refine ⟨⟨r / 10000,out ++ [r % 10000],v',(u4.trans (u5.mono rfl)).trans u',U,f0',f3',ho',hD.snoc,ab,?_,hx'⟩,?_⟩
  ·rw [List.length_append]
   exact sL rfl hv U
  ·rw [f0',e0]
   simp only [intOf];rcases hs with rfl | rfl <;> omega
 have hm:(s*r).tmod 10000=s*(r % 10000):=by
  rcases hs with rfl | rfl
  ·rw [Int.one_mul,Int.one_mul,tmI hr]
  ·rw [show -1*r=-r by omega,Int.neg_tmod,tmI hr]
   omega
 refine wp_cond_true (e9.trans (by rcases hs with rfl | rfl <;> simp [h0])) (wp_skip (wp_block (wp_seq (rW ?_))))
 iterate 2 refine lv ?_ rfl rfl (by simp [execOp,go_sem, *];exact ⟨rfl,rfl⟩)
 refine lv ?_;refine lE a5 [0,2,3,4] 5 ?_;intro a6 u6 e5
 replace sz:=u6.sz.trans sz
 refine wp_seq (wp_seq (rW ?_))
 iterate 2 refine lv ?_
 refine lE a6 [0,2,3,4,5] 13 ?_;intro a7 u7 e13
 replace sz:=u7.sz.trans sz
 have g5:=u7.get 5 e5
 by_cases hc:s*(r % 10000)<0
 ·refine wp_cond_true (e13.trans (by simp [hc])) (rW ?_)
  have hw:IntKind.i64.wrap (-(s*(r % 10000)))=r % 10000:=by
   rcases hs with rfl | rfl
   ·omega
   ·rw [wrI U U];omega
  iterate 3 refine lv ?_ rfl rfl (by simp [execOp,go_sem, *];exact ⟨rfl,rfl⟩)
  refine lE a7 [0,2,3,4] 5 ?_;intro a8 u8 e5;refine wp_mono (mid a8 ((u6.mono rfl).trans ((u7.mono rfl).trans u8)) e5) ?_;rintro e a' w' ⟨rfl,h1,h2,h3⟩;exact next a' w' h1 h2 h3
 ·refine wp_cond_false (e13.trans ab) (wp_skip ?_)
  refine wp_mono (mid a7 ((u6.mono rfl).trans (u7.mono rfl)) (g5.trans (by congr 1;rcases hs with rfl | rfl <;> omega))) ?_;rintro e a' w' ⟨rfl,h1,h2,h3⟩;exact next a' w' h1 h2 h3
end
def aVb (S:List Int->Prop)(w:World)(e:Ending)(w':World):Prop:=∃ l A c,e=.returned (.slice A l.length c)∧aU w' (fun b=>w.heap.size<=b) (.slice A l.length c) l∧S l∧Ext w w'
theorem DgD.ints {w:World}{base:Nat}{v:Value}{l:List Int}(hD:DgD l)(h:w.ownsRow base 3 1 v l.length (l.map (Value.int .i64)))(hl:l.length<=1000000):∃ A c,v=.slice A l.length c∧aU w (fun b=>base<=b) v l:=by
 obtain ⟨A,c,rfl,-,-,-⟩:=Sl.of_own h;exact ⟨A,c,rfl,aU.of_own h (fun x hx=>by have:=hD x hx;unfold I64;omega) U (fun b hb=>h.block_ge hb)⟩
section
variable {w:World}{P:Nat->Prop}{v vb:Value}{x y:List Int}
noncomputable def aF7:=RG Tryz.f223
noncomputable abbrev aWj:Code:=.seq (aF7 0) (.seq (aF7 1) (.seq (aF7 2) (.seq (.seq (aF7 3) (.block 0 (.loop (.seq (.seq (aF7 4) (.cond (.tmp 22) .skip (.exit 0))) (.seq (.block 1 (.seq (aF7 6) (.seq (aF7 7) (aF7 8)))) (aF7 5)))))) (.seq (aF7 9) .ret))))
theorem aXe:Tryz.f223.body=some aWj:=aa
theorem aGy {P':Nat->Prop}(hl:aU w P v x)(hb:aU w P' vb y)(ha:DgD x)(hb':DgD y)(hn:x.length+y.length<=1000):Calls Tryz.prog 223 #[v,vb] w (aVb (fun l=>DgD l∧vlD l=vlD x+vlD y) w):=by
 refine cI Tryz.func223 aXe rfl Y (fun a Q sz df ea hQ=>?_);obtain ⟨A,c,rfl,-,-⟩:=hl.form;obtain ⟨B,c',rfl,-,-⟩:=hb.form;have e0:=ea 0 (.slice A x.length c) rfl;have e1:=ea 1 (.slice B y.length c') rfl;refine wp_seq (rW ?_);refine lv ?_;refine lN a [0,1] ?_;intro a1 u1
 replace sz:=u1.sz.trans sz
 replace df:=u1.df.trans df
 replace e0:=u1.get 0 e0
 replace e1:=u1.get 1 e1
 refine wp_seq (rW ?_);refine lv ?_;refine lE a1 [0,1] 5 ?_;intro a2 u2 e5
 replace sz:=u2.sz.trans sz
 replace df:=u2.df.trans df
 replace e0:=u2.get 0 e0
 replace e1:=u2.get 1 e1
 refine wp_seq (rW ?_);refine lv ?_;refine lE a2 [0,1,5] 6 ?_;intro a3 u3 e6
 replace sz:=u3.sz.trans sz
 replace df:=u3.df.trans df
 replace e0:=u3.get 0 e0
 replace e1:=u3.get 1 e1
 replace e5:=u3.get 5 e5
 refine wp_seq (wp_seq (rW ?_));refine lv ?_;refine lE a3 [0,1,5,6] 7 ?_;intro a4 u4 e7
 replace sz:=u4.sz.trans sz
 replace df:=u4.df.trans df
 replace e0:=u4.get 0 e0
 replace e1:=u4.get 1 e1
 replace e5:=u4.get 5 e5
 replace e6:=u4.get 6 e6
 refine wp_block (wp_loop (fun f' w'=>∃ (k:Nat) (cy:Int) (out:List Int) (v:Value),Ag [0,1] a4 f'∧(0<=cy∧cy<=1)∧Ev f' (.tmp 7)=↑(k:Int)∧Ev f' (.tmp 6)=↑cy∧Ev f' (.tmp 5)=v∧out.length=k∧w'.ownsRow w.heap.size 3 1 v k (out.map (Value.int .i64))∧DgD out∧vlD out+10000 ^ k*(cy+vlD (x.drop k)+vlD (y.drop k))=vlD x+vlD y∧(k<=x.length+y.length∨cy=0)∧k<=x.length+y.length+1∧Ext w w') (fun f' _=>x.length+y.length+2 - (intOf (Ev f' (.tmp 7))).toNat) ⟨0,0,[],_,.rf,U,e7,e6,e5,rfl,aN _ _ _ _,.nil,fv,U,U,.refl _⟩ ?_);clear e5 e6 e7;rintro a5 w5 ⟨k,cy,out,v,u5,hcy,e7,e6,e5,hlen,hown,hD,hv,hor,hk,hx⟩
 replace sz:=u5.sz.trans sz
 replace df:=u5.df.trans df
 replace e0:=u5.get 0 e0
 replace e1:=u5.get 1 e1
 refine wp_seq (wp_seq (wp_mono (Q:=fun e f' w'=>e=.normal∧w'=w5∧Ag [0,1,5,6,7] a5 f'∧∃ t,Ev f' (.tmp 22)=.bool t∧(t=true ↔ k<x.length∨k<y.length∨0<cy)) (rW ?_) ?_))
 ·by_cases h1:k<x.length
  ·iterate 5 refine lv ?_
   iterate 4 refine ln ?_
   iterate 2 refine lv ?_
   iterate 2 refine ln ?_
   refine lv ?_;refine lE a5 [0,1,5,6,7] 22 ?_;intro a6 u6 e22;exact ⟨rfl,rfl,u6,_,e22,il⟩
  ·iterate 5 refine lv ?_
   iterate 4 refine ly ?_
   iterate 2 refine lv ?_
   by_cases h2:k<y.length
   ·iterate 2 refine ln ?_
    refine lv ?_;refine lE a5 [0,1,5,6,7] 22 ?_;intro a6 u6 e22;exact ⟨rfl,rfl,u6,_,e22,by simp [h2]⟩
   ·iterate 2 refine ly ?_
    refine lv ?_;refine lE a5 [0,1,5,6,7] 22 ?_;intro a6 u6 e22;exact ⟨rfl,rfl,u6,_,e22,by simp [h1,h2]⟩
 rintro e a6 w6 ⟨rfl,rfl,u6,t,e22,ht⟩
 replace sz:=u6.sz.trans sz
 replace df:=u6.df.trans df
 replace e0:=u6.get 0 e0
 replace e1:=u6.get 1 e1
 have g5:=u6.get 5 e5;have g6:=u6.get 6 e6;have g7:=u6.get 7 e7;have hxs:=hx.size
 cases t
 ·refine wp_cond_false e22 (wp_exit (wp_seq (rW ?_)))
  have hno:¬ (k<x.length∨k<y.length∨0<cy):=fun h=>by simpa using ht.2 h
  iterate 2 refine lv ?_
  refine lE a6 [] 4 ?_;intro a7 u7 e4;obtain ⟨A',c2,rfl,hI⟩:=hD.ints (hown.len_cast hlen.symm rfl) U;rw [List.drop_eq_nil_of_le U,List.drop_eq_nil_of_le U,show cy=0 by omega] at hv;exact wp_ret (hQ _ _ _ (u7.df.trans df) (by simp [results,Tryz.results223,go_sem,evT e4];try rfl) ⟨out,A',c2,rfl,hI,⟨hD,by simpa [vlD] using hv⟩,hx⟩)
 ·refine wp_cond_true e22 (wp_skip (wp_seq (wp_block (wp_seq (rW ?_)))))
  have h1:=ht.1 rfl;have hk1:k<=x.length+y.length:=by omega
  have d1:=ha.at_ k;have d2:=hb'.at_ k;have z1:x.length<=k->x.getD k 0=0:=fun h=>by simp [List.getD,List.getElem?_eq_none h]
  have z2:y.length<=k->y.getD k 0=0:=fun h=>by simp [List.getD,List.getElem?_eq_none h]
  have s1:=fZ x k;have s2:=fZ y k
  iterate 2 refine lv ?_
  refine lc Tryz.func224 (aBb (i:=k) (hl.ext hx) U) ?_;rintro e w7 ⟨rfl,rfl⟩;refine ⟨_,rfl,?_⟩
  iterate 2 refine lv ?_
  refine lc Tryz.func224 (aBb (i:=k) (hb.ext hx) U) ?_;rintro e w8 ⟨rfl,rfl⟩;refine ⟨_,rfl,?_⟩;generalize hd1:x.getD k 0=d at *;generalize hd2:y.getD k 0=d' at *
  iterate 4 refine lv ?_
  refine lE a6 [0,1,5,6,7] 8 ?_;intro a7 u7 e8
  replace sz:=u7.sz.trans sz
  replace g5:=u7.get 5 g5
  refine wp_seq (rW ?_)
  iterate 4 refine lv ?_
  refine la Tryz.underlying22 Tryz.info3 (hown.alloc _) (T:=fun _=>True) (Sl.new w8 _ _ 1 1 rfl) U U ab af ?_;intro v9 w9 ho9 hf9 _;refine lv ?_;refine lE a7 [0,1,7,8] 5 ?_;intro a8 u8 g5'
  replace sz:=u8.sz.trans sz
  replace e8:=u8.get 8 e8
  refine rW ?_
  iterate 3 refine lv ?_
  refine lE a8 [0,1,5,7] 6 ?_;intro a9 u9 g6'
  replace sz:=u9.sz.trans sz
  replace g7:=u9.get 7 (u8.get 7 (u7.get 7 g7))
  refine rW ?_
  iterate 3 refine lv ?_
  refine lE a9 [0,1,5,6] 7 ?_;intro a10 u10 g7';refine ⟨⟨k+1,_,out ++ [(d+d'+cy) % 10000],v9,((((u5.trans (u6.mono rfl)).trans (u7.mono rfl)).trans (u8.mono rfl)).trans (u9.mono rfl)).trans (u10.mono rfl),?_,by simpa using g7',u10.get 6 g6',u10.get 5 (u9.get 5 g5'),by simp [hlen],ho9.len_cast rfl Y,hD.snoc,sL hlen hv U,U,U,Fr.new_ext ((Fr.of_ext (hx.alloc' _)).trans hf9) (fun b hb=>hown.block_ge hb.symm)⟩,?_⟩
  ·omega
  ·rw [g7',e7]
   simp [intOf];omega
noncomputable def zN:=RG Tryz.f211
noncomputable abbrev aWr:Code:=.seq (zN 0) (.seq (zN 1) (.seq (zN 2) (.seq (.seq (zN 3) (.block 0 (.loop (.seq (.seq (zN 4) (.cond (.tmp 12) .skip (.exit 0))) (.seq (.block 1 (.seq (zN 6) (.seq (zN 7) (.seq (.seq (zN 8) (.cond (.tmp 25) (.seq (zN 9) (zN 10)) .skip)) (zN 11))))) (zN 5)))))) (.seq (zN 12) .ret))))
theorem aXm:Tryz.f211.body=some aWr:=aa
theorem wH {P':Nat->Prop}(hl:aU w P v x)(hb:aU w P' vb y)(ha:DgD x)(hb':DgD y)(hn:x.length<=1000)(hle:vlD y<=vlD x):Calls Tryz.prog 211 #[v,vb] w (aVb (fun l=>DgD l∧vlD l=vlD x - vlD y) w):=by
 refine cI Tryz.func211 aXm rfl Y (fun a Q sz df ea hQ=>?_);obtain ⟨A,c,rfl,-,-⟩:=hl.form;obtain ⟨B,c',rfl,-,-⟩:=hb.form;have e0:=ea 0 (.slice A x.length c) rfl;have e1:=ea 1 (.slice B y.length c') rfl;refine wp_seq (rW ?_);refine lv ?_;refine lN a [0,1] ?_;intro a1 u1
 replace sz:=u1.sz.trans sz
 replace df:=u1.df.trans df
 replace e0:=u1.get 0 e0
 replace e1:=u1.get 1 e1
 refine wp_seq (rW ?_);refine lv ?_;refine lE a1 [0,1] 5 ?_;intro a2 u2 e5
 replace sz:=u2.sz.trans sz
 replace df:=u2.df.trans df
 replace e0:=u2.get 0 e0
 replace e1:=u2.get 1 e1
 refine wp_seq (rW ?_);refine lv ?_;refine lE a2 [0,1,5] 6 ?_;intro a3 u3 e6
 replace sz:=u3.sz.trans sz
 replace df:=u3.df.trans df
 replace e0:=u3.get 0 e0
 replace e1:=u3.get 1 e1
 replace e5:=u3.get 5 e5
 refine wp_seq (wp_seq (rW ?_));refine lv ?_;refine lE a3 [0,1,5,6] 7 ?_;intro a4 u4 e7
 replace sz:=u4.sz.trans sz
 replace df:=u4.df.trans df
 replace e0:=u4.get 0 e0
 replace e1:=u4.get 1 e1
 replace e5:=u4.get 5 e5
 replace e6:=u4.get 6 e6
 refine wp_block (wp_loop (fun f' w'=>∃ (k:Nat) (cy:Int) (out:List Int) (v:Value),Ag [0,1] a4 f'∧(0<=cy∧cy<=1)∧Ev f' (.tmp 7)=↑(k:Int)∧Ev f' (.tmp 6)=↑cy∧Ev f' (.tmp 5)=v∧out.length=k∧w'.ownsRow w.heap.size 3 1 v k (out.map (Value.int .i64))∧DgD out∧vlD out+10000 ^ k*(vlD (x.drop k) - vlD (y.drop k) - cy)=vlD x - vlD y∧k<=x.length∧Ext w w') (fun f' _=>x.length - (intOf (Ev f' (.tmp 7))).toNat) ⟨0,0,[],_,.rf,U,e7,e6,e5,rfl,aN _ _ _ _,.nil,fv,U,.refl _⟩ ?_);clear e5 e6 e7;rintro a5 w5 ⟨k,cy,out,v,u5,hcy,e7,e6,e5,hlen,hown,hD,hv,hk,hx⟩
 replace sz:=u5.sz.trans sz
 replace df:=u5.df.trans df
 replace e0:=u5.get 0 e0
 replace e1:=u5.get 1 e1
 have hxs:=hx.size;refine wp_seq (wp_seq (rW ?_))
 iterate 4 refine lv ?_
 refine lE a5 [0,1,5,6,7] 12 ?_;intro a6 u6 e12
 replace sz:=u6.sz.trans sz
 replace df:=u6.df.trans df
 replace e0:=u6.get 0 e0
 replace e1:=u6.get 1 e1
 have g5:=u6.get 5 e5;have g6:=u6.get 6 e6;have g7:=u6.get 7 e7
 by_cases hlt:k<x.length
 ·refine wp_cond_true (e12.trans ar) (wp_skip (wp_seq (wp_block (wp_seq (rW ?_)))))
  have d1:=ha.at_ k;have d2:=hb'.at_ k;have s1:=fZ x k;have s2:=fZ y k
  iterate 2 refine lv ?_
  refine lc Tryz.func224 (aBb (i:=k) (hl.ext hx) U) ?_;rintro e w7 ⟨rfl,rfl⟩;refine ⟨_,rfl,?_⟩
  iterate 2 refine lv ?_
  refine lc Tryz.func224 (aBb (i:=k) (hb.ext hx) U) ?_;rintro e w8 ⟨rfl,rfl⟩;refine ⟨_,rfl,?_⟩;generalize hd1:x.getD k 0=d at *;generalize hd2:y.getD k 0=d' at *
  iterate 4 refine lv ?_
  refine lE a6 [0,1,5,7] 8 ?_;intro a7 u7 e8
  replace sz:=u7.sz.trans sz
  refine wp_seq (rW ?_);refine lv ?_;refine lE a7 [0,1,5,7,8] 6 ?_;intro a8 u8 h6
  replace sz:=u8.sz.trans sz
  replace e8:=u8.get 8 e8
  refine wp_seq (wp_seq (rW ?_))
  iterate 2 refine lv ?_
  refine lE a8 [0,1,5,6,7,8] 25 ?_;intro a9 u9 e25
  replace sz:=u9.sz.trans sz
  replace e8:=u9.get 8 e8
  replace h6:=u9.get 6 h6
  have last:∀ (a10:Act) (br z:Int),Ag [0,1,5,7] a9 a10->Ev a10 (.tmp 6)=↑br->Ev a10 (.tmp 8)=↑z->0<=z->z<10000->Code.wp Tryz.prog (zN 11) (fun e f' w'=>e=.normal∧∃ v',Ag [0,1,7] a9 f'∧Ev f' (.tmp 6)=↑br∧Ev f' (.tmp 5)=v'∧w'.ownsRow w.heap.size 3 1 v' (k+1) ((out ++ [z]).map (Value.int .i64))∧DgD (out ++ [z])∧Ext w w') a10 w8:=by
   intro a10 br z u10 e6' e8' z0 z1
   replace sz:=u10.sz.trans sz
   have f5:=u10.get 5 (u9.get 5 (u8.get 5 (u7.get 5 g5)));refine rW ?_
   iterate 3 refine lv ?_
   refine la Tryz.underlying22 Tryz.info3 (hown.alloc _) (T:=fun _=>True) (Sl.new w8 _ _ 1 1 rfl) U U ab af ?_;intro v9 w9 ho9 hf9 _;refine lv ?_;refine lE2 a10 [0,1,7] 6 5 ?_;intro a11 u11 k6 k5;exact ⟨rfl,v9,(u10.mono rfl).trans u11,k6,k5,ho9.len_cast rfl Y,hD.app (.one z0 z1),Fr.new_ext ((Fr.of_ext (hx.alloc' _)).trans hf9) (fun b hb=>hown.block_ge hb.symm)⟩
  have fin:∀ (a10:Act) (w10:World) (br z:Int) (v':Value),Ag [0,1,7] a9 a10->Ev a10 (.tmp 6)=↑br->Ev a10 (.tmp 5)=v'->w10.ownsRow w.heap.size 3 1 v' (k+1) ((out ++ [z]).map (Value.int .i64))->DgD (out ++ [z])->Ext w w10->0<=br->br<=1->z=d - d' - cy+10000*br->Code.wp Tryz.prog (zN 5) (fun e f' w'=>e=.normal∧(∃ (k:Nat) (cy:Int) (out:List Int) (v:Value),Ag [0,1] a4 f'∧(0<=cy∧cy<=1)∧Ev f' (.tmp 7)=↑(k:Int)∧Ev f' (.tmp 6)=↑cy∧Ev f' (.tmp 5)=v∧out.length=k∧w'.ownsRow w.heap.size 3 1 v k (out.map (Value.int .i64))∧DgD out∧vlD out+10000 ^ k*(vlD (x.drop k) - vlD (y.drop k) - cy)=vlD x - vlD y∧k<=x.length∧Ext w w')∧Ev f' (.tmp 7)=.int .i64 ((k:Int)+1)) a10 w10:=by
   intro a10 w10 br z v' u10 k6 k5 ho hd' hx' b0 b1 hz
   replace sz:=u10.sz.trans sz
   have k7:=u10.get 7 (u9.get 7 (u8.get 7 (u7.get 7 g7)));refine rW ?_
   iterate 3 refine lv ?_
   refine lE a10 [0,1,5,6] 7 ?_;intro a11 u11 k7';exact ⟨rfl,⟨k+1,br,out ++ [z],v',((((u5.trans (u6.mono rfl)).trans (u7.mono rfl)).trans (u8.mono rfl)).trans (u9.mono rfl)).trans ((u10.mono rfl).trans (u11.mono rfl)),⟨b0,b1⟩,by simpa using k7',u11.get 6 k6,u11.get 5 k5,by simp [hlen],ho,hd',sL hlen hv U,hlt,hx'⟩,k7'⟩
  by_cases hneg:d - d' - cy<0
  ·refine wp_cond_true (e25.trans ab) (wp_seq (rW ?_))
   iterate 3 refine lv ?_
   refine lE a9 [0,1,5,7] 8 ?_;intro a10 u10 h8;have sz':=u10.sz.trans sz;refine rW ?_;refine lv ?_;refine lE a10 [0,1,5,7,8] 6 ?_;intro a11 u11 h6';refine wp_mono (last a11 1 (d - d' - cy+10000) ((u10.mono rfl).trans (u11.mono rfl)) h6' (u11.get 8 h8) U U) ?_;rintro e a12 w12 ⟨rfl,v',u12,k6,k5,ho,hd',hx'⟩;refine wp_mono (fin a12 w12 _ _ v' u12 k6 k5 ho hd' hx' U U U) ?_;rintro e a13 w13 ⟨rfl,h,h7⟩;refine ⟨h,?_⟩;rw [h7,e7];simp [intOf];omega
  ·refine wp_cond_false (e25.trans ab) (wp_skip ?_)
   refine wp_mono (last a9 0 (d - d' - cy) .rf h6 e8 U U) ?_;rintro e a12 w12 ⟨rfl,v',u12,k6,k5,ho,hd',hx'⟩;refine wp_mono (fin a12 w12 _ _ v' u12 k6 k5 ho hd' hx' U U U) ?_;rintro e a13 w13 ⟨rfl,h,h7⟩;refine ⟨h,?_⟩;rw [h7,e7];simp [intOf];omega
 ·refine wp_cond_false (e12.trans ab) (wp_exit (wp_seq (rW ?_)))
  iterate 2 refine lv ?_
  refine lE a6 [] 4 ?_;intro a7 u7 e4;obtain ⟨A',c2,rfl,hI⟩:=hD.ints (hown.len_cast hlen.symm rfl) U;rw [show x.drop k=[] from List.drop_eq_nil_of_le U] at hv;have hend:=aD0 hD hb' hlen hcy.1 U hv;exact wp_ret (hQ _ _ _ (u7.df.trans df) (by simp [results,Tryz.results211,go_sem,evT e4];try rfl) ⟨out,A',c2,rfl,hI,⟨hD,hend⟩,hx⟩)
end
theorem xI (w:World)(t1 t2:TypeId)(c1 c2:Array Value):Blk ((w.alloc (.cells c1 t1)).alloc (.cells c2 t2)) w.heap.size t1 c1∧Blk ((w.alloc (.cells c1 t1)).alloc (.cells c2 t2)) (w.heap.size+1) t2 c2∧Ext w ((w.alloc (.cells c1 t1)).alloc (.cells c2 t2))∧((w.alloc (.cells c1 t1)).alloc (.cells c2 t2)).heap.size=w.heap.size+2 :=
 ⟨(Blk.new w t1 c1).alloc _,Blk.new' _ t2 c2 Y,((Ext.refl w).alloc' _).alloc' _,Y⟩
theorem aFh (w:World)(t1 t2 t3:TypeId)(c1 c2 c3:Array Value):Blk (((w.alloc (.cells c1 t1)).alloc (.cells c2 t2)).alloc (.cells c3 t3)) w.heap.size t1 c1∧Blk (((w.alloc (.cells c1 t1)).alloc (.cells c2 t2)).alloc (.cells c3 t3)) (w.heap.size+1) t2 c2∧Blk (((w.alloc (.cells c1 t1)).alloc (.cells c2 t2)).alloc (.cells c3 t3)) (w.heap.size+1+1) t3 c3∧Ext w (((w.alloc (.cells c1 t1)).alloc (.cells c2 t2)).alloc (.cells c3 t3))∧(((w.alloc (.cells c1 t1)).alloc (.cells c2 t2)).alloc (.cells c3 t3)).heap.size=w.heap.size+3 :=
 ⟨((Blk.new w t1 c1).alloc _).alloc _,(Blk.new' _ t2 c2 Y).alloc _,Blk.new' _ t3 c3 Y,(((Ext.refl w).alloc' _).alloc' _).alloc' _,Y⟩
section
variable {w:World}{P P':Nat->Prop}{u u':Value}{m n:Int}
theorem NI.pos (h:NI w P u n)(h0:0<=n):∃ l A c,u=.agg #[.bool false,.slice A l.length c]∧aU w P (.slice A l.length c) l∧IsD n l:=by
 obtain ⟨l,A,c,rfl,hl,hd⟩:=h;refine ⟨l,A,c,?_,hl,by rwa [show ((n.natAbs:Nat):Int)=n by omega] at hd⟩;rw [show decide (n<0)=false by simp;omega]
theorem NI.of_pos {l:List Int}{A:Option Addr}{c:Nat}(hl:aU w P (.slice A l.length c) l)(hd:IsD n l):NI w P (.agg #[.bool false,.slice A l.length c]) n:=by
 have:=hd.nonneg;refine ⟨l,A,c,?_,hl,by rwa [show ((n.natAbs:Nat):Int)=n by omega]⟩;rw [show decide (n<0)=false by simp;omega]
noncomputable def aJg:=RG Tryz.f194
noncomputable abbrev aWw:Code:=.seq (aJg 0) (.seq (.seq (aJg 1) (.cond (.tmp 9) (.seq (.seq (aJg 2) (.cond (.tmp 11) (.seq (aJg 3) .ret) .skip)) (.seq (aJg 4) .ret)) .skip)) (.seq (.seq (aJg 5) (.cond (.tmp 13) (.seq (aJg 6) .ret) .skip)) (.seq (aJg 7) .ret)))
theorem aXr:Tryz.f194.body=some aWw:=aa
theorem lB (h1:NI w P u m)(h2:NI w P' u' n)(h0:0<=m):Calls Tryz.prog 194 #[u,u'] w fun e w'=>e=.returned (.int .i64 (rX m n))∧Ext w w':=by
 refine cI Tryz.func194 aXr rfl Y (fun a Q sz df ea hQ=>?_);obtain ⟨l,A,c,rfl,hl,hd⟩:=h1.pos h0;obtain ⟨l',A',c',rfl,hl',hd'⟩:=h2;generalize hz:decide (n<0)=z at *;obtain ⟨b1,b2,x0,-⟩:=xI w 223 223 #[.bool false,.slice A l.length c] #[.bool z,.slice A' l'.length c'];refine wp_seq (rW ?_)
 iterate 3 refine lv ?_
 generalize (w.alloc (.cells #[.bool false,.slice A l.length c] 223)).alloc (.cells #[.bool z,.slice A' l'.length c'] 223)=W at *;refine lE2 a [] 2 3 ?_;intro a1 u1 e2 e3
 replace sz:=u1.sz.trans sz
 replace df:=u1.df.trans df
 have c1:=b1.cell;have c2:=b2.cell;refine wp_seq (wp_seq (rW ?_))
 iterate 5 refine lv ?_
 refine lE a1 [2,3] 9 ?_;intro a2 u2 e9
 replace sz:=u2.sz.trans sz
 replace df:=u2.df.trans df
 replace e2:=u2.get 2 e2
 replace e3:=u2.get 3 e3
 by_cases hn:n<0
 ·refine wp_cond_true (e9.trans (by simp [<- hz,hn])) (wp_seq (wp_seq (rW ?_)))
  iterate 2 refine lv ?_
  refine lE a2 [] 11 ?_;intro a3 u3 e11;refine wp_cond_false e11 (wp_skip (wp_seq (rW ?_)));have sz3:=u3.sz.trans sz;refine lv ?_;refine lE a3 [] 4 ?_;intro a4 u4 e4;exact wp_ret (hQ _ _ _ (u4.df.trans (u3.df.trans df)) (by simp [results,Tryz.results194,go_sem,evT e4];try rfl) ⟨by simp [rX,show ¬ m<n by omega,show n<m by omega],x0⟩)
 ·refine wp_cond_false (e9.trans (by simp [<- hz,hn])) (wp_skip (wp_seq (wp_seq (rW ?_))))
  iterate 2 refine lv ?_
  refine lE a2 [2,3] 13 ?_;intro a3 u3 e13
  replace sz:=u3.sz.trans sz
  replace df:=u3.df.trans df
  replace e2:=u3.get 2 e2
  replace e3:=u3.get 3 e3
  refine wp_cond_false e13 (wp_skip (wp_seq (rW ?_)))
  iterate 4 refine lv ?_
  refine lc Tryz.func215 (jX (hl.ext x0) (hl'.ext x0) hd hd') ?_;rintro e w5 ⟨rfl,hx5⟩;refine ⟨_,rfl,?_⟩;refine lv ?_;refine lE a3 [] 4 ?_;intro a4 u4 e4;rw [show ((n.natAbs:Nat):Int)=n by omega] at e4;exact wp_ret (hQ _ _ _ (u4.df.trans df) (by simp [results,Tryz.results194,go_sem,evT e4];try rfl) ⟨rfl,x0.trans' hx5⟩)
noncomputable def aVe:=RG Tryz.f212
noncomputable abbrev aWq:Code:=.seq (aVe 0) (.seq (aVe 1) .ret)
theorem aXl:Tryz.f212.body=some aWq:=aa
theorem aK8 (h1:NI w P u n)(h0:0<=n):Calls Tryz.prog 212 #[u] w fun e w'=>∃ u',e=.returned u'∧NI w' P u' (-n)∧Ext w w':=by
 refine cI Tryz.func212 aXl rfl Y (fun a Q sz df ea hQ=>?_);obtain ⟨l,A,c,rfl,hl,hd⟩:=h1.pos h0;obtain ⟨b1,b2,x0,s0⟩:=xI w 223 223 #[.bool false,.slice A l.length c] #[.bool false,.slice none 0 0];refine wp_seq (rW ?_)
 iterate 2 refine lv ?_
 generalize (w.alloc (.cells #[.bool false,.slice A l.length c] 223)).alloc (.cells #[.bool false,.slice none 0 0] 223)=W at *;refine lE2 a [] 1 2 ?_;intro a1 u1 e1 e2
 replace sz:=u1.sz.trans sz
 replace df:=u1.df.trans df
 have c1:=b1.cell;have hI:aU W (fun b=>b<w.heap.size∧P b) (.slice A l.length c) l:=hl.carry (aB.of_ext x0) (fun b hb h=>⟨hb,h⟩);refine wp_seq (rW ?_)
 iterate 5 refine lv ?_
 refine lc Tryz.func195 (dM true hI) ?_;intro e w5 hR;obtain ⟨k,A',c',hk,rfl,hI',hd',hx5⟩:=hR;refine ⟨_,rfl,?_⟩;have h3:=hd' hd.1;rw [hd.2.1] at h3
 have hN:NI w5 (fun b=>b<w.heap.size∧P b) (.agg #[.bool (true && decide (0<k)),.slice A' k c']) (-n):=by
  have hlk:(l.take k).length=k:=aq
  refine ⟨l.take k,A',c',?_,by rw [hlk];exact hI',by rw [show (((-n).natAbs:Nat):Int)=n by omega];exact h3⟩;rw [hlk]
  congr 2
  by_cases hk0:k=0
  ·subst hk0
   have:=h3.2.1;simp [vlD] at this;simp [show n=0 by omega]
  ·have h4:=h3.pos U
   have h5:=iR ((l.take k).length - 1);simp [show 0<k by omega,show 0<n by omega]
 generalize (true && decide (0<k))=z0 at *;have B5:=b2.ext hx5;obtain ⟨z,A2,k2,c2,e,hN',hb',hE⟩:=hN.box (Q:=P) (fun b hb=>by omega) (fun b hb=>hb.2) B5 (x0.trans' hx5) U;injection e with e;have e:=congrArg Array.toList e;simp only [List.cons.injEq,Value.bool.injEq,Value.slice.injEq,and_true] at e;obtain ⟨rfl,rfl,rfl,rfl⟩:=e;refine ls (w1:=w5.setCells (w.heap.size+1) 0 [.bool z0,.slice A' k c']) ?_ rfl rfl (by simp [execOp,go_sem,B5.cell,B5.frozen,sz,e2,World.setCells]);refine lE a1 [] 2 ?_;intro a2 u2 f2;have hb:=hb'.cell;exact wp_ret (hQ _ _ _ (u2.df.trans df) (by simp [results,Tryz.results212,go_sem,evT f2,hb];try rfl) ⟨_,rfl,hN',hE⟩)
theorem aEz:rX m n<0 ↔ m<n:=by unfold rX;split <;> (try split) <;> omega
theorem aLo:rX m n<=0 ↔ m<=n:=by unfold rX;split <;> (try split) <;> omega
theorem IsD.few {l:List Int}(h:IsD n l)(hn:n<10000 ^ 100):l.length<=100:=h.len_le hn
noncomputable def aMq:=RG Tryz.f210
noncomputable abbrev aWs:Code:=.seq (aMq 0) (.seq (.seq (aMq 1) (.cond (.tmp 9) (.seq (aMq 2) .ret) .skip)) (.seq (.seq (aMq 3) (.cond (.tmp 23) (.seq (aMq 4) .ret) .skip)) (.seq (aMq 5) .ret)))
theorem aXn:Tryz.f210.body=some aWs:=aa
theorem uM (h1:NI w P u m)(h2:NI w P' u' n)(h0:0<=m)(hn:0<=n∨-n<=m)(hm:m<10000 ^ 100)(hn2:n<10000 ^ 100):Calls Tryz.prog 210 #[u,u'] w (aL6 w (fun _=>False) (m+n)):=by
 refine cI Tryz.func210 aXn rfl Y (fun a Q sz df ea hQ=>?_);obtain ⟨l,A,c,rfl,hl,hd⟩:=h1.pos h0;obtain ⟨l',A',c',rfl,hl',hd'⟩:=h2;have hfew:=hd.few hm;have hfew':=hd'.few U;generalize hz:decide (n<0)=z at *;obtain ⟨b1,b2,b3,x0,s0⟩:=aFh w 223 223 223 #[.bool false,.slice A l.length c] #[.bool z,.slice A' l'.length c'] #[.bool false,.slice none 0 0];refine wp_seq (rW ?_)
 iterate 3 refine lv ?_
 generalize ((w.alloc (.cells #[.bool false,.slice A l.length c] 223)).alloc (.cells #[.bool z,.slice A' l'.length c'] 223)).alloc (.cells #[.bool false,.slice none 0 0] 223)=W at *;have hl1:=hl.ext x0;have hl2:=hl'.ext x0
 have fin:∀ (a5:Act) (w5 w6:World) (e:Ending) (k:List Int),a5.defers=[]->a5.tmps.size=Tryz.f210.ntmps->Ev a5 (.tmp 4)=.pointer (some ⟨w.heap.size+1+1,0,none⟩)->jZ false k (fun b=>W.heap.size<=b) w5 e w6->DgD k->vlD k=m+n->Ext W w5->∃ z' A k' c',e=.returned (.agg #[.bool z',.slice A k' c'])∧Ext W w6∧∀ a6,Ag [4] a5 a6->∀ Q':Exit->Act->World->Prop,(∀ a w,Q .ret a w->Q' .ret a w)->Code.wp Tryz.prog .ret Q' a6 (w6.setCells (w.heap.size+1+1) 0 [.bool z',.slice A k' c']):=by
  intro a5 w5 w6 e k df5 sz5 e4 hR hD hv hx5;have hpos:0<=m+n:=by omega
  obtain ⟨u,rfl,hN,hx6⟩:=jZ.ni (n:=m+n) (by rwa [show decide (m+n<0)=false by simp;omega]) hD U;have B6:=b3.ext (hx5.trans' hx6);obtain ⟨z',A2,k2,c2,rfl,hN',hb',hE⟩:=hN.box (Q:=New (fun _=>False) w.heap.size) (fun b hb=>by omega) (fun b hb=>.inr U) B6 ((x0.trans' hx5).trans' hx6) U;refine ⟨z',A2,k2,c2,rfl,hx5.trans' hx6,fun a6 u6 Q' hQ'=>?_⟩;have f4:=u6.get 4 e4;have hb:=hb'.cell;exact wp_ret (hQ' _ _ (hQ _ _ _ (u6.df.trans df5) (by simp [results,Tryz.results210,go_sem,evT f4,hb];try rfl) ⟨_,rfl,hN',hE⟩))
 refine lE3 a [] 2 3 4 ?_;intro a1 u1 e2 e3 e4
 replace sz:=u1.sz.trans sz
 replace df:=u1.df.trans df
 have c1:=b1.cell;have c2:=b2.cell;refine wp_seq (wp_seq (rW ?_))
 iterate 5 refine lv ?_
 refine lE a1 [2,3,4] 9 ?_;intro a2 u2 e9
 replace sz:=u2.sz.trans sz
 replace df:=u2.df.trans df
 replace e2:=u2.get 2 e2
 replace e3:=u2.get 3 e3
 replace e4:=u2.get 4 e4
 have hS0:∀ w',Ext W w'->w'.cell? ⟨w.heap.size,0,none⟩=some (.bool false)∧w'.cell? ⟨w.heap.size,1,none⟩=some (.slice A l.length c)∧w'.cell? ⟨w.heap.size+1,1,none⟩=some (.slice A' l'.length c'):=fun w' hx=>⟨(b1.ext hx).cell' 0 rfl,(b1.ext hx).cell' 1 rfl,(b2.ext hx).cell' 1 rfl⟩
 by_cases hn0:n<0
 ·refine wp_cond_false (e9.trans (by simp [<- hz,hn0])) (wp_skip (wp_seq (wp_seq (rW ?_))))
  iterate 4 refine lv ?_
  refine lc Tryz.func215 (jX hl1 hl2 hd hd') ?_;rintro e w5 ⟨rfl,hx5⟩;refine ⟨_,rfl,?_⟩;refine lv ?_;refine lE a2 [2,3,4] 23 ?_;intro a3 u3 e23
  replace sz:=u3.sz.trans sz
  replace df:=u3.df.trans df
  replace e2:=u3.get 2 e2
  replace e3:=u3.get 3 e3
  replace e4:=u3.get 4 e4
  have hle:((n.natAbs:Nat):Int)<=m:=U
  refine wp_cond_false (e23.trans (by simp [aEz];omega)) (wp_skip (wp_seq ?_));have hx0:Ext W w5.drew:=hx5.drew';have hS:=hS0 _ hx0;refine rD (fun w'=>w'.cell? ⟨w.heap.size,0,none⟩=some (.bool false)∧w'.cell? ⟨w.heap.size,1,none⟩=some (.slice A l.length c)∧w'.cell? ⟨w.heap.size+1,1,none⟩=some (.slice A' l'.length c')) (fun q=>q != 8) 9 ?_;refine dt 3 [0,1,2,3,4,5] ?_
  iterate 6 refine tv ?_
  refine t_e ?_;refine dc 6 Tryz.func211 (wH (hl1.ext hx0) (hl2.ext hx0) hd.1 hd'.1 U (by rw [hd.2.1,hd'.2.1];exact hle)) ?_;rintro e w6 ⟨k,A5,c5,rfl,hI,⟨hD,hv⟩,hx6⟩;refine ⟨_,rfl,fun _=>hS0 _ (hx0.trans' hx6),?_⟩;refine dc 7 Tryz.func195 (dM false hI) ?_;intro e w7 hR;have hs5:=hx5.size
  obtain ⟨z',A7,k7,c7,rfl,hx7,hfin⟩:=fin a3 w6 w7 e k df sz e4 (by
   obtain ⟨m',B,d,h1,h2,h3,h4,h5⟩:=hR;exact ⟨m',B,d,h1,h2,h3.carry (fun _ _ _=>rfl) (fun b _ hb=>by have hb:w5.drew.heap.size<=b:=hb;have:w5.drew.heap.size=w5.heap.size:=rfl;omega),h4,h5⟩) hD (by rw [hv,hd.2.1,hd'.2.1];omega) (hx0.trans' hx6)
  refine ⟨_,rfl,fun _=>hS0 _ hx7,?_⟩;have B7:=b3.ext hx7;refine dq 8 (w1:=w7.setCells (w.heap.size+1+1) 0 [.bool z',.slice A7 k7 c7]) ?_ (hrun:=by simp [execOp,go_sem,B7.cell,B7.frozen,sz,e4,World.setCells]);refine d_E a3 [4] ?_;exact fun a6 u6=>hfin a6 u6 _ (fun _ _ h=>h)
 ·refine wp_cond_true (e9.trans (by simp [<- hz];omega)) (wp_seq ?_)
  have hx0:Ext W W.drew:=(Ext.refl W).drew';have hS:=hS0 _ hx0;refine rD (fun w'=>w'.cell? ⟨w.heap.size,0,none⟩=some (.bool false)∧w'.cell? ⟨w.heap.size,1,none⟩=some (.slice A l.length c)∧w'.cell? ⟨w.heap.size+1,1,none⟩=some (.slice A' l'.length c')) (fun q=>q != 8) 9 ?_;refine dt 3 [0,1,2,3,4,5] ?_
  iterate 6 refine tv ?_
  refine t_e ?_;refine dc 6 Tryz.func223 (aGy (hl1.ext hx0) (hl2.ext hx0) hd.1 hd'.1 U) ?_;rintro e w6 ⟨k,A5,c5,rfl,hI,⟨hD,hv⟩,hx6⟩;refine ⟨_,rfl,fun _=>hS0 _ (hx0.trans' hx6),?_⟩;refine dc 7 Tryz.func195 (dM false hI) ?_;intro e w7 hR
  obtain ⟨z',A7,k7,c7,rfl,hx7,hfin⟩:=fin a2 w6 w7 e k df sz e4 (by
   obtain ⟨m',B,d,h1,h2,h3,h4,h5⟩:=hR;exact ⟨m',B,d,h1,h2,h3.carry (fun _ _ _=>rfl) (fun b _ hb=>by have hb:W.drew.heap.size<=b:=hb;have:W.drew.heap.size=W.heap.size:=rfl;omega),h4,h5⟩) hD (by rw [hv,hd.2.1,hd'.2.1];omega) (hx0.trans' hx6)
  refine ⟨_,rfl,fun _=>hS0 _ hx7,?_⟩;have B7:=b3.ext hx7;refine dq 8 (w1:=w7.setCells (w.heap.size+1+1) 0 [.bool z',.slice A7 k7 c7]) ?_ (hrun:=by simp [execOp,go_sem,B7.cell,B7.frozen,sz,e4,World.setCells]);refine d_E a2 [4] ?_;exact fun a6 u6=>hfin a6 u6 _ (fun _ _ h=>h)
end
end Go.Proofs.YtkoeecdjijfjnaaGreat
