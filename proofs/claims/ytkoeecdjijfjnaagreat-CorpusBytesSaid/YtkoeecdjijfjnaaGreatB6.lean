/- Contracts and laws. Conditions: none. -/
import Derived.Deep.RegionLaw
import Derived.Deep.RegionHeld3
import Derived.Test.YtkoeecdjijfjnaaGreatB3
set_option linter.all false
set_option maxRecDepth 100000
set_option maxHeartbeats 8000000
namespace Go.Proofs.YtkoeecdjijfjnaaGreat
open Go.RowKit
def cH (v:GV):Nat->List GV->Nat × Bool
 | i,[]=>(i,false)
 | i,x :: xs=>if cJ x v<0 then cH v (i+1) xs else (i,decide (cJ x v=0))
def cU (l:List GV)(v:GV):Nat × Bool:=cH v 0 l
def aRj (l:List GV)(v:GV)(W:World)(i:Value)(wr:World):Prop:=∃ k:Nat,k<=l.length∧i=↑k∧Ext W wr∧cU l v=cH v k (l.drop k)
def aC0 (a b:Value)(w:World)(e:Ending)(w':World):Prop:=e=.returned (.tuple #[a,b])∧Ext w w'
theorem rM (l v A c P Q vl w)(hl:bT w P vl l)(hv:VAt w Q v A c) :
  qg 184 #[vl,dA v A c] w (aC0 (.int .i64 (cU l v).1) (.bool (cU l v).2) w):=by
 have HL:=a4b hl;have HV:=a4b hv;obtain ⟨B,d,e,h1,h2⟩:=hl.form;subst e;clear hl hv;go_enter Tryz.func184,Tryz.ntmps184;go_wp2_with fail;have HE:=a4b (show Ext w (w.alloc (qk (qh v A c) 85)) from (aq _).alloc' _);have HBX:=a4b (aw w 85 (qh v A c));generalize w.alloc (qk (qh v A c) 85)=W at *;go_loopw [6] (fun i wr=>aRj l v W i wr) (fun i _=>l.length - (intOf i).toNat)
 case atStart=>exact ⟨0,af _,rfl,aq _,rfl⟩
 case round =>
  obtain ⟨k,hk,rfl,hx,ht⟩:=hrel;have HT:=a4b ht;have HX:=a4b hx;clear ht hx;by_cases hlt:k<l
  ·obtain ⟨b1,o1,A1,d1,rfl,-,hv1,g10,g11,g12,g13⟩:=(HL.out.ext (HE.out.trans' HX.out)).get hlt
   have HD:=a4b (show cU l v=if cJ (l.getD k default) v<0 then cH v (k+1) (l.drop (k+1)) else (k,decide (cJ (l.getD k default) v=0)) by
    rw [HT.out,aH default hlt];rfl)
   have HV1:=a4b hv1;have BX:=a4b (HBX.out.ext HX.out);have x0:=BX.out.cell' (u:=↑v.kind) 0 rfl;have x1:=BX.out.cell' (u:=↑v.n) 1 rfl;have x2:=BX.out.cell' (u:=v.s) 2 rfl;have x3:=BX.out.cell' (u:=.slice A v.kids c) 3 rfl;clear hv1;generalize l.getD k default=y at *;go_wp2_with fail;go_still_tail 5,U;go_wp2_with fail;refine (gP y v A1 A d1 c P Q _ (HV1.out.ext (aq _).drew') (HV.out.ext ((HE.out.trans' HX.out).drew'))).mono ?_;rintro e w1 ⟨rfl,hx1⟩;have HX1:=a4b (HX.out.trans' ((aq _).drew'.trans' hx1));clear hx1;generalize cJ y v=z at *;by_cases hz:z<0
   ·have tz:decide (0<=z)=false:=a4f I
    go_wp2_with fail;go_roundw
    case rel=>exact ⟨k+1,I,by go_num,HX1.out,by rw [HD.out,if_pos I]⟩
    case measure=>simp [intOf];omega
   ·have tz:decide (0<=z)=true:=a4e I
    have HZ:=a4b (HD.out.trans (if_neg hz));go_wp2_with fail;go_ret2;refine ⟨?_,HE.out.trans' HX1.out⟩;rw [HZ.out]
    congr 4
  ·have HZ:=a4b (show cU l v=(k,false) by rw [HT.out,drop_nil I];rfl)
   have hkl:k=l:=I;go_wp2_with fail;go_ret2;refine ⟨?_,HE.out.trans' HX.out⟩;rw [HZ.out];show Ending.returned (.tuple #[↑(l:Int),false])=.returned (.tuple #[↑(k:Int),false]);rw [hkl]
theorem Tryz.info85:(Tryz.prog.info? 85).map (fun i=>(i.zero,i.size,i.bytes))=some (some (.agg #[qz,qz,.string ByteArray.empty,qn]),4,56):=U
theorem aP (w:World)(base e size):w.ownsRow base e size qn 0 []:=⟨O,.inl ⟨rfl,rfl⟩⟩
theorem Sl.take {w P size A n cs}(h:Sl w P size A n cs){k}(hk:k<=n):Sl w P size A k (cs.take (k*size)):=by
 refine ⟨by rw [ak,h.1];exact Nat.min_eq_left (Nat.mul_le_mul_right _ hk),fun hk0=>?_⟩;obtain ⟨b,off,e,hb,hc⟩:=h.2 I;refine ⟨b,off,e,hb,fun j u hu=>hc j u ?_⟩;rw [List.getElem?_take] at hu;split at hu
 ·exact hu
 ·cases hu
theorem Sl.ext {w w' P size A n cs}(h:Sl w P size A n cs)(hx:Ext w w'):Sl w' P size A n cs:=h.keep (aB.of_ext hx) (fun _ h=>h)
theorem Sl.drop {w P size b off n cs}(h:Sl w P size (qt b off) n cs){k}(hk:k<=n) :
  Sl w P size (qt b (off+k*size)) (n - k) (cs.drop (k*size)):=by
 refine ⟨by rw [am,h.1,Nat.sub_mul],fun hk0=>?_⟩;obtain ⟨b',off',e,hb,hc⟩:=h.2 I;injection e with e;injection e with e1 e2;subst e1 e2;refine ⟨b,off+k*size,rfl,hb,fun j u hu=>?_⟩;rw [Nat.add_assoc];exact hc _ u (by rw [List.getElem?_drop] at hu;exact hu)
theorem Fr.none_ext {w w'}(h:Fr (fun k=>some k=(Value.slice none 0 0).ownBlock) w w'):Ext w w':=h.new_ext (fun b hb=>by simp [Value.ownBlock] at hb)
def aJr (out:List GV)(x:GV):List GV:=if (cU out x).2 then out else out.take (cU out x).1 ++ x :: out.drop (cU out x).1
def eS (out:List GV):List GV->List GV
 | []=>out
 | x :: xs=>eS (aJr out x) xs
def eM (l:List GV):List GV:=eS [] l
theorem aCm (v l i):i<=(cH v i l).1∧(cH v i l).1<=i+l:=by
 induction l generalizing i with
 | nil=>simp [cH]
 | cons x xs ih =>
  simp only [cH];split
  ·have:=ih (i+1);simp only [ai];omega
  ·simp
theorem aDz (l v):(cU l v).1<=l:=by have:=aCm v l 0;unfold cU;omega
theorem aLk (out x):(aJr out x).length<=out+1:=by
 unfold aJr;split
 ·omega
 ·have:=aDz out x;simp;omega
theorem _root_.Go.World.ownsRow.block_ge {w:World}{base:Nat}{e:TypeId}{size:Nat}{v:Value}{n:Nat}{xs:List Value}(h:w.ownsRow base e size v n xs){b:Nat}(hb:v.ownBlock=some b):base<=b:=by
 rcases h.2 with ⟨rfl,_⟩ | ⟨g,cap,cur,rfl,h1,_⟩
 ·simp [Value.ownBlock] at hb
 ·simp [Value.ownBlock] at hb;omega
section
variable {P:Program}
theorem bN (w:World){ops:Array Oper}{o:Oper}{a:Act}{K:Act->World->Prop}{Q:Exit->Act->World->Prop}{E:Prop}(hgd:o.guard=none)(s x:Operand)(t:TypeId)
  (ho:o.op=.call { callee:=.builtin .append,args:=#[s,x],argTypes:=#[t,t] })
  (B:Nat)(e:TypeId)(i:TypeInfo)(z:Value)(size bytes:Nat)(ht:P.underlying t=some (.slice e))(hi:P.info? e=some i)(hz:i.zero=some z)
  (hsize:i.size=size)(hby:i.bytes=bytes)(hzs:z.cells.size=size)(hsz:0<size)
  (v:Value)(n:Nat)(xs:List Value)(hs:a.eval s=v)(hown:w.ownsRow B e size v n xs)
  (S:Nat->Prop)(A:Option Addr)(m c:Nat)(news:List Value)(hx:a.eval x=.slice A m c)(hr:Sl w S size A m news)(h1:∀ u ∈ news,u.oneCell'=true)
  (h63:n+m<=1000000000000)(hbytes:(n+m)*bytes<=140737488355328)(hbase:B<=w)
  (h:∀ v' w',w'.ownsRow B e size v' (n+m) (xs ++ news)->Below B w w'->K (a.put o.dst v') w') :
  if Region.wanted o (yielded ops a.tmps)=true then Oper.wp P o a w K Q else E :=
 dK w hgd s x t ho B e i z size bytes ht hi hz hsize hby hzs hsz v n xs hs hown S A m c news hx hr h1 h63 hbytes hbase fun v' w' h2 h3 _ =>
  h v' w' h2 ⟨h3.os,h3.tape,h3.output,h3.size,fun k hk=>h3.block k I (fun e=>by have:=hown.block_ge e.symm;omega)⟩
theorem gM (w:World){ops:Array Oper}{o:Oper}{a:Act}{K:Act->World->Prop}{Q:Exit->Act->World->Prop}{E:Prop}(hgd:o.guard=none)(s x:Operand)(t:TypeId)
  (ho:o.op=.call { callee:=.builtin .append,args:=#[s,x],argTypes:=#[t,t] })
  (B:Nat)(e:TypeId)(i:TypeInfo)(z:Value)(size bytes:Nat)(ht:P.underlying t=some (.slice e))(hi:P.info? e=some i)(hz:i.zero=some z)
  (hsize:i.size=size)(hby:i.bytes=bytes)(hzs:z.cells.size=size)(hsz:0<size)
  (hs:a.eval s=↑qn)
  (S:Nat->Prop)(A:Option Addr)(m c:Nat)(news:List Value)(hx:a.eval x=.slice A m c)(hr:Sl w S size A m news)(h1:∀ u ∈ news,u.oneCell'=true)
  (h63:m<=1000000000000)(hbytes:m*bytes<=140737488355328)(hbase:B<=w)
  (h:∀ v' w',w'.ownsRow B e size v' m news->Ext w w'->Below B w w'->K (a.put o.dst v') w') :
  if Region.wanted o (yielded ops a.tmps)=true then Oper.wp P o a w K Q else E :=
 dK w hgd s x t ho B e i z size bytes ht hi hz hsize hby hzs hsz qn 0 [] hs (aP _ _ _ _) S A m c news hx hr h1 I (by rw [Nat.zero_add];exact hbytes) hbase fun v' w' h2 h3 _ =>
  h v' w' i2 h3.none_ext (h3.none_ext.mono hbase)
end
theorem _root_.Go.World.ownsRow.base_le {w:World}{base base':Nat}{e:TypeId}{size:Nat}{v:Value}{n:Nat}{xs:List Value}(h:w.ownsRow base e size v n xs)(hb:base'<=base):w.ownsRow base' e size v n xs:=by
 refine ⟨h.1,?_⟩;rcases h.2 with h | ⟨g,cap,cur,h1,h2,h3⟩
 ·exact .inl h
 ·exact .inr ⟨g,cap,cur,h1,I,h3⟩
theorem RVs.cast {w P l l' cs}(h:RVs w P l cs)(e:l=l'):RVs w P l' cs:=e ▸ h
theorem RV.oneCell {w P x cs}(h:RV w P x cs):∀ u ∈ cs,u.oneCell'=true:=by
 obtain ⟨A,c,rfl,_⟩:=h.at_;intro u hu;simp only [cellsOf,ao,List.not_mem_nil,or_false] at hu;rcases hu with rfl | rfl | rfl | rfl <;> rfl
theorem RVs.oneCell {w P l cs}(h:RVs w P l cs):∀ u ∈ cs,u.oneCell'=true:=by
 induction l generalizing cs with
 | nil=>simp only [RVs] at h;subst h;simp
 | cons x xs ih =>
  simp only [RVs] at h;obtain ⟨c1,c2,rfl,h1,h2⟩:=h;intro u hu;rcases ap.1 hu with hu | hu
  ·exact h1.oneCell u hu
  ·exact ih h2 u hu
def aQ1 (l:List GV)(P:Nat->Prop)(w:World)(v i:Value)(wr:World):Prop :=
 ∃ (k:Nat) (out:List GV) (xs:List Value),k<=l∧i=↑k∧wr.ownsRow w 85 4 v out xs∧RVs wr P out xs∧Ext w wr∧out<=k∧eM l=eS out (l.drop k)
def aNs (P:Nat->Prop)(l:List GV)(w:World)(e:Ending)(w':World):Prop :=
 ∃ v xs,e=.returned v∧w'.ownsRow w 85 4 v l xs∧RVs w' P l xs∧Ext w w'
def uC (w:World)(S P:Nat->Prop)(v:Value)(l:List GV):Prop :=
 ∃ A c css,v=.slice A l c∧l<=c∧(l.length<=17592186044416∧c<=9223372036854775807)∧Sl w S 4 A l css∧RVs w P l css
theorem bT.two {w P v l}(h:bT w P v l):uC w P P v l:=h
theorem uC.form {w S P v l}(h:uC w S P v l):∃ A c,v=.slice A l c∧l<=c∧(l.length<=17592186044416∧c<=9223372036854775807):=by
 obtain ⟨A,c,_,h1,h2,h3,_⟩:=h;exact ⟨A,c,h1,h2,h3⟩
theorem uC.ext {w w' S P v l}(h:uC w S P v l)(hx:Ext w w'):uC w' S P v l:=by
 obtain ⟨A,c,css,h1,h2,h3,h4,h5⟩:=h;exact ⟨A,c,css,h1,h2,h3,h4.ext hx,RVs.keep (aB.of_ext hx) (fun _ h=>h) h5⟩
theorem uC.get {w S P A n c l}(h:uC w S P (.slice A n c) l){i:Nat}(hi:i<l) :
  ∃ b off A' d,A=some ↑(qt b off)∧S b∧VAt w P (l.getD i default) A' d ∧
   qc w b (off+i*4) (.int .i64 (l.getD i default).kind)∧qc w b (off+i*4+1) (.int .i64 (l.getD i default).n) ∧
   qc w b (off+i*4+2) (.string (l.getD i default).s)∧qc w b (off+i*4+3) (.slice A' (l.getD i default).kids.length d):=by
 obtain ⟨A1,c1,css,e,h2,h3,h4,h5⟩:=h;injection e with e _ _;subst e;obtain ⟨b,off,rfl,hb,hc⟩:=h4.2 I;obtain ⟨A',d,e,hu⟩:=(h5.get hi).at_
 have hx:∀ j,j<4->css[i*4+j]?=((css.drop (i*4)).take 4)[j]?:=by
  intro j hj;rw [List.getElem?_take,if_pos hj,List.getElem?_drop]
 unfold cellsOf at e;refine ⟨b,off,A',d,rfl,hb,hu,?_,?_,?_,?_⟩
 ·apply hc;have:=hx 0 I;rw [e] at this;simpa using this
 ·rw [Nat.add_assoc];apply hc;have:=hx 1 I;rw [e] at this;simpa using this
 ·rw [Nat.add_assoc];apply hc;have:=hx 2 I;rw [e] at this;simpa using this
 ·rw [Nat.add_assoc];apply hc;have:=hx 3 I;rw [e] at this;simpa using this
theorem pJ (l S P vl w)(hl:uC w S P vl l)(hlen:l.length<=10000000) :
  qg 198 #[vl] w (aNs P (eM l) w):=by
 have HL:=a4b hl;obtain ⟨B,d,e,h1,h2⟩:=hl.form;subst e;clear hl;obtain ⟨i0,hi,hz0,hz1,hz2⟩:=info_parts Tryz.info85;have HI:=a4b hi;clear hi;go_enter Tryz.func198,Tryz.ntmps198;go_wp2_with fail;go_loopw [3,4] (fun v i wr=>aQ1 l P w v i wr) (fun _ i _=>l.length - (intOf i).toNat)
 case atStart=>exact ⟨0,[],[],af _,rfl,aP _ _ _ _,rfl,aq _,af _,rfl⟩
 case round =>
  rename_i vo io;obtain ⟨k,out,xs,hk,rfl,hown,hrv,hx,hok,ht⟩:=hrel;have HT:=a4b ht;have HX:=a4b hx;have HOWN:=a4b hown;have HRV:=a4b hrv;obtain ⟨A,c,hvo,hnc,hcm,hsl⟩:=Sl.of_own hown;unfold maxLen at hcm;have HSL:=a4b hsl;subst hvo;clear ht hx hown hrv hsl;by_cases hlt:k<l
  ·obtain ⟨b1,o1,A1,d1,rfl,-,hv1,g10,g11,g12,g13⟩:=(HL.out.ext HX.out).get hlt
   have HD:=a4b (show eM l=eS (aJr out (l.getD k default)) (l.drop (k+1)) by rw [HT.out,aH default hlt];rfl);have HV1:=a4b hv1;clear hv1;generalize l.getD k default=y at *;have HRW:=a4b (HRV.out)
   have HVO:=a4b (show bT wr (fun b=>P b∨w<=b) (.slice A out c) out from
    ⟨A,c,xs,rfl,hnc,⟨I,hcm⟩,HSL.out _ (fun b hb=>.inr (HOWN.out.block_ge hb)),RVs.keep (fun _ _ _=>rfl) (fun _ h=>.inl h) HRV.out⟩)
   go_wp2_with fail;refine (rM out y A1 d1 _ P _ _ HVO.out HV1.out).mono ?_;rintro e w1 ⟨rfl,hx1⟩;have HX1:=a4b hx1;have hkl:=aDz out y;have HINS:=a4b (show aJr out y=if (cU out y).2 then out else out.take (cU out y).1 ++ y :: out.drop (cU out y).1 from rfl);have HXW:=a4b (HX.out.trans' hx1);have g20:=aA hx1 g10;have g21:=aA hx1 g11;have g22:=aA hx1 g12;have g23:=aA hx1 g13;have lb1:=aX g20;have HOWN1:=a4b (HOWN.out.ext_ hx1);clear hx1 g10 g11 g12 g13;generalize cU out y=r at *;obtain ⟨q,bq⟩:=r;replace hkl:q<=out:=hkl;cases bq
   ·go_upto_region 8 with fail
    have hq1:(q:Int)<=(c:Int):=I;have hq0:(0:Int)<=(q:Int):=I;have hq2:(q:Int)<=(out:Int):=I;have hk1:(k:Int)<(l:Int):=I;have hk0:(0:Int)<=(k:Int):=I;have hqc':q<=c:=I;have HLEN:=a4b HOWN.out.1;have HLEN:=a4b HOWN1.out.1;rcases HOWN1.out.2 with ⟨e,hn0⟩ | ⟨g,cap,cur,e,hg,hcur,hn1,hcap,hcs,htk⟩
    ·obtain rfl:out=[]:=List.length_eq_zero_iff.1 hn0
     obtain rfl:q=0:=by simpa using hkl
     cases e;have HS1:=a4b (show Sl w1 (fun b=>b<w1.heap.size) 4 none 0 [] from ⟨rfl,fun h=>absurd h I⟩);have HS3:=HS1
     go_region_held3 (fun w'=>qc w' b1 (o1+k*4) y.kind∧qc w' b1 (o1+k*4+1) y.n∧qc w' b1 (o1+k*4+2) y.s∧qc w' b1 (o1+k*4+3) (.slice A1 y.kids d1))
      (first
       | go_keep
       | (go_split_ands
          exact ⟨(hbl4.cell (p:=qt b1 _) lb1).trans ‹_›,(hbl4.cell (p:=qt b1 _) lb1).trans ‹_›,(hbl4.cell (p:=qt b1 _) lb1).trans ‹_›,(hbl4.cell (p:=qt b1 _) lb1).trans ‹_›⟩)
       | (go_split_ands
          exact ⟨(hbl3.cell (p:=qt b1 _) lb1).trans ‹_›,(hbl3.cell (p:=qt b1 _) lb1).trans ‹_›,(hbl3.cell (p:=qt b1 _) lb1).trans ‹_›,(hbl3.cell (p:=qt b1 _) lb1).trans ‹_›⟩)
       | (go_split_ands
          exact ⟨(hbl2.cell (p:=qt b1 _) lb1).trans ‹_›,(hbl2.cell (p:=qt b1 _) lb1).trans ‹_›,(hbl2.cell (p:=qt b1 _) lb1).trans ‹_›,(hbl2.cell (p:=qt b1 _) lb1).trans ‹_›⟩))
      (first
       | (refine gM _ (by rfl) (.tmp 25) (.tmp 28) 83 (by rfl) w1 85 i0 _ 4 56 Tryz.underlying83 HI.out hz0 hz1 hz2 rfl (by omega) (by rfl) _ none 0 0 [] (by rfl) (HS1.out.ext (by repeat (first | exact aq _ | refine Ext.drew' ?_ | refine Ext.alloc' ?_ _))) (by simp) (by omega) (by omega) (by simp) ?_;intro v2 w2 ho2 hx2 hbl2;have hw2:Below w1 w1 w2:=(by first | exact (Below.refl _ w1).drew.trans hbl2 | exact ((Below.refl _ w1).drew.alloc (ab _) _).trans hbl2))
       | (refine bN _ (by rfl) (.tmp 35) (.tmp 38) 83 (by rfl) w1 85 i0 _ 4 56 Tryz.underlying83 HI.out hz0 hz1 hz2 rfl (by omega) v3 (0+1) ([] ++ [.int .i64 y.kind,.int .i64 y.n,.string y.s,.slice A1 y.kids d1]) (by rfl) ho3 (fun b=>b<w1.heap.size) none 0 0 [] (by rfl) (HS3.out.keep (fun b _ hb=>hw3.block b hb) (fun _ h=>h)) (by simp) (by omega) (by omega) hw3.size ?_;intro v4 w4 ho4 hbl4)
       | (refine bN _ (by rfl) (.tmp 29) (.tmp 34) 83 (by rfl) w1 85 i0 _ 4 56 Tryz.underlying83 HI.out hz0 hz1 hz2 rfl (by omega) v2 0 [] (by rfl) (ho2.alloc _) (fun _=>True) (qp w2) 1 1 (qh y A1 d1) (by rfl) (Sl.new w2 _ _ _ _ rfl) (by simp [Value.oneCell']) (by omega) (by omega) ?_ ?_;(have hs2:=hw2.size;simp at hs2 ⊢;omega);intro v3 w3 ho3 hbl3;have hw3:Below w1 w1 w3:=(hw2.alloc hw2.size _).trans hbl3)
       | (refine bN _ (by rfl) (.tmp 29) (.tmp 34) 83 (by rfl) w1 85 i0 _ 4 56 Tryz.underlying83 HI.out hz0 hz1 hz2 rfl (by omega) v2 0 [] (by rfl) ho2 (fun _=>True) (qp w1) 1 1 (qh y A1 d1) (by rfl) ((Sl.new w1.drew _ _ _ _ rfl).ext hx2) (by simp [Value.oneCell']) (by omega) (by omega) ?_ ?_;(have hs2:=hw2.size;simp at hs2 ⊢;omega);intro v3 w3 ho3 hbl3;have hw3:Below w1 w1 w3:=hw2.trans hbl3))
     all_goals
      have HW4:=a4b (hw3.trans hbl4);have HO4:=a4b ho4;clear hw3 hbl4 hw2 hbl2 hbl3 ho4 ho3 ho2 hx2;go_wp2_with fail;go_roundw
      case rel =>
       refine ⟨k+1,[y],([] ++ [.int .i64 y.kind,.int .i64 y.n,.string y.s,.slice A1 y.kids d1]) ++ [],I,by go_num,?_,?_,HXW.out.trans' HW4.out,O,ib⟩
       ·have h:=HO4.out.base_le HXW.out.size
        rw [show 0+1+0=[y].length from rfl] at h;exact h
       ·have h2:RV w4 P y _:=(HV1.out.ext (HX1.out.trans' HW4.out)).rv
        exact (RVs.append (RVs.append (show RVs w4 P [] [] from rfl) (RVs.one h2)) (show RVs w4 P [] [] from rfl)).cast O
      case measure=>simp [intOf];omega
    ·cases e
     have hgl:g<w1:=Blk.lt (t:=85) hcur
     have HS0:=a4b (show Sl w1 (fun b=>b<w1.heap.size) 4 (qp g) out xs from by
      obtain ⟨A',c',e',_,_,h⟩:=Sl.of_own HOWN1.out;cases e';exact h _ (fun b hb=>by simp [Value.ownBlock] at hb;omega))
     have HS1:=a4b (HS0.out.take hkl);have HONE:=a4b HRV.out.oneCell;clear hcur hcs htk hcap;by_cases hqc:c=q
     ·subst hqc
      have HS3:=a4b (show Sl w1 (fun b=>b<w1.heap.size) 4 (qp g) 0 (xs.drop (c*4)) from
       ⟨by rw [am,HLEN.out];omega,fun h=>absurd h I⟩)
      go_region_held3 (fun w'=>qc w' b1 (o1+k*4) y.kind∧qc w' b1 (o1+k*4+1) y.n∧qc w' b1 (o1+k*4+2) y.s∧qc w' b1 (o1+k*4+3) (.slice A1 y.kids d1))
       (first
        | go_keep
        | (go_split_ands
           exact ⟨(hbl4.cell (p:=qt b1 _) lb1).trans ‹_›,(hbl4.cell (p:=qt b1 _) lb1).trans ‹_›,(hbl4.cell (p:=qt b1 _) lb1).trans ‹_›,(hbl4.cell (p:=qt b1 _) lb1).trans ‹_›⟩)
        | (go_split_ands
           exact ⟨(hbl3.cell (p:=qt b1 _) lb1).trans ‹_›,(hbl3.cell (p:=qt b1 _) lb1).trans ‹_›,(hbl3.cell (p:=qt b1 _) lb1).trans ‹_›,(hbl3.cell (p:=qt b1 _) lb1).trans ‹_›⟩)
        | (go_split_ands
           exact ⟨(hbl2.cell (p:=qt b1 _) lb1).trans ‹_›,(hbl2.cell (p:=qt b1 _) lb1).trans ‹_›,(hbl2.cell (p:=qt b1 _) lb1).trans ‹_›,(hbl2.cell (p:=qt b1 _) lb1).trans ‹_›⟩))
       (first
        | (refine gM _ (by rfl) (.tmp 25) (.tmp 28) 83 (by rfl) w1 85 i0 _ 4 56 Tryz.underlying83 HI.out hz0 hz1 hz2 rfl (by omega) (by rfl) _ (qp g) c c (xs.take (c*4)) (by rfl) (HS1.out.ext (by repeat (first | exact aq _ | refine Ext.drew' ?_ | refine Ext.alloc' ?_ _))) (fun u hu=>HONE.out u (List.mem_of_mem_take hu)) (by omega) (by omega) (by simp) ?_;intro v2 w2 ho2 hx2 hbl2;have hw2:Below w1 w1 w2:=(by first | exact (Below.refl _ w1).drew.trans hbl2 | exact ((Below.refl _ w1).drew.alloc (ab _) _).trans hbl2))
        | (refine bN _ (by rfl) (.tmp 35) (.tmp 38) 83 (by rfl) w1 85 i0 _ 4 56 Tryz.underlying83 HI.out hz0 hz1 hz2 rfl (by omega) v3 (c+1) (xs.take (c*4) ++ [.int .i64 y.kind,.int .i64 y.n,.string y.s,.slice A1 y.kids d1]) (by rfl) ho3 (fun b=>b<w1.heap.size) (qp g) 0 0 (xs.drop (c*4)) (by rfl) (HS3.out.keep (fun b _ hb=>hw3.block b hb) (fun _ h=>h)) (fun u hu=>HONE.out u (List.mem_of_mem_drop hu)) (by omega) (by omega) hw3.size ?_;intro v4 w4 ho4 hbl4)
        | (refine bN _ (by rfl) (.tmp 29) (.tmp 34) 83 (by rfl) w1 85 i0 _ 4 56 Tryz.underlying83 HI.out hz0 hz1 hz2 rfl (by omega) v2 c (xs.take (c*4)) (by rfl) (ho2.alloc _) (fun _=>True) (qp w2) 1 1 (qh y A1 d1) (by rfl) (Sl.new w2 _ _ _ _ rfl) (by simp [Value.oneCell']) (by omega) (by omega) ?_ ?_;(have hs2:=hw2.size;simp at hs2 ⊢;omega);intro v3 w3 ho3 hbl3;have hw3:Below w1 w1 w3:=(hw2.alloc hw2.size _).trans hbl3)
        | (refine bN _ (by rfl) (.tmp 29) (.tmp 34) 83 (by rfl) w1 85 i0 _ 4 56 Tryz.underlying83 HI.out hz0 hz1 hz2 rfl (by omega) v2 c (xs.take (c*4)) (by rfl) ho2 (fun _=>True) (qp w1) 1 1 (qh y A1 d1) (by rfl) ((Sl.new w1.drew _ _ _ _ rfl).ext hx2) (by simp [Value.oneCell']) (by omega) (by omega) ?_ ?_;(have hs2:=hw2.size;simp at hs2 ⊢;omega);intro v3 w3 ho3 hbl3;have hw3:Below w1 w1 w3:=hw2.trans hbl3))
      all_goals
       have HW4:=a4b (hw3.trans hbl4);have HO4:=a4b ho4;clear hw3 hbl4 hw2 hbl2 hbl3 ho4 ho3 ho2 hx2;go_wp2_with fail;go_roundw
       case rel =>
        refine ⟨k+1,out.take c ++ y :: out.drop c,(xs.take (c*4) ++ [.int .i64 y.kind,.int .i64 y.n,.string y.s,.slice A1 y.kids d1]) ++ xs.drop (c*4),I,by go_num,?_,?_,HXW.out.trans' HW4.out,bh,ib⟩
        ·have h:=HO4.out.base_le HXW.out.size
         rw [show c+1+0=(out.take c ++ y :: out.drop c).length by simp;omega] at h;exact h
        ·have hk:aB P wr w4:=aB.of_ext (HX1.out.trans' HW4.out)
         have h1:=RVs.keep hk (fun _ h=>h) HRV.out;have h2:RV w4 P y _:=(HV1.out.ext (HX1.out.trans' HW4.out)).rv;exact (RVs.append (RVs.append (h1.take c) (RVs.one h2)) (h1.drop c)).cast O
       case measure=>simp [intOf];omega
     ·have HS3:=a4b (HS0.out.drop hkl)
      rw [Nat.zero_add] at HS3
      go_region_held3 (fun w'=>qc w' b1 (o1+k*4) y.kind∧qc w' b1 (o1+k*4+1) y.n∧qc w' b1 (o1+k*4+2) y.s∧qc w' b1 (o1+k*4+3) (.slice A1 y.kids d1))
       (first
        | go_keep
        | (go_split_ands
           exact ⟨(hbl4.cell (p:=qt b1 _) lb1).trans ‹_›,(hbl4.cell (p:=qt b1 _) lb1).trans ‹_›,(hbl4.cell (p:=qt b1 _) lb1).trans ‹_›,(hbl4.cell (p:=qt b1 _) lb1).trans ‹_›⟩)
        | (go_split_ands
           exact ⟨(hbl3.cell (p:=qt b1 _) lb1).trans ‹_›,(hbl3.cell (p:=qt b1 _) lb1).trans ‹_›,(hbl3.cell (p:=qt b1 _) lb1).trans ‹_›,(hbl3.cell (p:=qt b1 _) lb1).trans ‹_›⟩)
        | (go_split_ands
           exact ⟨(hbl2.cell (p:=qt b1 _) lb1).trans ‹_›,(hbl2.cell (p:=qt b1 _) lb1).trans ‹_›,(hbl2.cell (p:=qt b1 _) lb1).trans ‹_›,(hbl2.cell (p:=qt b1 _) lb1).trans ‹_›⟩))
       (first
        | (refine gM _ (by rfl) (.tmp 25) (.tmp 28) 83 (by rfl) w1 85 i0 _ 4 56 Tryz.underlying83 HI.out hz0 hz1 hz2 rfl (by omega) (by rfl) _ (qp g) q c (xs.take (q*4)) (by rfl) (HS1.out.ext (by repeat (first | exact aq _ | refine Ext.drew' ?_ | refine Ext.alloc' ?_ _))) (fun u hu=>HONE.out u (List.mem_of_mem_take hu)) (by omega) (by omega) (by simp) ?_;intro v2 w2 ho2 hx2 hbl2;have hw2:Below w1 w1 w2:=(by first | exact (Below.refl _ w1).drew.trans hbl2 | exact ((Below.refl _ w1).drew.alloc (ab _) _).trans hbl2))
        | (refine bN _ (by rfl) (.tmp 35) (.tmp 38) 83 (by rfl) w1 85 i0 _ 4 56 Tryz.underlying83 HI.out hz0 hz1 hz2 rfl (by omega) v3 (q+1) (xs.take (q*4) ++ [.int .i64 y.kind,.int .i64 y.n,.string y.s,.slice A1 y.kids d1]) (by rfl) ho3 (fun b=>b<w1.heap.size) (qt g (q*4)) (out.length - q) (c - q) (xs.drop (q*4)) (by rfl) (HS3.out.keep (fun b _ hb=>hw3.block b hb) (fun _ h=>h)) (fun u hu=>HONE.out u (List.mem_of_mem_drop hu)) (by omega) (by omega) hw3.size ?_;intro v4 w4 ho4 hbl4)
        | (refine bN _ (by rfl) (.tmp 29) (.tmp 34) 83 (by rfl) w1 85 i0 _ 4 56 Tryz.underlying83 HI.out hz0 hz1 hz2 rfl (by omega) v2 q (xs.take (q*4)) (by rfl) (ho2.alloc _) (fun _=>True) (qp w2) 1 1 (qh y A1 d1) (by rfl) (Sl.new w2 _ _ _ _ rfl) (by simp [Value.oneCell']) (by omega) (by omega) ?_ ?_;(have hs2:=hw2.size;simp at hs2 ⊢;omega);intro v3 w3 ho3 hbl3;have hw3:Below w1 w1 w3:=(hw2.alloc hw2.size _).trans hbl3)
        | (refine bN _ (by rfl) (.tmp 29) (.tmp 34) 83 (by rfl) w1 85 i0 _ 4 56 Tryz.underlying83 HI.out hz0 hz1 hz2 rfl (by omega) v2 q (xs.take (q*4)) (by rfl) ho2 (fun _=>True) (qp w1) 1 1 (qh y A1 d1) (by rfl) ((Sl.new w1.drew _ _ _ _ rfl).ext hx2) (by simp [Value.oneCell']) (by omega) (by omega) ?_ ?_;(have hs2:=hw2.size;simp at hs2 ⊢;omega);intro v3 w3 ho3 hbl3;have hw3:Below w1 w1 w3:=hw2.trans hbl3))
      all_goals
       have HW4:=a4b (hw3.trans hbl4);have HO4:=a4b ho4;clear hw3 hbl4 hw2 hbl2 hbl3 ho4 ho3 ho2 hx2;go_wp2_with fail;go_roundw
       case rel =>
        refine ⟨k+1,out.take q ++ y :: out.drop q,(xs.take (q*4) ++ [.int .i64 y.kind,.int .i64 y.n,.string y.s,.slice A1 y.kids d1]) ++ xs.drop (q*4),I,by go_num,?_,?_,HXW.out.trans' HW4.out,bh,ib⟩
        ·have h:=HO4.out.base_le HXW.out.size
         rw [show q+1+(out.length - q)=(out.take q ++ y :: out.drop q).length by simp;omega] at h;exact h
        ·have hk:aB P wr w4:=aB.of_ext (HX1.out.trans' HW4.out)
         have h1:=RVs.keep hk (fun _ h=>h) HRV.out;have h2:RV w4 P y _:=(HV1.out.ext (HX1.out.trans' HW4.out)).rv;exact (RVs.append (RVs.append (h1.take q) (RVs.one h2)) (h1.drop q)).cast O
       case measure=>simp [intOf];omega
   ·go_wp2_with fail
    go_roundw
    case rel=>exact ⟨k+1,out,xs,I,by go_num,HOWN1.out,RVs.keep (aB.of_ext HX1.out) (fun _ h=>h) HRV.out,HXW.out,I,ib⟩
    case measure=>simp [intOf];omega
  ·have HZ:=a4b (show eM l=out by rw [HT.out,drop_nil I];rfl)
   go_wp2_with fail;go_ret;refine ⟨_,xs,rfl,?_,?_,HX.out⟩
   ·rw [HZ.out];exact HOWN.out
   ·rw [HZ.out];exact HRV.out
theorem aB3 (l P vl w)(hl:bT w P vl l)(hlen:l.length<=10000000) :
  qg 198 #[vl] w (aNs P (eM l) w):=pJ l P P vl w hl.two hlen
