/- Contracts and laws. Conditions: none. -/
import Derived.Deep.RegionLaw
import Derived.Deep.RegionHeld3
import Derived.Test.YtkoeecdjijfjnaaGreatDoorB3
set_option linter.all false
set_option maxRecDepth 100000
set_option maxHeartbeats 8000000
namespace Go.Proofs.YtkoeecdjijfjnaaGreatDoor
open Go.RowKit
def cM (v:GV):Nat->List GV->Nat × Bool
 | i,[]=>(i,false)
 | i,x :: xs=>if cS x v<0 then cM v (i+1) xs else (i,decide (cS x v=0))
def bK (l:List GV)(v:GV):Nat × Bool:=cM v 0 l
def JI (l:List GV)(v:GV)(W:World)(i:Value)(wr:World):Prop:=∃ k:Nat,k<=l.length∧i=↑k∧Ext W wr∧bK l v=cM v k (l.drop k)
def zN (a b:Value)(w:World)(e:Ending)(w':World):Prop:=e=.returned (.tuple #[a,b])∧Ext w w'
theorem pY (l:List GV)(v:GV)(A:Option Addr)(c:Nat)(P Q:Nat->Prop)(vl:Value)(w:World)(hl:bZ w P vl l)(hv:VAt w Q v A c) :
  qg 131 #[vl,cN v A c] w (zN (.int .i64 (bK l v).1) (.bool (bK l v).2) w):=by
 have HL:=aYf hl;have HV:=aYf hv;obtain ⟨B,d,e,h1,h2⟩:=hl.form;subst e;clear hl hv;go_enter Tryz.func131,Tryz.ntmps131;go_wp2_with fail;have HE:=aYf (show Ext w (w.alloc (qk (qh v A c) 58)) from (aq _).alloc' _);have HBX:=aYf (aw w 58 (qh v A c));generalize w.alloc (qk (qh v A c) 58)=W at *;go_loopw [6] (fun i wr=>JI l v W i wr) (fun i _=>l.length - (intOf i).toNat)
 case atStart=>exact ⟨0,af _,rfl,aq _,rfl⟩
 case round =>
  obtain ⟨k,hk,rfl,hx,ht⟩:=hrel;have HT:=aYf ht;have HX:=aYf hx;clear ht hx;by_cases hlt:k<l
  ·obtain ⟨b1,o1,A1,d1,rfl,-,hv1,g10,g11,g12,g13⟩:=(HL.out.ext (HE.out.trans' HX.out)).get hlt
   have HD:=aYf (show bK l v=if cS (l.getD k default) v<0 then cM v (k+1) (l.drop (k+1)) else (k,decide (cS (l.getD k default) v=0)) by
    rw [HT.out,aJ default hlt];rfl)
   have HV1:=aYf hv1;have BX:=aYf (HBX.out.ext HX.out);have x0:=BX.out.cell' (u:=↑v.kind) 0 rfl;have x1:=BX.out.cell' (u:=↑v.n) 1 rfl;have x2:=BX.out.cell' (u:=v.s) 2 rfl;have x3:=BX.out.cell' (u:=.slice A v.kids c) 3 rfl;clear hv1;generalize l.getD k default=y at *;go_wp2_with fail;go_still_tail 5,av;go_wp2_with fail;refine (gS y v A1 A d1 c P Q _ (HV1.out.ext (aq _).drew') (HV.out.ext ((HE.out.trans' HX.out).drew'))).mono ?_;rintro e w1 ⟨rfl,hx1⟩;have HX1:=aYf (HX.out.trans' ((aq _).drew'.trans' hx1));clear hx1;generalize cS y v=z at *;by_cases hz:z<0
   ·have tz:decide (0<=z)=false:=aYj I
    go_wp2_with fail;go_roundw
    case rel=>exact ⟨k+1,I,by go_num,HX1.out,by rw [HD.out,if_pos I]⟩
    case measure=>simp [intOf];omega
   ·have tz:decide (0<=z)=true:=aYi I
    have HZ:=aYf (HD.out.trans (if_neg hz));go_wp2_with fail;go_ret2;refine ⟨?_,HE.out.trans' HX1.out⟩;rw [HZ.out]
    congr 4
  ·have HZ:=aYf (show bK l v=(k,false) by rw [HT.out,drop_nil I];rfl)
   have hkl:k=l:=I;go_wp2_with fail;go_ret2;refine ⟨?_,HE.out.trans' HX.out⟩;rw [HZ.out];show Ending.returned (.tuple #[↑(l:Int),false])=.returned (.tuple #[↑(k:Int),false]);rw [hkl]
theorem Tryz.info58:(Tryz.prog.info? 58).map (fun i=>(i.zero,i.size,i.bytes))=some (some (.agg #[qz,qz,.string ByteArray.empty,qn]),4,56):=av
theorem aT (w:World)(base:Nat)(e:TypeId)(size:Nat):w.ownsRow base e size qn 0 []:=⟨U,.inl ⟨rfl,rfl⟩⟩
theorem Sl.take {w:World}{P:Nat->Prop}{size:Nat}{A:Option Addr}{n:Nat}{cs:List Value}(h:Sl w P size A n cs){k:Nat}(hk:k<=n):Sl w P size A k (cs.take (k*size)):=by
 refine ⟨by rw [ak,h.1];exact Nat.min_eq_left (Nat.mul_le_mul_right _ hk),fun hk0=>?_⟩;obtain ⟨b,off,e,hb,hc⟩:=h.2 I;refine ⟨b,off,e,hb,fun j u hu=>hc j u ?_⟩;rw [List.getElem?_take] at hu;split at hu
 ·exact hu
 ·cases hu
theorem Sl.ext {w w':World}{P:Nat->Prop}{size:Nat}{A:Option Addr}{n:Nat}{cs:List Value}(h:Sl w P size A n cs)(hx:Ext w w'):Sl w' P size A n cs:=h.keep (aB.of_ext hx) (fun _ h=>h)
theorem Sl.drop {w:World}{P:Nat->Prop}{size:Nat}{b off:Nat}{n:Nat}{cs:List Value}(h:Sl w P size (qt b off) n cs){k:Nat}(hk:k<=n) :
  Sl w P size (qt b (off+k*size)) (n - k) (cs.drop (k*size)):=by
 refine ⟨by rw [am,h.1,Nat.sub_mul],fun hk0=>?_⟩;obtain ⟨b',off',e,hb,hc⟩:=h.2 I;injection e with e;injection e with e1 e2;subst e1 e2;refine ⟨b,off+k*size,rfl,hb,fun j u hu=>?_⟩;rw [Nat.add_assoc];exact hc _ u (by rw [List.getElem?_drop] at hu;exact hu)
theorem Fr.none_ext {w w':World}(h:Fr (fun k=>some k=(Value.slice none 0 0).ownBlock) w w'):Ext w w':=h.new_ext (fun b hb=>by simp [Value.ownBlock] at hb)
def kr (out:List GV)(x:GV):List GV:=if (bK out x).2 then out else out.take (bK out x).1 ++ x :: out.drop (bK out x).1
def eY (out:List GV):List GV->List GV
 | []=>out
 | x :: xs=>eY (kr out x) xs
def eS (l:List GV):List GV:=eY [] l
theorem II (v:GV)(l:List GV)(i:Nat):i<=(cM v i l).1∧(cM v i l).1<=i+l:=by
 induction l generalizing i with
 | nil=>simp [cM]
 | cons x xs ih =>
  simp only [cM];split
  ·have:=ih (i+1);simp only [ai];omega
  ·simp
theorem uc (l:List GV)(v:GV):(bK l v).1<=l:=by have:=II v l 0;unfold bK;omega
theorem Jn (out:List GV)(x:GV):(kr out x).length<=out+1:=by
 unfold kr;split
 ·omega
 ·have:=uc out x;simp;omega
theorem _root_.Go.World.ownsRow.block_ge {w:World}{base:Nat}{e:TypeId}{size:Nat}{v:Value}{n:Nat}{xs:List Value}(h:w.ownsRow base e size v n xs){b:Nat}(hb:v.ownBlock=some b):base<=b:=by
 rcases h.2 with ⟨rfl,_⟩ | ⟨g,cap,cur,rfl,h1,_⟩
 ·simp [Value.ownBlock] at hb
 ·simp [Value.ownBlock] at hb;omega
section
variable {P:Program}
theorem bW (w:World){ops:Array Oper}{o:Oper}{a:Act}{K:Act->World->Prop}{Q:Exit->Act->World->Prop}{E:Prop}(hgd:o.guard=none)(s x:Operand)(t:TypeId)
  (ho:o.op=.call { callee:=.builtin .append,args:=#[s,x],argTypes:=#[t,t] })
  (B:Nat)(e:TypeId)(i:TypeInfo)(z:Value)(size bytes:Nat)(ht:P.underlying t=some (.slice e))(hi:P.info? e=some i)(hz:i.zero=some z)
  (hsize:i.size=size)(hby:i.bytes=bytes)(hzs:z.cells.size=size)(hsz:0<size)
  (v:Value)(n:Nat)(xs:List Value)(hs:a.eval s=v)(hown:w.ownsRow B e size v n xs)
  (S:Nat->Prop)(A:Option Addr)(m c:Nat)(news:List Value)(hx:a.eval x=.slice A m c)(hr:Sl w S size A m news)(h1:∀ u ∈ news,u.oneCell'=true)
  (h63:n+m<=1000000000000)(hbytes:(n+m)*bytes<=140737488355328)(hbase:B<=w)
  (h:∀ v' w',w'.ownsRow B e size v' (n+m) (xs ++ news)->Below B w w'->K (a.put o.dst v') w') :
  if Region.wanted o (yielded ops a.tmps)=true then Oper.wp P o a w K Q else E :=
 eJ w hgd s x t ho B e i z size bytes ht hi hz hsize hby hzs hsz v n xs hs hown S A m c news hx hr h1 h63 hbytes hbase fun v' w' h2 h3 _ =>
  h v' w' h2 ⟨h3.os,h3.tape,h3.output,h3.size,fun k hk=>h3.block k I (fun e=>by have:=hown.block_ge e.symm;omega)⟩
theorem gP (w:World){ops:Array Oper}{o:Oper}{a:Act}{K:Act->World->Prop}{Q:Exit->Act->World->Prop}{E:Prop}(hgd:o.guard=none)(s x:Operand)(t:TypeId)
  (ho:o.op=.call { callee:=.builtin .append,args:=#[s,x],argTypes:=#[t,t] })
  (B:Nat)(e:TypeId)(i:TypeInfo)(z:Value)(size bytes:Nat)(ht:P.underlying t=some (.slice e))(hi:P.info? e=some i)(hz:i.zero=some z)
  (hsize:i.size=size)(hby:i.bytes=bytes)(hzs:z.cells.size=size)(hsz:0<size)
  (hs:a.eval s=↑qn)
  (S:Nat->Prop)(A:Option Addr)(m c:Nat)(news:List Value)(hx:a.eval x=.slice A m c)(hr:Sl w S size A m news)(h1:∀ u ∈ news,u.oneCell'=true)
  (h63:m<=1000000000000)(hbytes:m*bytes<=140737488355328)(hbase:B<=w)
  (h:∀ v' w',w'.ownsRow B e size v' m news->Ext w w'->Below B w w'->K (a.put o.dst v') w') :
  if Region.wanted o (yielded ops a.tmps)=true then Oper.wp P o a w K Q else E :=
 eJ w hgd s x t ho B e i z size bytes ht hi hz hsize hby hzs hsz qn 0 [] hs (aT _ _ _ _) S A m c news hx hr h1 I (by rw [Nat.zero_add];exact hbytes) hbase fun v' w' h2 h3 _ =>
  h v' w' jh h3.none_ext (h3.none_ext.mono hbase)
end
theorem _root_.Go.World.ownsRow.base_le {w:World}{base base':Nat}{e:TypeId}{size:Nat}{v:Value}{n:Nat}{xs:List Value}(h:w.ownsRow base e size v n xs)(hb:base'<=base):w.ownsRow base' e size v n xs:=by
 refine ⟨h.1,?_⟩;rcases h.2 with h | ⟨g,cap,cur,h1,h2,h3⟩
 ·exact .inl h
 ·exact .inr ⟨g,cap,cur,h1,I,h3⟩
theorem RVs.cast {w:World}{P:Nat->Prop}{l l':List GV}{cs:List Value}(h:RVs w P l cs)(e:l=l'):RVs w P l' cs:=e ▸ h
theorem RV.oneCell {w:World}{P:Nat->Prop}{x:GV}{cs:List Value}(h:RV w P x cs):∀ u ∈ cs,u.oneCell'=true:=by
 obtain ⟨A,c,rfl,_⟩:=h.at_;intro u hu;simp only [cellsOf,ao,List.not_mem_nil,or_false] at hu;rcases hu with rfl | rfl | rfl | rfl <;> rfl
theorem RVs.oneCell {w:World}{P:Nat->Prop}{l:List GV}{cs:List Value}(h:RVs w P l cs):∀ u ∈ cs,u.oneCell'=true:=by
 induction l generalizing cs with
 | nil=>simp only [RVs] at h;subst h;simp
 | cons x xs ih =>
  simp only [RVs] at h;obtain ⟨c1,c2,rfl,h1,h2⟩:=h;intro u hu;rcases ap.1 hu with hu | hu
  ·exact h1.oneCell u hu
  ·exact ih h2 u hu
def Hk (l:List GV)(P:Nat->Prop)(w:World)(v i:Value)(wr:World):Prop :=
 ∃ (k:Nat) (out:List GV) (xs:List Value),k<=l∧i=↑k∧wr.ownsRow w 58 4 v out xs∧RVs wr P out xs∧Ext w wr∧out<=k∧eS l=eY out (l.drop k)
def zh (P:Nat->Prop)(l:List GV)(w:World)(e:Ending)(w':World):Prop :=
 ∃ v xs,e=.returned v∧w'.ownsRow w 58 4 v l xs∧RVs w' P l xs∧Ext w w'
def sO (w:World)(S P:Nat->Prop)(v:Value)(l:List GV):Prop :=
 ∃ A c css,v=.slice A l c∧l<=c∧(l.length<=17592186044416∧c<=9223372036854775807)∧Sl w S 4 A l css∧RVs w P l css
theorem bZ.two {w:World}{P:Nat->Prop}{v:Value}{l:List GV}(h:bZ w P v l):sO w P P v l:=h
theorem sO.form {w:World}{S P:Nat->Prop}{v:Value}{l:List GV}(h:sO w S P v l):∃ A c,v=.slice A l c∧l<=c∧(l.length<=17592186044416∧c<=9223372036854775807):=by
 obtain ⟨A,c,_,h1,h2,h3,_⟩:=h;exact ⟨A,c,h1,h2,h3⟩
theorem sO.ext {w w':World}{S P:Nat->Prop}{v:Value}{l:List GV}(h:sO w S P v l)(hx:Ext w w'):sO w' S P v l:=by
 obtain ⟨A,c,css,h1,h2,h3,h4,h5⟩:=h;exact ⟨A,c,css,h1,h2,h3,h4.ext hx,RVs.keep (aB.of_ext hx) (fun _ h=>h) h5⟩
theorem sO.get {w:World}{S P:Nat->Prop}{A:Option Addr}{n c:Nat}{l:List GV}(h:sO w S P (.slice A n c) l){i:Nat}(hi:i<l) :
  ∃ b off A' d,A=some ↑(qt b off)∧S b∧VAt w P (l.getD i default) A' d ∧
   qc w b (off+i*4) (.int .i64 (l.getD i default).kind)∧qc w b (off+i*4+1) (.int .i64 (l.getD i default).n) ∧
   qc w b (off+i*4+2) (.string (l.getD i default).s)∧qc w b (off+i*4+3) (.slice A' (l.getD i default).kids.length d):=by
 obtain ⟨A1,c1,css,e,h2,h3,h4,h5⟩:=h;injection e with e _ _;subst e;obtain ⟨b,off,rfl,hb,hc⟩:=h4.2 I;obtain ⟨A',d,e,hu⟩:=(h5.get hi).at_
 have hx:∀ j,j<4->css[i*4+j]?=((css.drop (i*4)).take 4)[j]?:=by
  intro j hj;rw [List.getElem?_take,if_pos hj,List.getElem?_drop]
 unfold cellsOf at e;refine ⟨b,off,A',d,rfl,hb,hu,?_,?_,?_,?_⟩
 ·apply hc;have:=hx 0 I;rw [e] at this;simpa using this
 ·rw [Nat.add_assoc];apply hc;have:=hx 1 I;rw [e] at this;simpa using this
 ·rw [Nat.add_assoc];apply hc;have:=hx 2 I;rw [e] at this;simpa using this
 ·rw [Nat.add_assoc];apply hc;have:=hx 3 I;rw [e] at this;simpa using this
theorem nY (l:List GV)(S P:Nat->Prop)(vl:Value)(w:World)(hl:sO w S P vl l)(hlen:l.length<=10000000) :
  qg 120 #[vl] w (zh P (eS l) w):=by
 have HL:=aYf hl;obtain ⟨B,d,e,h1,h2⟩:=hl.form;subst e;clear hl;obtain ⟨i0,hi,hz0,hz1,hz2⟩:=info_parts Tryz.info58;have HI:=aYf hi;clear hi;go_enter Tryz.func120,Tryz.ntmps120;go_wp2_with fail;go_loopw [3,4] (fun v i wr=>Hk l P w v i wr) (fun _ i _=>l.length - (intOf i).toNat)
 case atStart=>exact ⟨0,[],[],af _,rfl,aT _ _ _ _,rfl,aq _,af _,rfl⟩
 case round =>
  rename_i vo io;obtain ⟨k,out,xs,hk,rfl,hown,hrv,hx,hok,ht⟩:=hrel;have HT:=aYf ht;have HX:=aYf hx;have HOWN:=aYf hown;have HRV:=aYf hrv;obtain ⟨A,c,hvo,hnc,hcm,hsl⟩:=Sl.of_own hown;unfold maxLen at hcm;have HSL:=aYf hsl;subst hvo;clear ht hx hown hrv hsl;by_cases hlt:k<l
  ·obtain ⟨b1,o1,A1,d1,rfl,-,hv1,g10,g11,g12,g13⟩:=(HL.out.ext HX.out).get hlt
   have HD:=aYf (show eS l=eY (kr out (l.getD k default)) (l.drop (k+1)) by rw [HT.out,aJ default hlt];rfl);have HV1:=aYf hv1;clear hv1;generalize l.getD k default=y at *;have HRW:=aYf (HRV.out)
   have HVO:=aYf (show bZ wr (fun b=>P b∨w<=b) (.slice A out c) out from
    ⟨A,c,xs,rfl,hnc,⟨I,hcm⟩,HSL.out _ (fun b hb=>.inr (HOWN.out.block_ge hb)),RVs.keep (fun _ _ _=>rfl) (fun _ h=>.inl h) HRV.out⟩)
   go_wp2_with fail;refine (pY out y A1 d1 _ P _ _ HVO.out HV1.out).mono ?_;rintro e w1 ⟨rfl,hx1⟩;have HX1:=aYf hx1;have hkl:=uc out y;have HINS:=aYf (show kr out y=if (bK out y).2 then out else out.take (bK out y).1 ++ y :: out.drop (bK out y).1 from rfl);have HXW:=aYf (HX.out.trans' hx1);have g20:=aA hx1 g10;have g21:=aA hx1 g11;have g22:=aA hx1 g12;have g23:=aA hx1 g13;have lb1:=bB g20;have HOWN1:=aYf (HOWN.out.ext_ hx1);clear hx1 g10 g11 g12 g13;generalize bK out y=r at *;obtain ⟨q,bq⟩:=r;replace hkl:q<=out:=hkl;cases bq
   ·go_upto_region 8 with fail
    have hq1:(q:Int)<=(c:Int):=I;have hq0:(0:Int)<=(q:Int):=I;have hq2:(q:Int)<=(out:Int):=I;have hk1:(k:Int)<(l:Int):=I;have hk0:(0:Int)<=(k:Int):=I;have hqc':q<=c:=I;have HLEN:=aYf HOWN.out.1;have HLEN:=aYf HOWN1.out.1;rcases HOWN1.out.2 with ⟨e,hn0⟩ | ⟨g,cap,cur,e,hg,hcur,hn1,hcap,hcs,htk⟩
    ·obtain rfl:out=[]:=List.length_eq_zero_iff.1 hn0
     obtain rfl:q=0:=by simpa using hkl
     cases e;have HS1:=aYf (show Sl w1 (fun b=>b<w1.heap.size) 4 none 0 [] from ⟨rfl,fun h=>absurd h I⟩);have HS3:=HS1
     go_region_held3 (fun w'=>qc w' b1 (o1+k*4) y.kind∧qc w' b1 (o1+k*4+1) y.n∧qc w' b1 (o1+k*4+2) y.s∧qc w' b1 (o1+k*4+3) (.slice A1 y.kids d1))
      (first
       | go_keep
       | (go_split_ands
          exact ⟨(hbl4.cell (p:=qt b1 _) lb1).trans ‹_›,(hbl4.cell (p:=qt b1 _) lb1).trans ‹_›,(hbl4.cell (p:=qt b1 _) lb1).trans ‹_›,(hbl4.cell (p:=qt b1 _) lb1).trans ‹_›⟩)
       | (go_split_ands
          exact ⟨(hbl3.cell (p:=qt b1 _) lb1).trans ‹_›,(hbl3.cell (p:=qt b1 _) lb1).trans ‹_›,(hbl3.cell (p:=qt b1 _) lb1).trans ‹_›,(hbl3.cell (p:=qt b1 _) lb1).trans ‹_›⟩)
       | (go_split_ands
          exact ⟨(hbl2.cell (p:=qt b1 _) lb1).trans ‹_›,(hbl2.cell (p:=qt b1 _) lb1).trans ‹_›,(hbl2.cell (p:=qt b1 _) lb1).trans ‹_›,(hbl2.cell (p:=qt b1 _) lb1).trans ‹_›⟩))
      (first
       | (refine gP _ (by rfl) (.tmp 25) (.tmp 28) 56 (by rfl) w1 58 i0 _ 4 56 Tryz.underlying56 HI.out hz0 hz1 hz2 rfl (by omega) (by rfl) _ none 0 0 [] (by rfl) (HS1.out.ext (by repeat (first | exact aq _ | refine Ext.drew' ?_ | refine Ext.alloc' ?_ _))) (by simp) (by omega) (by omega) (by simp) ?_;intro v2 w2 ho2 hx2 hbl2;have hw2:Below w1 w1 w2:=(by first | exact (Below.refl _ w1).drew.trans hbl2 | exact ((Below.refl _ w1).drew.alloc (ab _) _).trans hbl2))
       | (refine bW _ (by rfl) (.tmp 35) (.tmp 38) 56 (by rfl) w1 58 i0 _ 4 56 Tryz.underlying56 HI.out hz0 hz1 hz2 rfl (by omega) v3 (0+1) ([] ++ [.int .i64 y.kind,.int .i64 y.n,.string y.s,.slice A1 y.kids d1]) (by rfl) ho3 (fun b=>b<w1.heap.size) none 0 0 [] (by rfl) (HS3.out.keep (fun b _ hb=>hw3.block b hb) (fun _ h=>h)) (by simp) (by omega) (by omega) hw3.size ?_;intro v4 w4 ho4 hbl4)
       | (refine bW _ (by rfl) (.tmp 29) (.tmp 34) 56 (by rfl) w1 58 i0 _ 4 56 Tryz.underlying56 HI.out hz0 hz1 hz2 rfl (by omega) v2 0 [] (by rfl) (ho2.alloc _) (fun _=>True) (qp w2) 1 1 (qh y A1 d1) (by rfl) (Sl.new w2 _ _ _ _ rfl) (by simp [Value.oneCell']) (by omega) (by omega) ?_ ?_;(have hs2:=hw2.size;simp at hs2 ⊢;omega);intro v3 w3 ho3 hbl3;have hw3:Below w1 w1 w3:=(hw2.alloc hw2.size _).trans hbl3)
       | (refine bW _ (by rfl) (.tmp 29) (.tmp 34) 56 (by rfl) w1 58 i0 _ 4 56 Tryz.underlying56 HI.out hz0 hz1 hz2 rfl (by omega) v2 0 [] (by rfl) ho2 (fun _=>True) (qp w1) 1 1 (qh y A1 d1) (by rfl) ((Sl.new w1.drew _ _ _ _ rfl).ext hx2) (by simp [Value.oneCell']) (by omega) (by omega) ?_ ?_;(have hs2:=hw2.size;simp at hs2 ⊢;omega);intro v3 w3 ho3 hbl3;have hw3:Below w1 w1 w3:=hw2.trans hbl3))
     all_goals
      have HW4:=aYf (hw3.trans hbl4);have HO4:=aYf ho4;clear hw3 hbl4 hw2 hbl2 hbl3 ho4 ho3 ho2 hx2;go_wp2_with fail;go_roundw
      case rel =>
       refine ⟨k+1,[y],([] ++ [.int .i64 y.kind,.int .i64 y.n,.string y.s,.slice A1 y.kids d1]) ++ [],I,by go_num,?_,?_,HXW.out.trans' HW4.out,U,iq⟩
       ·have h:=HO4.out.base_le HXW.out.size
        rw [show 0+1+0=[y].length from rfl] at h;exact h
       ·have h2:RV w4 P y _:=(HV1.out.ext (HX1.out.trans' HW4.out)).rv
        exact (RVs.append (RVs.append (show RVs w4 P [] [] from rfl) (RVs.one h2)) (show RVs w4 P [] [] from rfl)).cast U
      case measure=>simp [intOf];omega
    ·cases e
     have hgl:g<w1:=Blk.lt (t:=58) hcur
     have HS0:=aYf (show Sl w1 (fun b=>b<w1.heap.size) 4 (qp g) out xs from by
      obtain ⟨A',c',e',_,_,h⟩:=Sl.of_own HOWN1.out;cases e';exact h _ (fun b hb=>by simp [Value.ownBlock] at hb;omega))
     have HS1:=aYf (HS0.out.take hkl);have HONE:=aYf HRV.out.oneCell;clear hcur hcs htk hcap;by_cases hqc:c=q
     ·subst hqc
      have HS3:=aYf (show Sl w1 (fun b=>b<w1.heap.size) 4 (qp g) 0 (xs.drop (c*4)) from
       ⟨by rw [am,HLEN.out];omega,fun h=>absurd h I⟩)
      go_region_held3 (fun w'=>qc w' b1 (o1+k*4) y.kind∧qc w' b1 (o1+k*4+1) y.n∧qc w' b1 (o1+k*4+2) y.s∧qc w' b1 (o1+k*4+3) (.slice A1 y.kids d1))
       (first
        | go_keep
        | (go_split_ands
           exact ⟨(hbl4.cell (p:=qt b1 _) lb1).trans ‹_›,(hbl4.cell (p:=qt b1 _) lb1).trans ‹_›,(hbl4.cell (p:=qt b1 _) lb1).trans ‹_›,(hbl4.cell (p:=qt b1 _) lb1).trans ‹_›⟩)
        | (go_split_ands
           exact ⟨(hbl3.cell (p:=qt b1 _) lb1).trans ‹_›,(hbl3.cell (p:=qt b1 _) lb1).trans ‹_›,(hbl3.cell (p:=qt b1 _) lb1).trans ‹_›,(hbl3.cell (p:=qt b1 _) lb1).trans ‹_›⟩)
        | (go_split_ands
           exact ⟨(hbl2.cell (p:=qt b1 _) lb1).trans ‹_›,(hbl2.cell (p:=qt b1 _) lb1).trans ‹_›,(hbl2.cell (p:=qt b1 _) lb1).trans ‹_›,(hbl2.cell (p:=qt b1 _) lb1).trans ‹_›⟩))
       (first
        | (refine gP _ (by rfl) (.tmp 25) (.tmp 28) 56 (by rfl) w1 58 i0 _ 4 56 Tryz.underlying56 HI.out hz0 hz1 hz2 rfl (by omega) (by rfl) _ (qp g) c c (xs.take (c*4)) (by rfl) (HS1.out.ext (by repeat (first | exact aq _ | refine Ext.drew' ?_ | refine Ext.alloc' ?_ _))) (fun u hu=>HONE.out u (List.mem_of_mem_take hu)) (by omega) (by omega) (by simp) ?_;intro v2 w2 ho2 hx2 hbl2;have hw2:Below w1 w1 w2:=(by first | exact (Below.refl _ w1).drew.trans hbl2 | exact ((Below.refl _ w1).drew.alloc (ab _) _).trans hbl2))
        | (refine bW _ (by rfl) (.tmp 35) (.tmp 38) 56 (by rfl) w1 58 i0 _ 4 56 Tryz.underlying56 HI.out hz0 hz1 hz2 rfl (by omega) v3 (c+1) (xs.take (c*4) ++ [.int .i64 y.kind,.int .i64 y.n,.string y.s,.slice A1 y.kids d1]) (by rfl) ho3 (fun b=>b<w1.heap.size) (qp g) 0 0 (xs.drop (c*4)) (by rfl) (HS3.out.keep (fun b _ hb=>hw3.block b hb) (fun _ h=>h)) (fun u hu=>HONE.out u (List.mem_of_mem_drop hu)) (by omega) (by omega) hw3.size ?_;intro v4 w4 ho4 hbl4)
        | (refine bW _ (by rfl) (.tmp 29) (.tmp 34) 56 (by rfl) w1 58 i0 _ 4 56 Tryz.underlying56 HI.out hz0 hz1 hz2 rfl (by omega) v2 c (xs.take (c*4)) (by rfl) (ho2.alloc _) (fun _=>True) (qp w2) 1 1 (qh y A1 d1) (by rfl) (Sl.new w2 _ _ _ _ rfl) (by simp [Value.oneCell']) (by omega) (by omega) ?_ ?_;(have hs2:=hw2.size;simp at hs2 ⊢;omega);intro v3 w3 ho3 hbl3;have hw3:Below w1 w1 w3:=(hw2.alloc hw2.size _).trans hbl3)
        | (refine bW _ (by rfl) (.tmp 29) (.tmp 34) 56 (by rfl) w1 58 i0 _ 4 56 Tryz.underlying56 HI.out hz0 hz1 hz2 rfl (by omega) v2 c (xs.take (c*4)) (by rfl) ho2 (fun _=>True) (qp w1) 1 1 (qh y A1 d1) (by rfl) ((Sl.new w1.drew _ _ _ _ rfl).ext hx2) (by simp [Value.oneCell']) (by omega) (by omega) ?_ ?_;(have hs2:=hw2.size;simp at hs2 ⊢;omega);intro v3 w3 ho3 hbl3;have hw3:Below w1 w1 w3:=hw2.trans hbl3))
      all_goals
       have HW4:=aYf (hw3.trans hbl4);have HO4:=aYf ho4;clear hw3 hbl4 hw2 hbl2 hbl3 ho4 ho3 ho2 hx2;go_wp2_with fail;go_roundw
       case rel =>
        refine ⟨k+1,out.take c ++ y :: out.drop c,(xs.take (c*4) ++ [.int .i64 y.kind,.int .i64 y.n,.string y.s,.slice A1 y.kids d1]) ++ xs.drop (c*4),I,by go_num,?_,?_,HXW.out.trans' HW4.out,bh,iq⟩
        ·have h:=HO4.out.base_le HXW.out.size
         rw [show c+1+0=(out.take c ++ y :: out.drop c).length by simp;omega] at h;exact h
        ·have hk:aB P wr w4:=aB.of_ext (HX1.out.trans' HW4.out)
         have h1:=RVs.keep hk (fun _ h=>h) HRV.out;have h2:RV w4 P y _:=(HV1.out.ext (HX1.out.trans' HW4.out)).rv;exact (RVs.append (RVs.append (h1.take c) (RVs.one h2)) (h1.drop c)).cast U
       case measure=>simp [intOf];omega
     ·have HS3:=aYf (HS0.out.drop hkl)
      rw [Nat.zero_add] at HS3
      go_region_held3 (fun w'=>qc w' b1 (o1+k*4) y.kind∧qc w' b1 (o1+k*4+1) y.n∧qc w' b1 (o1+k*4+2) y.s∧qc w' b1 (o1+k*4+3) (.slice A1 y.kids d1))
       (first
        | go_keep
        | (go_split_ands
           exact ⟨(hbl4.cell (p:=qt b1 _) lb1).trans ‹_›,(hbl4.cell (p:=qt b1 _) lb1).trans ‹_›,(hbl4.cell (p:=qt b1 _) lb1).trans ‹_›,(hbl4.cell (p:=qt b1 _) lb1).trans ‹_›⟩)
        | (go_split_ands
           exact ⟨(hbl3.cell (p:=qt b1 _) lb1).trans ‹_›,(hbl3.cell (p:=qt b1 _) lb1).trans ‹_›,(hbl3.cell (p:=qt b1 _) lb1).trans ‹_›,(hbl3.cell (p:=qt b1 _) lb1).trans ‹_›⟩)
        | (go_split_ands
           exact ⟨(hbl2.cell (p:=qt b1 _) lb1).trans ‹_›,(hbl2.cell (p:=qt b1 _) lb1).trans ‹_›,(hbl2.cell (p:=qt b1 _) lb1).trans ‹_›,(hbl2.cell (p:=qt b1 _) lb1).trans ‹_›⟩))
       (first
        | (refine gP _ (by rfl) (.tmp 25) (.tmp 28) 56 (by rfl) w1 58 i0 _ 4 56 Tryz.underlying56 HI.out hz0 hz1 hz2 rfl (by omega) (by rfl) _ (qp g) q c (xs.take (q*4)) (by rfl) (HS1.out.ext (by repeat (first | exact aq _ | refine Ext.drew' ?_ | refine Ext.alloc' ?_ _))) (fun u hu=>HONE.out u (List.mem_of_mem_take hu)) (by omega) (by omega) (by simp) ?_;intro v2 w2 ho2 hx2 hbl2;have hw2:Below w1 w1 w2:=(by first | exact (Below.refl _ w1).drew.trans hbl2 | exact ((Below.refl _ w1).drew.alloc (ab _) _).trans hbl2))
        | (refine bW _ (by rfl) (.tmp 35) (.tmp 38) 56 (by rfl) w1 58 i0 _ 4 56 Tryz.underlying56 HI.out hz0 hz1 hz2 rfl (by omega) v3 (q+1) (xs.take (q*4) ++ [.int .i64 y.kind,.int .i64 y.n,.string y.s,.slice A1 y.kids d1]) (by rfl) ho3 (fun b=>b<w1.heap.size) (qt g (q*4)) (out.length - q) (c - q) (xs.drop (q*4)) (by rfl) (HS3.out.keep (fun b _ hb=>hw3.block b hb) (fun _ h=>h)) (fun u hu=>HONE.out u (List.mem_of_mem_drop hu)) (by omega) (by omega) hw3.size ?_;intro v4 w4 ho4 hbl4)
        | (refine bW _ (by rfl) (.tmp 29) (.tmp 34) 56 (by rfl) w1 58 i0 _ 4 56 Tryz.underlying56 HI.out hz0 hz1 hz2 rfl (by omega) v2 q (xs.take (q*4)) (by rfl) (ho2.alloc _) (fun _=>True) (qp w2) 1 1 (qh y A1 d1) (by rfl) (Sl.new w2 _ _ _ _ rfl) (by simp [Value.oneCell']) (by omega) (by omega) ?_ ?_;(have hs2:=hw2.size;simp at hs2 ⊢;omega);intro v3 w3 ho3 hbl3;have hw3:Below w1 w1 w3:=(hw2.alloc hw2.size _).trans hbl3)
        | (refine bW _ (by rfl) (.tmp 29) (.tmp 34) 56 (by rfl) w1 58 i0 _ 4 56 Tryz.underlying56 HI.out hz0 hz1 hz2 rfl (by omega) v2 q (xs.take (q*4)) (by rfl) ho2 (fun _=>True) (qp w1) 1 1 (qh y A1 d1) (by rfl) ((Sl.new w1.drew _ _ _ _ rfl).ext hx2) (by simp [Value.oneCell']) (by omega) (by omega) ?_ ?_;(have hs2:=hw2.size;simp at hs2 ⊢;omega);intro v3 w3 ho3 hbl3;have hw3:Below w1 w1 w3:=hw2.trans hbl3))
      all_goals
       have HW4:=aYf (hw3.trans hbl4);have HO4:=aYf ho4;clear hw3 hbl4 hw2 hbl2 hbl3 ho4 ho3 ho2 hx2;go_wp2_with fail;go_roundw
       case rel =>
        refine ⟨k+1,out.take q ++ y :: out.drop q,(xs.take (q*4) ++ [.int .i64 y.kind,.int .i64 y.n,.string y.s,.slice A1 y.kids d1]) ++ xs.drop (q*4),I,by go_num,?_,?_,HXW.out.trans' HW4.out,bh,iq⟩
        ·have h:=HO4.out.base_le HXW.out.size
         rw [show q+1+(out.length - q)=(out.take q ++ y :: out.drop q).length by simp;omega] at h;exact h
        ·have hk:aB P wr w4:=aB.of_ext (HX1.out.trans' HW4.out)
         have h1:=RVs.keep hk (fun _ h=>h) HRV.out;have h2:RV w4 P y _:=(HV1.out.ext (HX1.out.trans' HW4.out)).rv;exact (RVs.append (RVs.append (h1.take q) (RVs.one h2)) (h1.drop q)).cast U
       case measure=>simp [intOf];omega
   ·go_wp2_with fail
    go_roundw
    case rel=>exact ⟨k+1,out,xs,I,by go_num,HOWN1.out,RVs.keep (aB.of_ext HX1.out) (fun _ h=>h) HRV.out,HXW.out,I,iq⟩
    case measure=>simp [intOf];omega
  ·have HZ:=aYf (show eS l=out by rw [HT.out,drop_nil I];rfl)
   go_wp2_with fail;go_ret;refine ⟨_,xs,rfl,?_,?_,HX.out⟩
   ·rw [HZ.out];exact HOWN.out
   ·rw [HZ.out];exact HRV.out
theorem Gy (l:List GV)(P:Nat->Prop)(vl:Value)(w:World)(hl:bZ w P vl l)(hlen:l.length<=10000000) :
  qg 120 #[vl] w (zh P (eS l) w):=nY l P P vl w hl.two hlen
def fmA (x:GN)(bf:Bool):Bool:=!bf || decide (x.kind<0) || decide (4<x.kind)
def fmK (i z:Int):Bool:=decide (z<0) || decide (i<=z)
def fmC (x:GN):Bool:=decide (x.kind=2) && (decide ((x.kids:Int)<1) || decide (256<(x.kids:Int)) || !decide (x.weights.length=x.kids) || (decide (0<x.labels.length) && !decide (x.labels.length=x.kids)))
def fmS (x:GN)(bc:Bool):Bool:=(decide (x.kind=3) && (decide (256<(x.kids:Int)) || (!bF x.name && (!bc || decide (16<(x.kids:Int)))))) || (decide (x.kind=4) && !decide (x.kids.length=(x.values.length+1)))
def qM:List GV->Bool
 | a :: b :: l=>decide (cS a b<0) && qM (b :: l)
 | _=>true
def eO (i:Int)(x:GN):Bool:=!fmA x (gO x) && (x.kids.all (fun z=>!fmK i z)) && !fmC x && !fmS x (rO x.name) && qM x.values
def Ia (i:Int)(x:GN)(W:World)(k:Value)(wr:World):Prop:=∃ j:Nat,j<=x.kids.length∧k=↑j∧W=wr∧(x.kids.all (fun z=>!fmK i z))=((x.kids.drop j).all (fun z=>!fmK i z))
def Eg (x:GN)(W:World)(k:Value)(wr:World):Prop:=∃ j:Nat,1<=j∧j<=x.values.length+1∧k=↑j∧Ext W wr∧qM x.values=qM (x.values.drop (j - 1))
theorem nM {l:List GV}(h:l.length<=1):qM l=true:=by
 match l,h with
 | [],_=>rfl
 | [_],_=>rfl
theorem qQ (i:Int)(x:GN)(a:NA)(P:Nat->Prop)(w:World)(hx:NAt w P x a) :
  qg 55 #[↑i,fE x a] w (dE (eO i x) w):=by
 have HX:=aYf hx;have HF:=aYf (show eO i x=(!fmA x (gO x) && (x.kids.all (fun z=>!fmK i z)) && !fmC x && !fmS x (rO x.name) && qM x.values) from rfl);obtain ⟨hkl,hkc⟩:=hx.kids.le;obtain ⟨hvl,hvc⟩:=hx.values.le;have HNM:=aYf hx.name;clear hx;go_enter Tryz.func55,Tryz.ntmps55;go_wp2_with fail;refine (KO x a _).mono ?_;rintro e w1 ⟨rfl,hx1⟩;have HBX:=aYf ((aw w 60 (aN x a).toArray).ext hx1);have HE:=aYf (((aq w).alloc' _).trans' hx1);clear hx1;have hb0:=HBX.out.cell' (u:=↑x.kind) 0 rfl;have hb1:=HBX.out.cell' (u:=x.name) 1 rfl;have hb4:=HBX.out.cell' (u:=.slice a.wA x.weights a.wc) 4 rfl;have hb5:=HBX.out.cell' (u:=.slice a.lA x.labels a.lc) 5 rfl;have hb6:=HBX.out.cell' (u:=.slice a.vA x.values a.vc) 6 rfl;have hb7:=HBX.out.cell' (u:=.slice a.kA x.kids a.kc) 7 rfl;generalize gO x=bf at *;go_upto_region 2 with fail;go_cut [5,23] (fun _ s wx=>s=.bool (fmA x bf)∧w1=wx)
 case first =>
  by_cases hf:bf=true
  ·by_cases hkn:x.kind<0
   ·have t0kn:decide (x.kind<0)=true:=aYi hkn
    go_wp2_with fail;go_meet;exact ⟨congrArg Value.bool (by unfold fmA;rw [hf,(show decide (x.kind<0)=true from aYi I)];try rfl),rfl⟩
   ·have t0kn:decide (x.kind<0)=false:=aYj hkn
    by_cases hkp:4<x.kind
    ·have t0kp:decide (4<x.kind)=true:=aYi hkp
     go_wp2_with fail;go_meet;exact ⟨congrArg Value.bool (by unfold fmA;rw [hf,(show decide (x.kind<0)=false from aYj I),(show decide (4<x.kind)=true from aYi I)];try rfl),rfl⟩
    ·have t0kp:decide (4<x.kind)=false:=aYj hkp
     go_wp2_with fail;go_meet;exact ⟨congrArg Value.bool (by unfold fmA;rw [hf,(show decide (x.kind<0)=false from aYj I),(show decide (4<x.kind)=false from aYj I)];try rfl),rfl⟩
  ·have t0f:bf=false:=by simpa using hf
   go_wp2_with fail;go_meet;exact ⟨congrArg Value.bool (by unfold fmA;rw [(Bool.eq_false_iff.2 hf)];try rfl),rfl⟩
 case rest =>
  obtain ⟨rfl,rfl⟩:=hcut;generalize fmA x bf=b2 at *;cases b2
  ·go_wp2_with fail
   go_loopw [6] (fun k wr=>Ia i x w1 k wr) (fun k _=>x.kids.length - (intOf k).toNat)
   case atStart=>exact ⟨0,af _,rfl,rfl,rfl⟩
   case round =>
    obtain ⟨j,hj,rfl,rfl,ht⟩:=hrel;have HT:=aYf ht;clear ht;by_cases hlt:j<x.kids
    ·obtain ⟨b1,o1,e1,-,-,g1⟩:=(HX.out.kids.ext HE.out).get hlt
     have HD:=aYf (HT.out.trans (by rw [aJ 0 hlt,List.all_cons]));rw [e1] at hb7;clear e1;generalize x.kids.getD j 0=z at *;go_upto_region 7 with fail;go_cut [45] (fun s wx=>s=.bool (fmK i z)∧w1=wx)
     case first =>
      by_cases hz0:z<0
      ·have t0z0:decide (z<0)=true:=aYi hz0
       go_wp2_with fail;go_meet;exact ⟨congrArg Value.bool (by unfold fmK;rw [(show decide (z<0)=true from aYi I)];try rfl),rfl⟩
      ·have t0z0:decide (z<0)=false:=aYj hz0
       by_cases hzi:i<=z
       ·have t0zi:decide (i<=z)=true:=aYi hzi
        go_wp2_with fail;go_meet;exact ⟨congrArg Value.bool (by unfold fmK;rw [(show decide (z<0)=false from aYj I),(show decide (i<=z)=true from aYi I)];try rfl),rfl⟩
       ·have t0zi:decide (i<=z)=false:=aYj hzi
        go_wp2_with fail;go_meet;exact ⟨congrArg Value.bool (by unfold fmK;rw [(show decide (z<0)=false from aYj I),(show decide (i<=z)=false from aYj I)];try rfl),rfl⟩
     case rest =>
      obtain ⟨rfl,rfl⟩:=hcut;generalize fmK i z=b7 at *;cases b7
      ·go_wp2_with fail
       go_roundw
       case rel=>exact ⟨j+1,I,by go_num,rfl,HD.out.trans U⟩
       case measure=>simp [intOf];omega
      ·go_wp2_with fail
       go_ret;exact ⟨aD (by rw [HF.out,HD.out];simp),HE.out⟩
    ·have HKT:=aYf (show (x.kids.all (fun z=>!fmK i z))=true by rw [HT.out,drop_nil I];rfl)
     clear HT;go_upto_region 10 with fail;go_cut [79] (fun s wx=>s=.bool (fmC x)∧w1=wx)
     case first =>
      by_cases hk2:x.kind=2
      ·have t0k2:(x.kind == 2)=true:=aYh hk2
       have Hk2:=aYf hk2;clear hk2;by_cases hn1:(x.kids:Int)<1
       ·have t0n1:decide ((x.kids:Int)<1)=true:=aYi hn1
        go_wp2_with fail;go_meet;exact ⟨congrArg Value.bool (by unfold fmC;rw [aYi Hk2.out,(show decide ((x.kids:Int)<1)=true from aYi I)];try rfl),rfl⟩
       ·have t0n1:decide ((x.kids:Int)<1)=false:=aYj hn1
        by_cases hn256:256<(x.kids:Int)
        ·have t0n256:decide (256<(x.kids:Int))=true:=aYi hn256
         go_wp2_with fail;go_meet;exact ⟨congrArg Value.bool (by unfold fmC;rw [aYi Hk2.out,(show decide ((x.kids:Int)<1)=false from aYj I),(show decide (256<(x.kids:Int))=true from aYi I)];try rfl),rfl⟩
        ·have t0n256:decide (256<(x.kids:Int))=false:=aYj hn256
         by_cases hwn:x.weights.length=x.kids
         ·have t0wn:((x.weights:Int) != (x.kids:Int))=false:=by rw [bne_eq_false_iff_eq];omega
          have Hwn:=aYf hwn;clear hwn;by_cases hl0:0<x.labels.length
          ·have t0l0:decide (0<(x.labels:Int))=true:=aYi I
           have t2l0:((x.labels:Int) != 0)=true:=bne_iff_ne.2 I;by_cases hln:x.labels.length=x.kids
           ·have t0ln:((x.labels:Int) != (x.kids:Int))=false:=by rw [bne_eq_false_iff_eq];omega
            have Hln:=aYf hln;clear hln;go_wp2_with fail;go_meet;exact ⟨congrArg Value.bool (by unfold fmC;rw [aYi Hk2.out,(show decide ((x.kids:Int)<1)=false from aYj I),(show decide (256<(x.kids:Int))=false from aYj I),aYi Hwn.out,aYi hl0,aYi Hln.out];try rfl),rfl⟩
           ·have t0ln:((x.labels:Int) != (x.kids:Int))=true:=bne_iff_ne.2 I
            go_wp2_with fail;go_meet;exact ⟨congrArg Value.bool (by unfold fmC;rw [aYi Hk2.out,(show decide ((x.kids:Int)<1)=false from aYj I),(show decide (256<(x.kids:Int))=false from aYj I),aYi Hwn.out,aYi hl0,aYj hln];try rfl),rfl⟩
          ·have t0l0:decide (0<(x.labels:Int))=false:=aYj I
           have t2l0:((x.labels:Int) != 0)=false:=iu;go_wp2_with fail;go_meet;exact ⟨congrArg Value.bool (by unfold fmC;rw [aYi Hk2.out,(show decide ((x.kids:Int)<1)=false from aYj I),(show decide (256<(x.kids:Int))=false from aYj I),aYi Hwn.out,aYj hl0];try rfl),rfl⟩
         ·have t0wn:((x.weights:Int) != (x.kids:Int))=true:=bne_iff_ne.2 I
          go_wp2_with fail;go_meet;exact ⟨congrArg Value.bool (by unfold fmC;rw [aYi Hk2.out,(show decide ((x.kids:Int)<1)=false from aYj I),(show decide (256<(x.kids:Int))=false from aYj I),aYj hwn];try rfl),rfl⟩
      ·have t0k2:(x.kind == 2)=false:=aYg hk2
       go_wp2_with fail;go_meet;exact ⟨congrArg Value.bool (by unfold fmC;rw [aYj hk2];try rfl),rfl⟩
     case rest =>
      obtain ⟨rfl,rfl⟩:=hcut;generalize fmC x=b10 at *;cases b10
      ·go_wp2_with fail
       refine (sN _ _ HNM.out).mono ?_;rintro e w' ⟨rfl,rfl⟩;generalize rO x.name=bc at *;go_upto_region 13 with fail;go_cut [8,115] (fun _ s wx=>s=.bool (fmS x bc)∧w1=wx)
       case first =>
        by_cases hk3:x.kind=3
        ·have t0k3:(x.kind == 3)=true:=aYh hk3
         have hk4:¬ x.kind=4:=I;have t0k4:(x.kind == 4)=false:=aYg hk4;have Hk3:=aYf hk3;clear hk3;by_cases hm256:256<(x.kids:Int)
         ·have t0m256:decide (256<(x.kids:Int))=true:=aYi hm256
          go_wp2_with fail;go_meet;exact ⟨congrArg Value.bool (by unfold fmS;rw [aYi Hk3.out,(show decide (256<(x.kids:Int))=true from aYi I)];try rfl),rfl⟩
         ·have t0m256:decide (256<(x.kids:Int))=false:=aYj hm256
          by_cases hnm:x.name.toList=[]
          ·have t0nm:x.name.toList.isEmpty=true:=by rw [hnm];rfl
           go_wp2_with fail;go_meet;exact ⟨congrArg Value.bool (by unfold fmS;rw [aYj hk4,aYi Hk3.out,(show decide (256<(x.kids:Int))=false from aYj I),iF hnm];try rfl),rfl⟩
          ·have t0nm:x.name.toList.isEmpty=false:=by simpa using hnm
           by_cases hcp:bc=true
           ·by_cases hm16:16<(x.kids:Int)
            ·have t0m16:decide (16<(x.kids:Int))=true:=aYi hm16
             go_wp2_with fail;go_meet;exact ⟨congrArg Value.bool (by unfold fmS;rw [aYi Hk3.out,(show decide (256<(x.kids:Int))=false from aYj I),iG hnm,hcp,(show decide (16<(x.kids:Int))=true from aYi I)];try rfl),rfl⟩
            ·have t0m16:decide (16<(x.kids:Int))=false:=aYj hm16
             go_wp2_with fail;go_meet;exact ⟨congrArg Value.bool (by unfold fmS;rw [aYj hk4,aYi Hk3.out,(show decide (256<(x.kids:Int))=false from aYj I),iG hnm,hcp,(show decide (16<(x.kids:Int))=false from aYj I)];try rfl),rfl⟩
           ·have t0cp:bc=false:=by simpa using hcp
            go_wp2_with fail;go_meet;exact ⟨congrArg Value.bool (by unfold fmS;rw [aYi Hk3.out,(show decide (256<(x.kids:Int))=false from aYj I),iG hnm,(Bool.eq_false_iff.2 hcp)];try rfl),rfl⟩
        ·have t0k3:(x.kind == 3)=false:=aYg hk3
         by_cases hk4:x.kind=4
         ·have t0k4:(x.kind == 4)=true:=aYh hk4
          have Hk4:=aYf hk4;clear hk4;by_cases hvn:x.kids.length=(x.values.length+1)
          ·have t0vn:((x.kids:Int) != ((x.values:Int)+1))=false:=by rw [bne_eq_false_iff_eq];omega
           have Hvn:=aYf hvn;clear hvn;go_wp2_with fail;go_meet;exact ⟨congrArg Value.bool (by unfold fmS;rw [aYj hk3,aYi Hk4.out,aYi Hvn.out];try rfl),rfl⟩
          ·have t0vn:((x.kids:Int) != ((x.values:Int)+1))=true:=bne_iff_ne.2 I
           go_wp2_with fail;go_meet;exact ⟨congrArg Value.bool (by unfold fmS;rw [aYj hk3,aYi Hk4.out,aYj hvn];try rfl),rfl⟩
         ·have t0k4:(x.kind == 4)=false:=aYg hk4
          go_wp2_with fail;go_meet;exact ⟨congrArg Value.bool (by unfold fmS;rw [aYj hk3,aYj hk4];try rfl),rfl⟩
       case rest =>
        obtain ⟨rfl,rfl⟩:=hcut;generalize fmS x bc=b13 at *;cases b13
        ·go_wp2_with fail
         go_loopw [9] (fun k wr=>Eg x w1 k wr) (fun k _=>x.values.length+1 - (intOf k).toNat)
         case atStart=>exact ⟨1,I,I,rfl,aq _,rfl⟩
         case round =>
          obtain ⟨j,hj1,hj2,rfl,hxr,ht⟩:=hrel;have HT:=aYf ht;have HXR:=aYf hxr;have hr6:=aA hxr hb6;clear ht hxr;by_cases hlt':j<x.values
          ·obtain ⟨q,rfl⟩:∃ q,j=q+1:=⟨j - 1,I⟩
           have hq:q<x.values.length:=I;obtain ⟨v1,o1,A1,d1,e1,-,hv1,g10,g11,g12,g13⟩:=(HX.out.values.ext (HE.out.trans' HXR.out)).get hq;obtain ⟨v2,o2,A2,d2,e2,-,hv2,g20,g21,g22,g23⟩:=(HX.out.values.ext (HE.out.trans' HXR.out)).get hlt';rw [e1] at e2 hr6;injection e2 with e2;injection e2 with e21 e22;subst e21 e22
           have HD:=aYf (show qM x.values=(decide (cS (x.values.getD q default) (x.values.getD (q+1) default)<0) && qM (x.values.drop (q+1))) by
            rw [HT.out,Nat.add_sub_cancel,aJ default hq,aJ default hlt'];rfl)
           have HV1:=aYf hv1;have HV2:=aYf hv2;clear e1 hv1 hv2;generalize x.values.getD q default=y1 at *;generalize x.values.getD (q+1) default=y2 at *;have hq1:(0:Int)<=(q:Int)+1:=by omega
           have hq2:((q:Int)+1).toNat=q+1:=I;have hq3:IntKind.i64.wrap ((q:Int)+1 - 1)=(q:Int):=by rw [IntWalk.i64_in _ I];omega
           have hq4:IntKind.i64.wrap (q:Int)=(q:Int):=IntWalk.i64_in _ I;have hq5:wrap64 (q:Int)=(q:Int):=IntWalk.wrap64_in _ I;go_wp2_with fail;go_still_tail 11,av;clear hq1 hq2 hq3 hq4 hq5;go_wp2_with fail;refine (gS y1 y2 A1 A2 d1 d2 P P _ (HV1.out.ext (aq _).drew') (HV2.out.ext (aq _).drew')).mono ?_;rintro e w2 ⟨rfl,hx2⟩;have HX2:=aYf (HXR.out.trans' ((aq _).drew'.trans' hx2));clear hx2;by_cases hz:cS y1 y2<0
           ·have tz:decide (0<=cS y1 y2)=false:=aYj I
            have HZ:=aYf hz;go_wp2_with fail;go_roundw
            case rel=>exact ⟨q+2,I,I,by go_num,HX2.out,ji⟩
            case measure=>simp [intOf];omega
           ·have tz:decide (0<=cS y1 y2)=true:=aYi I
            have HZ:=aYf hz;go_wp2_with fail;go_ret;exact ⟨aD (by rw [HF.out,HD.out,aYj (show ¬ cS y1 y2<0 by have:=HZ.out;omega)];simp),HE.out.trans' HX2.out⟩
          ·have HZ:=aYf (show qM x.values=true by rw [HT.out];exact nM iw)
           go_wp2_with fail;go_ret;exact ⟨aD (by rw [HF.out,HKT.out,HZ.out];rfl),HE.out.trans' HXR.out⟩
        ·go_wp2_with fail
         go_ret;exact ⟨aD (by rw [HF.out];simp),HE.out⟩
      ·go_wp2_with fail
       go_ret;exact ⟨aD (by rw [HF.out];simp),HE.out⟩
  ·go_wp2_with fail
   go_ret;exact ⟨aD (by rw [HF.out];rfl),HE.out⟩
section
variable {P:Program}
theorem aM (w:World){ops:Array Oper}{rest:List Oper}{o:Oper}{a:Act}{Q:Exit->Act->World->Prop}(hgd:o.guard=none)(s x:Operand)(t:TypeId)
  (ho:o.op=.call { callee:=.builtin .append,args:=#[s,x],argTypes:=#[t,t] })
  (B:Nat)(e:TypeId)(i:TypeInfo)(z:Value)(size bytes:Nat)(ht:P.underlying t=some (.slice e))(hi:P.info? e=some i)(hz:i.zero=some z)
  (hsize:i.size=size)(hby:i.bytes=bytes)(hzs:z.cells.size=size)(hsz:0<size)
  (v:Value)(n:Nat)(xs:List Value)(hs:a.eval s=v)(hown:w.ownsRow B e size v n xs)
  (S:Nat->Prop)(A:Option Addr)(m c:Nat)(news:List Value)(hx:a.eval x=.slice A m c)(hr:Sl w S size A m news)(h1:∀ u ∈ news,u.oneCell'=true)
  (h63:n+m<=1000000000000)(hbytes:(n+m)*bytes<=140737488355328)(hbase:B<=w)
  (h:∀ v' w',w'.ownsRow B e size v' (n+m) (xs ++ news)->Below B w w'->wpList P ops Q rest (a.put o.dst v') w'):wpList P ops Q (o :: rest) a w :=
 aS w hgd s x t ho B e i z size bytes ht hi hz hsize hby hzs hsz v n xs hs hown S A m c news hx hr h1 h63 hbytes hbase fun v' w' h2 h3 _ =>
  h v' w' h2 ⟨h3.os,h3.tape,h3.output,h3.size,fun k hk=>h3.block k I (fun e=>by have:=hown.block_ge e.symm;omega)⟩
end
theorem Sl.len_cast {w:World}{P:Nat->Prop}{size:Nat}{A:Option Addr}{n m:Nat}{cs:List Value}(h:Sl w P size A n cs)(e:n=m):Sl w P size A m cs:=e ▸ h
def cW:List GV->Int
 | []=>0
 | v :: vs=>if eI v=0 then cW vs else eI v
def bY (x:GN):List GV:=if x.kind=0 then x.value :: x.values else x.values
def iK (i:Int)(x:GN):Int :=
 if eO i x=false then 1 else if cW (bY x)=0 then (if bQ x then 0 else 5) else cW (bY x)
def yj (l:List GV)(W:World)(k:Value)(wr:World):Prop:=∃ j:Nat,j<=l.length∧k=↑j∧Ext W wr∧cW l=cW (l.drop j)
theorem Dg (i:Int)(x:GN)(a:NA)(P:Nat->Prop)(w:World)(hx:NAt w P x a)(hvl:x.values.length<=1000000000)(hk:x.kind=0) :
  qg 30 #[↑i,fE x a] w (dE (.int .i64 (iK i x)) w):=by
 have HX:=aYf hx;have HN:=aYf (show iK i x=if eO i x=false then 1 else if cW (bY x)=0 then (if bQ x then 0 else 5) else cW (bY x) from rfl);have HOV:=aYf (show bY x=[x.value] ++ x.values by unfold bY;rw [if_pos hk];rfl);have t0:(x.kind == 0)=true:=aYh hk;obtain ⟨hvl1,hvl2⟩:=hx.values.le;clear hx hk;obtain ⟨i0,hi,hz0,hz1,hz2⟩:=info_parts Tryz.info58;have HI:=aYf hi;clear hi;go_enter Tryz.func30,Tryz.ntmps30;go_wp2_with fail;refine (qQ i x a P _ (HX.out.ext ((aq _).alloc' _))).mono ?_;rintro e w1 ⟨rfl,hx1⟩;have HBX:=aYf ((aw w 60 (aN x a).toArray).ext hx1);have HE:=aYf (((aq w).alloc' _).trans' hx1);clear hx1;have hb0:=HBX.out.cell' (u:=↑x.kind) 0 rfl;have hb6:=HBX.out.cell' (u:=.slice a.vA x.values a.vc) 6 rfl;have hb8:=HBX.out.cell' (u:=↑x.value.kind) 8 rfl;have hb9:=HBX.out.cell' (u:=↑x.value.n) 9 rfl;have hb10:=HBX.out.cell' (u:=x.value.s) 10 rfl;have hb11:=HBX.out.cell' (u:=.slice a.xA x.value.kids a.xc) 11 rfl;generalize eO i x=bf at *;cases bf
 ·go_wp2_with fail
  go_ret;exact ⟨aK (by rw [HN.out];rfl),HE.out⟩
 ·have lw:=HBX.out.lt
  obtain ⟨vA,vc,css,ev,_,_,hvs,hvr⟩:=(HX.out.values.ext HE.out);injection ev with ev1 _ ev2;rw [<- ev1] at hvs;have HVS:=aYf hvs;have HVR:=aYf hvr;clear ev1 ev2 hvs hvr
  go_wp2_with (first
   | (at_builtin;refine aM _ rfl (.tmp 18) (.tmp 21) 56 dd w1 58 i0 _ 4 56 Tryz.underlying56 HI.out hz0 hz1 hz2 rfl I qn 0 [] rfl (aT _ _ _ _) (fun _=>True) (qp w1) 1 1 [x.value.kind,x.value.n,x.value.s,.slice a.xA x.value.kids a.xc] rfl (Sl.new w1 _ _ _ _ rfl) ci I I U ?_;intro v2 w2 ho2 hbl2;have hw2:Below w1 w1 w2:=((Below.refl _ w1).alloc (ab _) _).trans hbl2;have hc6:qc w2 w 6 (.slice a.vA x.values a.vc):=(hw2.cell (p:=qt w 6) lw).trans hb6;clear hbl2)
   | (at_builtin;refine aM _ rfl (.tmp 23) (.tmp 25) 56 dd w1 58 i0 _ 4 56 Tryz.underlying56 HI.out hz0 hz1 hz2 rfl I v2 _ _ rfl ho2 P a.vA x.values a.vc css rfl (HVS.out.ext hw2) HVR.out.oneCell I I hw2.size ?_;intro v3 w3 ho3 hbl3;have hw3:Below w1 w1 w3:=hw2.trans hbl3;clear hbl3 hc6))
  have hw3':Ext w1 w3:=hw3;have HW3:=aYf hw3';clear hw3'
  have HVL:=aYf (show bZ w3 (fun b=>P b∨w1<=b) v3 (bY x) by
   rw [HOV.out];obtain ⟨A,c,e,h1,h2,h3⟩:=Sl.of_own ho3;unfold maxLen at h2;refine ⟨A,c,_,by rw [e];congr 1;simp;omega,bh,⟨bh,h2⟩,(h3 _ (fun b hb=>.inr (ho3.block_ge hb))).len_cast bh,?_⟩;exact RVs.keep (P:=P) (fun _ _ _=>rfl) (fun _ h=>.inl h) (RVs.append (RVs.append (show RVs w3 P [] [] from rfl) (RVs.one ((HX.out.value.ext (HE.out.trans' HW3.out)).rv))) (RVs.keep (aB.of_ext HW3.out) (fun _ h=>h) HVR.out)))
  clear ho3 hw3 ho2 hw2;obtain ⟨AL,cL,eL,hL1,hL2⟩:=HVL.out.form;subst eL;go_loopw [7] (fun k wr=>yj (bY x) w3 k wr) (fun k _=>(bY x).length - (intOf k).toNat)
  case atStart=>exact ⟨0,af _,rfl,aq _,rfl⟩
  case round =>
   obtain ⟨j,hj,rfl,hxr,ht⟩:=hrel;have HT:=aYf ht;have HXR:=aYf hxr;clear ht hxr;by_cases hlt:j<(bY x)
   ·obtain ⟨b1,o1,A1,d1,rfl,-,hv1,g10,g11,g12,g13⟩:=(HVL.out.ext HXR.out).get hlt
    have HD:=aYf (show cW (bY x)=if eI ((bY x).getD j default)=0 then cW ((bY x).drop (j+1)) else eI ((bY x).getD j default) by
     rw [HT.out,aJ default hlt];rfl)
    have HV1:=aYf hv1;clear hv1;generalize (bY x).getD j default=y at *;go_wp2_with fail;refine (mC y A1 d1 _ _ HV1.out).mono ?_;rintro e w4 ⟨rfl,hx4⟩;have HX4:=aYf (HXR.out.trans' hx4);clear hx4;by_cases hz:eI y=0
    ·have HZ:=aYf hz
     have tz:(eI y != 0)=false:=er;clear hz;go_wp2_with fail;go_roundw
     case rel=>exact ⟨j+1,I,by go_num,HX4.out,jk⟩
     case measure=>simp [intOf];omega
    ·have HZ:=aYf hz
     have tz:(eI y != 0)=true:=bne_iff_ne.2 hz;have HN2:=aYf (show iK i x=eI y by rw [HN.out,if_neg U,HD.out,if_neg hz,if_neg hz]);clear hz;go_wp2_with fail;go_ret;exact ⟨aK HN2.out.symm,HE.out.trans' (HW3.out.trans' HX4.out)⟩
   ·have HN2:=aYf (show iK i x=if bQ x then 0 else 5 by
     rw [HN.out,if_neg U,HT.out,drop_nil I];rfl)
    have BX:=aYf (HBX.out.ext (HW3.out.trans' HXR.out));have x0:=BX.out.cell' (u:=↑x.kind) 0 rfl;have x1:=BX.out.cell' (u:=x.name) 1 rfl;have x2:=BX.out.cell' (u:=↑x.lo) 2 rfl;have x3:=BX.out.cell' (u:=↑x.hi) 3 rfl;have x4:=BX.out.cell' (u:=.slice a.wA x.weights a.wc) 4 rfl;have x5:=BX.out.cell' (u:=.slice a.lA x.labels a.lc) 5 rfl;have x6:=BX.out.cell' (u:=.slice a.vA x.values a.vc) 6 rfl;have x7:=BX.out.cell' (u:=.slice a.kA x.kids a.kc) 7 rfl;have x8:=BX.out.cell' (u:=↑x.value.kind) 8 rfl;have x9:=BX.out.cell' (u:=↑x.value.n) 9 rfl;have x10:=BX.out.cell' (u:=x.value.s) 10 rfl;have x11:=BX.out.cell' (u:=.slice a.xA x.value.kids a.xc) 11 rfl;go_wp2_with fail;refine (qC x a P _ (HX.out.ext (HE.out.trans' (HW3.out.trans' HXR.out)))).mono ?_;rintro e w4 ⟨rfl,hx4⟩;have HX4:=aYf ((HE.out.trans' (HW3.out.trans' HXR.out)).trans' hx4);clear hx4;generalize bQ x=bn at *;cases bn
    ·go_wp2_with fail
     go_ret;exact ⟨aK js,HX4.out⟩
    ·go_wp2_with fail
     go_ret;exact ⟨aK js,HX4.out⟩
theorem CZ (i:Int)(x:GN)(a:NA)(P:Nat->Prop)(w:World)(hx:NAt w P x a)(hvl:x.values.length<=1000000000)(hk:¬ x.kind=0) :
  qg 30 #[↑i,fE x a] w (dE (.int .i64 (iK i x)) w):=by
 have HX:=aYf hx;have HN:=aYf (show iK i x=if eO i x=false then 1 else if cW (bY x)=0 then (if bQ x then 0 else 5) else cW (bY x) from rfl);have HOV:=aYf (show bY x=x.values by unfold bY;rw [if_neg hk]);have t0:(x.kind == 0)=false:=aYg hk;obtain ⟨hvl1,hvl2⟩:=hx.values.le;clear hx hk;obtain ⟨i0,hi,hz0,hz1,hz2⟩:=info_parts Tryz.info58;have HI:=aYf hi;clear hi;go_enter Tryz.func30,Tryz.ntmps30;go_wp2_with fail;refine (qQ i x a P _ (HX.out.ext ((aq _).alloc' _))).mono ?_;rintro e w1 ⟨rfl,hx1⟩;have HBX:=aYf ((aw w 60 (aN x a).toArray).ext hx1);have HE:=aYf (((aq w).alloc' _).trans' hx1);clear hx1;have hb0:=HBX.out.cell' (u:=↑x.kind) 0 rfl;have hb6:=HBX.out.cell' (u:=.slice a.vA x.values a.vc) 6 rfl;generalize eO i x=bf at *;cases bf
 ·go_wp2_with fail
  go_ret;exact ⟨aK (by rw [HN.out];rfl),HE.out⟩
 ·obtain ⟨vA,vc,css,ev,_,_,hvs,hvr⟩:=(HX.out.values.ext HE.out)
  injection ev with ev1 _ ev2;rw [<- ev1] at hvs;have HVS:=aYf hvs;have HVR:=aYf hvr;clear ev1 ev2 hvs hvr;go_wp2_with (at_builtin;refine aM _ rfl (.tmp 23) (.tmp 25) 56 dd w1 58 i0 _ 4 56 Tryz.underlying56 HI.out hz0 hz1 hz2 rfl I qn 0 [] rfl (aT _ _ _ _) P a.vA x.values a.vc css rfl HVS.out HVR.out.oneCell I I (ab _) ?_;intro v3 w3 ho3 hbl3;have hw3:Below w1 w1 w3:=hbl3;clear hbl3);have hw3':Ext w1 w3:=hw3;have HW3:=aYf hw3';clear hw3'
  have HVL:=aYf (show bZ w3 (fun b=>P b∨w1<=b) v3 (bY x) by
   rw [HOV.out];obtain ⟨A,c,e,h1,h2,h3⟩:=Sl.of_own ho3;unfold maxLen at h2;refine ⟨A,c,_,by rw [e];congr 1;omega,I,⟨I,h2⟩,(h3 _ (fun b hb=>.inr (ho3.block_ge hb))).len_cast I,?_⟩;exact RVs.keep (P:=P) (fun _ _ _=>rfl) (fun _ h=>.inl h) (RVs.append (show RVs w3 P [] [] from rfl) (RVs.keep (aB.of_ext HW3.out) (fun _ h=>h) HVR.out)))
  clear ho3 hw3;obtain ⟨AL,cL,eL,hL1,hL2⟩:=HVL.out.form;subst eL;go_loopw [7] (fun k wr=>yj (bY x) w3 k wr) (fun k _=>(bY x).length - (intOf k).toNat)
  case atStart=>exact ⟨0,af _,rfl,aq _,rfl⟩
  case round =>
   obtain ⟨j,hj,rfl,hxr,ht⟩:=hrel;have HT:=aYf ht;have HXR:=aYf hxr;clear ht hxr;by_cases hlt:j<(bY x)
   ·obtain ⟨b1,o1,A1,d1,rfl,-,hv1,g10,g11,g12,g13⟩:=(HVL.out.ext HXR.out).get hlt
    have HD:=aYf (show cW (bY x)=if eI ((bY x).getD j default)=0 then cW ((bY x).drop (j+1)) else eI ((bY x).getD j default) by
     rw [HT.out,aJ default hlt];rfl)
    have HV1:=aYf hv1;clear hv1;generalize (bY x).getD j default=y at *;go_wp2_with fail;refine (mC y A1 d1 _ _ HV1.out).mono ?_;rintro e w4 ⟨rfl,hx4⟩;have HX4:=aYf (HXR.out.trans' hx4);clear hx4;by_cases hz:eI y=0
    ·have HZ:=aYf hz
     have tz:(eI y != 0)=false:=er;clear hz;go_wp2_with fail;go_roundw
     case rel=>exact ⟨j+1,I,by go_num,HX4.out,jk⟩
     case measure=>simp [intOf];omega
    ·have HZ:=aYf hz
     have tz:(eI y != 0)=true:=bne_iff_ne.2 hz;have HN2:=aYf (show iK i x=eI y by rw [HN.out,if_neg U,HD.out,if_neg hz,if_neg hz]);clear hz;go_wp2_with fail;go_ret;exact ⟨aK HN2.out.symm,HE.out.trans' (HW3.out.trans' HX4.out)⟩
   ·have HN2:=aYf (show iK i x=if bQ x then 0 else 5 by
     rw [HN.out,if_neg U,HT.out,drop_nil I];rfl)
    have BX:=aYf (HBX.out.ext (HW3.out.trans' HXR.out));have x0:=BX.out.cell' (u:=↑x.kind) 0 rfl;have x1:=BX.out.cell' (u:=x.name) 1 rfl;have x2:=BX.out.cell' (u:=↑x.lo) 2 rfl;have x3:=BX.out.cell' (u:=↑x.hi) 3 rfl;have x4:=BX.out.cell' (u:=.slice a.wA x.weights a.wc) 4 rfl;have x5:=BX.out.cell' (u:=.slice a.lA x.labels a.lc) 5 rfl;have x6:=BX.out.cell' (u:=.slice a.vA x.values a.vc) 6 rfl;have x7:=BX.out.cell' (u:=.slice a.kA x.kids a.kc) 7 rfl;have x8:=BX.out.cell' (u:=↑x.value.kind) 8 rfl;have x9:=BX.out.cell' (u:=↑x.value.n) 9 rfl;have x10:=BX.out.cell' (u:=x.value.s) 10 rfl;have x11:=BX.out.cell' (u:=.slice a.xA x.value.kids a.xc) 11 rfl;go_wp2_with fail;refine (qC x a P _ (HX.out.ext (HE.out.trans' (HW3.out.trans' HXR.out)))).mono ?_;rintro e w4 ⟨rfl,hx4⟩;have HX4:=aYf ((HE.out.trans' (HW3.out.trans' HXR.out)).trans' hx4);clear hx4;generalize bQ x=bn at *;cases bn
    ·go_wp2_with fail
     go_ret;exact ⟨aK js,HX4.out⟩
    ·go_wp2_with fail
     go_ret;exact ⟨aK js,HX4.out⟩
theorem F3 (i:Int)(x:GN)(a:NA)(P:Nat->Prop)(w:World)(hx:NAt w P x a)(hvl:x.values.length<=1000000000) :
  qg 30 #[↑i,fE x a] w (dE (.int .i64 (iK i x)) w):=by
 by_cases hk:x.kind=0
 ·exact Dg i x a P w hx hvl hk
 ·exact CZ i x a P w hx hvl hk
