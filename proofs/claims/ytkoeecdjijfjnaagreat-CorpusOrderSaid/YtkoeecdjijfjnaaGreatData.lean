/- The plain data: values and nodes of trees, and how memory reads as them. Conditions: none. -/
import Derived.Test.YtkoeecdjijfjnaaGreatMem
import Derived.Test.YtkoeecdjijfjnaaGreatPl1
namespace Go.Proofs.YtkoeecdjijfjnaaGreat
open Go.RowKit
inductive GV:Type where
 | mk (kind n:Int) (s:ByteArray) (kids:List GV)
def GV.kind:GV→Int | .mk k _ _ _=>k
def GV.n:GV→Int | .mk _ n _ _=>n
def GV.s:GV→ByteArray | .mk _ _ s _=>s
def GV.kids:GV→List GV | .mk _ _ _ l=>l
instance:Inhabited GV:=⟨.mk 0 0 ByteArray.empty []⟩
def CAP:Nat:=17592186044416
mutual
def RV (w:World)(P:Nat→Prop):GV→List Value→Prop
 | .mk k n s kids,cs=>I64 k∧I64 n∧s.size≤17592186044416∧∃ A c css,cs=[.int .i64 k,.int .i64 n,.string s,.slice A kids.length c]∧kids.length≤c∧(kids.length≤17592186044416∧c≤9223372036854775807) ∧
   Sl w P 4 A kids.length css∧RVs w P kids css
def RVs (w:World)(P:Nat→Prop):List GV→List Value→Prop
 | [],cs=>cs=[]
 | x :: xs,cs=>∃ c1 c2,cs=c1 ++ c2∧RV w P x c1∧RVs w P xs c2
end
def Vals (w:World)(P:Nat→Prop)(v:Value)(l:List GV):Prop :=
 ∃ A c css,v=.slice A l.length c∧l.length≤c∧(l.length≤17592186044416∧c≤9223372036854775807)∧Sl w P 4 A l.length css∧RVs w P l css
theorem RV.mk_iff {w:World}{P:Nat→Prop}{k n:Int}{s:ByteArray}{kids:List GV}{cs:List Value} :
  RV w P (.mk k n s kids) cs ↔ I64 k∧I64 n∧s.size≤17592186044416∧∃ v,cs=[.int .i64 k,.int .i64 n,.string s,v]∧Vals w P v kids:=by
 unfold RV Vals
 constructor
 ·rintro ⟨h1,h2,h3,A,c,css,rfl,h4⟩
  exact ⟨h1,h2,h3,_,rfl,A,c,css,rfl,h4⟩
 ·rintro ⟨h1,h2,h3,v,rfl,A,c,css,rfl,h4⟩
  exact ⟨h1,h2,h3,A,c,css,rfl,h4⟩
theorem RV.open_ {w:World}{P:Nat→Prop}{x:GV}{cs:List Value}(h:RV w P x cs) :
  I64 x.kind∧I64 x.n∧x.s.size≤17592186044416∧∃ v,cs=[.int .i64 x.kind,.int .i64 x.n,.string x.s,v]∧Vals w P v x.kids:=by
 obtain ⟨k,n,s,kids⟩:=x
 exact RV.mk_iff.1 h
theorem RV.len {w:World}{P:Nat→Prop}{x:GV}{cs:List Value}(h:RV w P x cs):cs.length=4:=by
 obtain ⟨k,n,s,kids⟩:=x
 obtain ⟨_,_,_,v,rfl,_⟩:=RV.mk_iff.1 h
 rfl
theorem RVs.len {w:World}{P:Nat→Prop}{l:List GV}{cs:List Value}(h:RVs w P l cs):cs.length=l.length*4:=by
 induction l generalizing cs with
 | nil=>simp only [RVs] at h;subst h;rfl
 | cons x xs ih =>
  simp only [RVs] at h
  obtain ⟨c1,c2,rfl,h1,h2⟩:=h
  have:=ih h2
  have:=h1.len
  simp only [List.length_append,List.length_cons]
  omega
mutual
theorem RV.keep {w w':World}{P Q:Nat→Prop}(hk:Keeps P w w')(hPQ:∀ b,P b→Q b):∀ {x:GV}{cs:List Value},RV w P x cs→RV w' Q x cs
 | .mk k n s kids,cs,h=>by
  simp only [RV] at h ⊢
  obtain ⟨h1,h2,h3,A,c,css,h4,h5,h6,h7,h8⟩:=h
  exact ⟨h1,h2,h3,A,c,css,h4,h5,h6,h7.keep hk hPQ,RVs.keep hk hPQ h8⟩
theorem RVs.keep {w w':World}{P Q:Nat→Prop}(hk:Keeps P w w')(hPQ:∀ b,P b→Q b):∀ {l:List GV}{cs:List Value},RVs w P l cs→RVs w' Q l cs
 | [],cs,h=>by simp only [RVs] at h ⊢;exact h
 | x :: xs,cs,h=>by
  simp only [RVs] at h ⊢
  obtain ⟨c1,c2,h1,h2,h3⟩:=h
  exact ⟨c1,c2,h1,RV.keep hk hPQ h2,RVs.keep hk hPQ h3⟩
end
theorem Vals.keep {w w':World}{P Q:Nat→Prop}{v:Value}{l:List GV}(h:Vals w P v l)(hk:Keeps P w w')(hPQ:∀ b,P b→Q b):Vals w' Q v l:=by
 obtain ⟨A,c,css,h1,h2,h3,h4,h5⟩:=h
 exact ⟨A,c,css,h1,h2,h3,h4.keep hk hPQ,RVs.keep hk hPQ h5⟩
theorem Vals.ext {w w':World}{P:Nat→Prop}{v:Value}{l:List GV}(h:Vals w P v l)(hx:Ext w w'):Vals w' P v l:=h.keep (Keeps.of_ext hx) (fun _ h=>h)
theorem RV.ext {w w':World}{P:Nat→Prop}{x:GV}{cs:List Value}(h:RV w P x cs)(hx:Ext w w'):RV w' P x cs:=RV.keep (Keeps.of_ext hx) (fun _ h=>h) h
theorem RVs.append {w:World}{P:Nat→Prop}{a b:List GV}{ca cb:List Value}(ha:RVs w P a ca)(hb:RVs w P b cb):RVs w P (a ++ b) (ca ++ cb):=by
 induction a generalizing ca with
 | nil=>simp only [RVs] at ha;subst ha;exact hb
 | cons x xs ih =>
  simp only [RVs] at ha
  obtain ⟨c1,c2,rfl,h1,h2⟩:=ha
  simp only [List.cons_append,RVs]
  exact ⟨c1,c2 ++ cb,by simp,h1,ih h2⟩
theorem RVs.one {w:World}{P:Nat→Prop}{x:GV}{c:List Value}(h:RV w P x c):RVs w P [x] c:=by
 simp only [RVs]
 exact ⟨c,[],by simp,h,rfl⟩
theorem RVs.drop {w:World}{P:Nat→Prop}{l:List GV}{cs:List Value}(h:RVs w P l cs)(k:Nat):RVs w P (l.drop k) (cs.drop (k*4)):=by
 induction k generalizing l cs with
 | zero=>simpa using h
 | succ k ih =>
  cases l with
  | nil=>simp only [RVs] at h;subst h;simp [RVs]
  | cons x xs =>
   simp only [RVs] at h
   obtain ⟨c1,c2,rfl,h1,h2⟩:=h
   have e:(k+1)*4=c1.length+k*4:=by rw [h1.len];omega
   rw [e,List.drop_length_add_append]
   exact ih h2
theorem RVs.take {w:World}{P:Nat→Prop}{l:List GV}{cs:List Value}(h:RVs w P l cs)(k:Nat):RVs w P (l.take k) (cs.take (k*4)):=by
 induction k generalizing l cs with
 | zero=>simp [RVs]
 | succ k ih =>
  cases l with
  | nil=>simp only [RVs] at h;subst h;simp [RVs]
  | cons x xs =>
   simp only [RVs] at h
   obtain ⟨c1,c2,rfl,h1,h2⟩:=h
   have e:(k+1)*4=c1.length+k*4:=by rw [h1.len];omega
   rw [e,List.take_length_add_append]
   simp only [List.take_succ_cons,RVs]
   exact ⟨c1,_,rfl,h1,ih h2⟩
theorem RVs.get {w:World}{P:Nat→Prop}{l:List GV}{cs:List Value}(h:RVs w P l cs){i:Nat}(hi:i<l.length) :
  RV w P (l.getD i default) ((cs.drop (i*4)).take 4):=by
 have h1:=h.drop i
 rw [drop_getD default hi] at h1
 simp only [RVs] at h1
 obtain ⟨c1,c2,e,h2,_⟩:=h1
 rw [e,← h2.len,List.take_left']
 ·exact h2
 ·rfl
structure VAt (w:World)(P:Nat→Prop)(x:GV)(A:Option Addr)(c:Nat):Prop where
 kind:I64 x.kind
 n:I64 x.n
 s:x.s.size≤17592186044416
 len:x.kids.length≤c
 cap:x.kids.length≤17592186044416∧c≤9223372036854775807
 kids:Vals w P (.slice A x.kids.length c) x.kids
abbrev vagg (x:GV)(A:Option Addr)(c:Nat):Value:=.agg #[.int .i64 x.kind,.int .i64 x.n,.string x.s,.slice A x.kids.length c]
def cellsOf (x:GV)(A:Option Addr)(c:Nat):List Value:=[.int .i64 x.kind,.int .i64 x.n,.string x.s,.slice A x.kids.length c]
theorem RV.at_ {w:World}{P:Nat→Prop}{x:GV}{cs:List Value}(h:RV w P x cs):∃ A c,cs=cellsOf x A c∧VAt w P x A c:=by
 obtain ⟨h1,h2,h3,v,rfl,h4⟩:=h.open_
 have h5:=h4
 obtain ⟨A,c,css,rfl,h6,h7,_⟩:=h4
 exact ⟨A,c,rfl,h1,h2,h3,h6,h7,h5⟩
theorem VAt.rv {w:World}{P:Nat→Prop}{x:GV}{A:Option Addr}{c:Nat}(h:VAt w P x A c):RV w P x (cellsOf x A c):=by
 obtain ⟨k,n,s,kids⟩:=x
 exact RV.mk_iff.2 ⟨h.kind,h.n,h.s,_,rfl,h.kids⟩
theorem VAt.keep {w w':World}{P Q:Nat→Prop}{x:GV}{A:Option Addr}{c:Nat}(h:VAt w P x A c)(hk:Keeps P w w')(hPQ:∀ b,P b→Q b):VAt w' Q x A c :=
 ⟨h.kind,h.n,h.s,h.len,h.cap,h.kids.keep hk hPQ⟩
theorem VAt.ext {w w':World}{P:Nat→Prop}{x:GV}{A:Option Addr}{c:Nat}(h:VAt w P x A c)(hx:Ext w w'):VAt w' P x A c:=h.keep (Keeps.of_ext hx) (fun _ h=>h)
theorem Vals.at_ {w:World}{P:Nat→Prop}{v:Value}{l:List GV}(h:Vals w P v l){i:Nat}(hi:i<l.length) :
  ∃ b off c A d,v=.slice (some ⟨b,off,none⟩) l.length c∧P b∧l.length≤c∧(l.length≤17592186044416∧c≤9223372036854775807)∧VAt w P (l.getD i default) A d ∧
   w.cell? ⟨b,off+i*4,none⟩=some (.int .i64 (l.getD i default).kind)∧w.cell? ⟨b,off+i*4+1,none⟩=some (.int .i64 (l.getD i default).n) ∧
   w.cell? ⟨b,off+i*4+2,none⟩=some (.string (l.getD i default).s)∧w.cell? ⟨b,off+i*4+3,none⟩=some (.slice A (l.getD i default).kids.length d):=by
 obtain ⟨A,c,css,rfl,h2,h3,h4,h5⟩:=h
 obtain ⟨b,off,rfl,hb,hc⟩:=h4.2 (by omega)
 obtain ⟨A',d,e,hu⟩:=(h5.get hi).at_
 have hx:∀ j,j<4→css[i*4+j]?=((css.drop (i*4)).take 4)[j]?:=by
  intro j hj
  rw [List.getElem?_take,if_pos hj,List.getElem?_drop]
 unfold cellsOf at e
 refine ⟨b,off,c,A',d,rfl,hb,h2,h3,hu,?_,?_,?_,?_⟩
 ·apply hc;have:=hx 0 (by omega);rw [e] at this;simpa using this
 ·rw [Nat.add_assoc];apply hc;have:=hx 1 (by omega);rw [e] at this;simpa using this
 ·rw [Nat.add_assoc];apply hc;have:=hx 2 (by omega);rw [e] at this;simpa using this
 ·rw [Nat.add_assoc];apply hc;have:=hx 3 (by omega);rw [e] at this;simpa using this
mutual
def gsz:GV→Nat
 | .mk _ _ _ l=>1+gszs l
def gszs:List GV→Nat
 | []=>0
 | x :: xs=>gsz x+gszs xs
end
theorem gsz_le_of_mem {x:GV}{l:List GV}(h:x ∈ l):gsz x≤gszs l:=by
 induction l with
 | nil=>cases h
 | cons y ys ih =>
  simp only [gszs]
  rcases List.mem_cons.1 h with rfl | h
  ·omega
  ·have:=ih h;omega
theorem gsz_kid {x y:GV}(h:y ∈ x.kids):gsz y<gsz x:=by
 obtain ⟨k,n,s,l⟩:=x
 have:=gsz_le_of_mem (l:=l) h
 simp only [gsz]
 omega
theorem getD_mem {α:Type}{l:List α}{i:Nat}{d:α}(h:i<l.length):l.getD i d ∈ l:=by
 have:l.getD i d=l[i]:=by simp [h]
 rw [this]
 exact List.getElem_mem h
def cmpS (a b:ByteArray):Int:=if Op.bytesLess a.toList b.toList then -1 else if a.toList=b.toList then 0 else 1
mutual
def cmpV:GV→GV→Int
 | .mk k n s l,.mk k' n' s' l'=>if cmpI k k'=0 then (if cmpI n n'=0 then (if cmpS s s'=0 then cmpVs l l' else cmpS s s') else cmpI n n') else cmpI k k'
def cmpVs:List GV→List GV→Int
 | [],[]=>0
 | [],_ :: _=>-1
 | _ :: _,[]=>1
 | x :: xs,y :: ys=>if cmpV x y=0 then cmpVs xs ys else cmpV x y
end
theorem cmpV_eq (x y:GV):cmpV x y=if cmpI x.kind y.kind=0 then (if cmpI x.n y.n=0 then (if cmpS x.s y.s=0 then cmpVs x.kids y.kids else cmpS x.s y.s) else cmpI x.n y.n) else cmpI x.kind y.kind:=by
 obtain ⟨k,n,s,l⟩:=x
 obtain ⟨k',n',s',l'⟩:=y
 simp only [cmpV,GV.kind,GV.n,GV.s,GV.kids]
 rfl
theorem cmpVs_cons (x y:GV)(xs ys:List GV):cmpVs (x :: xs) (y :: ys)=if cmpV x y=0 then cmpVs xs ys else cmpV x y:=by simp only [cmpVs]
end Go.Proofs.YtkoeecdjijfjnaaGreat
