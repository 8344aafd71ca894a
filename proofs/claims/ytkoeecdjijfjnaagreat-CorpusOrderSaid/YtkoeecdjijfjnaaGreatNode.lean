/- Nodes of trees: how memory reads as them. Conditions: none. Before it: Slices that a call itself makes and appends to; lists of whatever elements in memory. Conditions: none. -/
import Derived.Maps.AppendAt
import Derived.Deep.AppendLies
import Derived.RegionTactic
import Derived.OwnWalk
import Derived.Test.YtkoeecdjijfjnaaGreatData
namespace Go.Proofs.YtkoeecdjijfjnaaGreat
open Go.RowKit
theorem addr_add_none (b off j:Nat):(Addr.mk b off none).add j=⟨b,off+j,none⟩:=by
 unfold Addr.add
 split
 ·next h=>subst h;rfl
 ·rfl
theorem Fr.of_grown {w w':World}{row:Option Nat}(h:w.grownBy w' row):Fr (fun k=>some k=row) w w' :=
 ⟨h.os,h.tape,h.output,h.size,fun k hk hm=>h.block k hk hm⟩
section
variable {P:Program}
theorem run_append_empty (w:World)(base:Nat)(t ty e:TypeId)(i:TypeInfo)(size:Nat)(ht:P.underlying t=some (.slice e))(hi:P.info? e=some i)
  (v:Value)(n:Nat)(xs:List Value)(hown:w.ownsRow base e size v n xs)(c:Nat):(Builtin.append_ #[t,t] ty #[v,.slice none 0 c]).run P w=.ok v w:=by
 rcases hown.2 with ⟨rfl,rfl⟩ | ⟨g,cap,cur,rfl,_,_,hnc,_⟩
 ·simp [Builtin.append_,run_underlying ht,sizeOf,typeInfo,hi,Builtin.lenOf,Builtin.firstCells]
 ·simp [Builtin.append_,run_underlying ht,sizeOf,typeInfo,hi,Builtin.lenOf,Builtin.firstCells,hnc,storeCells]
theorem run_append_sl (w:World)(base:Nat)(t ty e:TypeId)(i:TypeInfo)(z:Value)(size bytes:Nat)(ht:P.underlying t=some (.slice e))(hi:P.info? e=some i)(hz:i.zero=some z)
  (hsize:i.size=size)(hby:i.bytes=bytes)(hzs:z.cells.size=size)(hsz:0<size)
  (v:Value)(n:Nat)(xs:List Value)(hown:w.ownsRow base e size v n xs)
  (S:Nat→Prop)(A:Option Addr)(m c:Nat)(news:List Value)(hr:Sl w S size A m news)(h1:∀ u ∈ news,u.oneCell'=true)
  (h63:n+m≤1000000000000)(hbytes:(n+m)*bytes≤140737488355328)(hbase:base≤w.heap.size) :
  ∃ v' w',(Builtin.append_ #[t,t] ty #[v,.slice A m c]).run P w=.ok v' w'∧w'.ownsRow base e size v' (n+m) (xs ++ news)∧Fr (fun k=>some k=v.ownBlock) w w' ∧
   (v'.ownBlock=v.ownBlock∨v'.ownBlock=some w.heap.size):=by
 have h63':n+m≤maxLen:=by unfold maxLen;omega
 rcases A with _ | ad
 ·have hm:m=0:=by
   rcases Nat.eq_zero_or_pos m with h0 | h0
   ·exact h0
   ·obtain ⟨b,off,h,_⟩:=hr.2 h0
    cases h
  subst hm
  have hn:news=[]:=List.eq_nil_of_length_eq_zero (by simpa using hr.1)
  subst hn
  exact ⟨v,w,run_append_empty w base t ty e i size ht hi v n xs hown c,by simpa using hown,Fr.refl _ _,.inl rfl⟩
 ·have hcells:∀ j u,news[j]?=some u→w.cell? (ad.add j)=some u:=by
   intro j u hu
   rcases Nat.eq_zero_or_pos m with h0 | h0
   ·subst h0
    have hn:news=[]:=List.eq_nil_of_length_eq_zero (by simpa using hr.1)
    subst hn
    simp at hu
   ·obtain ⟨b,off,h,_,hc⟩:=hr.2 h0
    injection h with h
    subst h
    rw [addr_add_none]
    exact hc j u hu
  obtain ⟨v',w',hrun,h2,h3,_,h5⟩:=run_append_own_at (P:=P) w base t ty e i z size bytes ht hi hz hsize hby hzs hsz v n xs hown ad m c news hr.1 hcells h1 h63' hbytes hbase
  exact ⟨v',w',hrun,h2,Fr.of_grown h3,h5⟩
theorem wp_append_sl (w:World){o:Oper}{a:Act}{K:Act→World→Prop}{Q:Exit→Act→World→Prop}(s x:Operand)(t:TypeId)
  (ho:o.op=.call { callee:=.builtin .append,args:=#[s,x],argTypes:=#[t,t] })
  (base:Nat)(e:TypeId)(i:TypeInfo)(z:Value)(size bytes:Nat)(ht:P.underlying t=some (.slice e))(hi:P.info? e=some i)(hz:i.zero=some z)
  (hsize:i.size=size)(hby:i.bytes=bytes)(hzs:z.cells.size=size)(hsz:0<size)
  (v:Value)(n:Nat)(xs:List Value)(hs:a.eval s=v)(hown:w.ownsRow base e size v n xs)
  (S:Nat→Prop)(A:Option Addr)(m c:Nat)(news:List Value)(hx:a.eval x=.slice A m c)(hr:Sl w S size A m news)(h1:∀ u ∈ news,u.oneCell'=true)
  (h63:n+m≤1000000000000)(hbytes:(n+m)*bytes≤140737488355328)(hbase:base≤w.heap.size)
  (h:∀ v' w',w'.ownsRow base e size v' (n+m) (xs ++ news)→Fr (fun k=>some k=v.ownBlock) w w'→(v'.ownBlock=v.ownBlock∨v'.ownBlock=some w.heap.size)→K (a.put o.dst v') w'):o.wp P a w K Q:=by
 obtain ⟨v',w',hrun,h2,h3,h4⟩:=run_append_sl (P:=P) w base t o.type e i z size bytes ht hi hz hsize hby hzs hsz v n xs hown S A m c news hr h1 h63 hbytes hbase
 unfold Oper.wp execOp
 simp only [ho,resolve,invoke,builtin,Sem.run_bind,Sem.run_pure,Result.andThen_ok,List.map_toArray,List.map_cons,List.map_nil,hs,hx,hrun]
 exact h v' w' h2 h3 h4
theorem wpList_append_sl (w:World){ops:Array Oper}{rest:List Oper}{o:Oper}{a:Act}{Q:Exit→Act→World→Prop}(hgd:o.guard=none)(s x:Operand)(t:TypeId)
  (ho:o.op=.call { callee:=.builtin .append,args:=#[s,x],argTypes:=#[t,t] })
  (base:Nat)(e:TypeId)(i:TypeInfo)(z:Value)(size bytes:Nat)(ht:P.underlying t=some (.slice e))(hi:P.info? e=some i)(hz:i.zero=some z)
  (hsize:i.size=size)(hby:i.bytes=bytes)(hzs:z.cells.size=size)(hsz:0<size)
  (v:Value)(n:Nat)(xs:List Value)(hs:a.eval s=v)(hown:w.ownsRow base e size v n xs)
  (S:Nat→Prop)(A:Option Addr)(m c:Nat)(news:List Value)(hx:a.eval x=.slice A m c)(hr:Sl w S size A m news)(h1:∀ u ∈ news,u.oneCell'=true)
  (h63:n+m≤1000000000000)(hbytes:(n+m)*bytes≤140737488355328)(hbase:base≤w.heap.size)
  (h:∀ v' w',w'.ownsRow base e size v' (n+m) (xs ++ news)→Fr (fun k=>some k=v.ownBlock) w w'→(v'.ownBlock=v.ownBlock∨v'.ownBlock=some w.heap.size)→wpList P ops Q rest (a.put o.dst v') w'):wpList P ops Q (o :: rest) a w :=
 wpList_plain hgd fun _ hK=>wp_append_sl w s x t ho base e i z size bytes ht hi hz hsize hby hzs hsz v n xs hs hown S A m c news hx hr h1 h63 hbytes hbase fun v' w' h2 h3 h4=>hK _ _ (h v' w' h2 h3 h4)
theorem step_append_sl (w:World){ops:Array Oper}{o:Oper}{a:Act}{K:Act→World→Prop}{Q:Exit→Act→World→Prop}{E:Prop}(hgd:o.guard=none)(s x:Operand)(t:TypeId)
  (ho:o.op=.call { callee:=.builtin .append,args:=#[s,x],argTypes:=#[t,t] })
  (base:Nat)(e:TypeId)(i:TypeInfo)(z:Value)(size bytes:Nat)(ht:P.underlying t=some (.slice e))(hi:P.info? e=some i)(hz:i.zero=some z)
  (hsize:i.size=size)(hby:i.bytes=bytes)(hzs:z.cells.size=size)(hsz:0<size)
  (v:Value)(n:Nat)(xs:List Value)(hs:a.eval s=v)(hown:w.ownsRow base e size v n xs)
  (S:Nat→Prop)(A:Option Addr)(m c:Nat)(news:List Value)(hx:a.eval x=.slice A m c)(hr:Sl w S size A m news)(h1:∀ u ∈ news,u.oneCell'=true)
  (h63:n+m≤1000000000000)(hbytes:(n+m)*bytes≤140737488355328)(hbase:base≤w.heap.size)
  (h:∀ v' w',w'.ownsRow base e size v' (n+m) (xs ++ news)→Fr (fun k=>some k=v.ownBlock) w w'→(v'.ownBlock=v.ownBlock∨v'.ownBlock=some w.heap.size)→K (a.put o.dst v') w') :
  if Region.wanted o (yielded ops a.tmps)=true then Oper.wp P o a w K Q else E:=by
 have hw:Region.wanted o (yielded ops a.tmps)=true:=by simp [Region.wanted,hgd]
 rw [if_pos hw]
 exact wp_append_sl w s x t ho base e i z size bytes ht hi hz hsize hby hzs hsz v n xs hs hown S A m c news hx hr h1 h63 hbytes hbase h
end
theorem Sl.of_own {w:World}{base:Nat}{e:TypeId}{size n:Nat}{v:Value}{xs:List Value}(h:w.ownsRow base e size v n xs) :
  ∃ A c,v=.slice A n c∧n≤c∧c≤maxLen∧∀ Q:Nat→Prop,(∀ b,v.ownBlock=some b→Q b)→Sl w Q size A n xs:=by
 rcases h.2 with ⟨rfl,rfl⟩ | ⟨g,cap,cur,rfl,hg,hh,hn,hm,hs,ht⟩
 ·exact ⟨none,0,rfl,Nat.le_refl _,Nat.zero_le _,fun Q _=>⟨by simpa using h.1,fun h=>absurd h (by omega)⟩⟩
 ·refine ⟨_,cap,rfl,hn,hm,fun Q hQ=>⟨h.1,fun hn=>⟨g,0,rfl,hQ g rfl,fun j u hu=>?_⟩⟩⟩
  have hb:Blk w g e cur:=hh
  rw [hb.cell]
  rw [← ht,List.getElem?_take] at hu
  split at hu
  ·simpa using hu
  ·cases hu
def RL {α:Type}(R:α→List Value→Prop):List α→List Value→Prop
 | [],cs=>cs=[]
 | x :: xs,cs=>∃ c1 c2,cs=c1 ++ c2∧R x c1∧RL R xs c2
section
variable {α:Type}{R:α→List Value→Prop}{size:Nat}
theorem RL.len (hR:∀ x cs,R x cs→cs.length=size){l:List α}{cs:List Value}(h:RL R l cs):cs.length=l.length*size:=by
 induction l generalizing cs with
 | nil=>simp only [RL] at h;subst h;simp
 | cons x xs ih =>
  simp only [RL] at h
  obtain ⟨c1,c2,rfl,h1,h2⟩:=h
  rw [List.length_append,hR _ _ h1,ih h2,List.length_cons,Nat.add_mul,Nat.one_mul,Nat.add_comm]
theorem RL.mono {R':α→List Value→Prop}{l:List α}{cs:List Value}(h:RL R l cs)(hR:∀ x ∈ l,∀ cs,R x cs→R' x cs):RL R' l cs:=by
 induction l generalizing cs with
 | nil=>exact h
 | cons x xs ih =>
  simp only [RL] at h ⊢
  obtain ⟨c1,c2,rfl,h1,h2⟩:=h
  exact ⟨c1,c2,rfl,hR x (by simp) _ h1,ih h2 (fun y hy=>hR y (by simp [hy]))⟩
theorem RL.append {a b:List α}{ca cb:List Value}(ha:RL R a ca)(hb:RL R b cb):RL R (a ++ b) (ca ++ cb):=by
 induction a generalizing ca with
 | nil=>simp only [RL] at ha;subst ha;exact hb
 | cons x xs ih =>
  simp only [RL] at ha
  obtain ⟨c1,c2,rfl,h1,h2⟩:=ha
  simp only [List.cons_append,RL]
  exact ⟨c1,c2 ++ cb,by simp,h1,ih h2⟩
theorem RL.one {x:α}{c:List Value}(h:R x c):RL R [x] c:=by
 simp only [RL]
 exact ⟨c,[],by simp,h,rfl⟩
theorem RL.drop (hR:∀ x cs,R x cs→cs.length=size){l:List α}{cs:List Value}(h:RL R l cs)(k:Nat):RL R (l.drop k) (cs.drop (k*size)):=by
 induction k generalizing l cs with
 | zero=>simpa using h
 | succ k ih =>
  cases l with
  | nil=>simp only [RL] at h;subst h;simp [RL]
  | cons x xs =>
   simp only [RL] at h
   obtain ⟨c1,c2,rfl,h1,h2⟩:=h
   have e:(k+1)*size=c1.length+k*size:=by rw [hR _ _ h1,Nat.add_mul];omega
   rw [e,List.drop_length_add_append]
   exact ih h2
theorem RL.take (hR:∀ x cs,R x cs→cs.length=size){l:List α}{cs:List Value}(h:RL R l cs)(k:Nat):RL R (l.take k) (cs.take (k*size)):=by
 induction k generalizing l cs with
 | zero=>simp [RL]
 | succ k ih =>
  cases l with
  | nil=>simp only [RL] at h;subst h;simp [RL]
  | cons x xs =>
   simp only [RL] at h
   obtain ⟨c1,c2,rfl,h1,h2⟩:=h
   have e:(k+1)*size=c1.length+k*size:=by rw [hR _ _ h1,Nat.add_mul];omega
   rw [e,List.take_length_add_append]
   simp only [List.take_succ_cons,RL]
   exact ⟨c1,_,rfl,h1,ih h2⟩
theorem RL.get (hR:∀ x cs,R x cs→cs.length=size){l:List α}{cs:List Value}(h:RL R l cs){i:Nat}(d:α)(hi:i<l.length) :
  R (l.getD i d) ((cs.drop (i*size)).take size):=by
 have h1:=h.drop hR i
 rw [drop_getD d hi] at h1
 simp only [RL] at h1
 obtain ⟨c1,c2,e,h2,_⟩:=h1
 rw [e,← hR _ _ h2,List.take_left']
 ·exact h2
 ·rfl
end
theorem RVs_RL {w:World}{P:Nat→Prop}{l:List GV}{cs:List Value}:RVs w P l cs ↔ RL (RV w P) l cs:=by
 induction l generalizing cs with
 | nil=>simp [RVs,RL]
 | cons x xs ih=>simp [RVs,RL,ih]
def Lst {α:Type}(w:World)(P:Nat→Prop)(size:Nat)(R:α→List Value→Prop)(v:Value)(l:List α):Prop :=
 ∃ A c css,v=.slice A l.length c∧l.length≤c∧(l.length≤17592186044416∧c≤9223372036854775807)∧Sl w P size A l.length css∧RL R l css
theorem Vals_Lst {w:World}{P:Nat→Prop}{v:Value}{l:List GV}:Vals w P v l ↔ Lst w P 4 (RV w P) v l:=by
 unfold Vals Lst
 simp only [RVs_RL]
theorem Lst.at_ {α:Type}{w:World}{P:Nat→Prop}{size:Nat}{R:α→List Value→Prop}{v:Value}{l:List α}(hR:∀ x cs,R x cs→cs.length=size)(h:Lst w P size R v l)(d:α){i:Nat}(hi:i<l.length) :
  ∃ b off c cs,v=.slice (some ⟨b,off,none⟩) l.length c∧P b∧l.length≤c∧(l.length≤17592186044416∧c≤9223372036854775807)∧R (l.getD i d) cs∧(∀ j u,cs[j]?=some u→w.cell? ⟨b,off+i*size+j,none⟩=some u):=by
 obtain ⟨A,c,css,rfl,h2,h3,h4,h5⟩:=h
 obtain ⟨b,off,rfl,hb,hc⟩:=h4.2 (by omega)
 refine ⟨b,off,c,_,rfl,hb,h2,h3,h5.get hR d hi,fun j u hu=>?_⟩
 rw [Nat.add_assoc]
 apply hc
 rw [List.getElem?_take] at hu
 split at hu
 ·rw [List.getElem?_drop] at hu;exact hu
 ·cases hu
theorem Lst.keep {α:Type}{w w':World}{P Q:Nat→Prop}{size:Nat}{R R':α→List Value→Prop}{v:Value}{l:List α}(h:Lst w P size R v l)(hk:Keeps P w w')(hPQ:∀ b,P b→Q b)(hR:∀ x ∈ l,∀ cs,R x cs→R' x cs):Lst w' Q size R' v l:=by
 obtain ⟨A,c,css,h1,h2,h3,h4,h5⟩:=h
 exact ⟨A,c,css,h1,h2,h3,h4.keep hk hPQ,h5.mono hR⟩
structure GN where
 kind:Int
 name:ByteArray
 lo:Int
 hi:Int
 weights:List Int
 labels:List ByteArray
 values:List GV
 kids:List Int
 value:GV
instance:Inhabited GN:=⟨⟨0,ByteArray.empty,0,0,[],[],[],[],default⟩⟩
structure NA where
 wA:Option Addr
 wc:Nat
 lA:Option Addr
 lc:Nat
 vA:Option Addr
 vc:Nat
 kA:Option Addr
 kc:Nat
 xA:Option Addr
 xc:Nat
def RStr (s:ByteArray)(cs:List Value):Prop:=s.size≤17592186044416∧cs=[.string s]
theorem RStr.len (s:ByteArray)(cs:List Value)(h:RStr s cs):cs.length=1:=by rw [h.2];rfl
def Strs (w:World)(P:Nat→Prop)(v:Value)(l:List ByteArray):Prop:=Lst w P 1 RStr v l
structure NAt (w:World)(P:Nat→Prop)(x:GN)(a:NA):Prop where
 kind:I64 x.kind
 name:x.name.size≤17592186044416
 lo:I64 x.lo
 hi:I64 x.hi
 weights:Ints w P (.slice a.wA x.weights.length a.wc) x.weights
 labels:Strs w P (.slice a.lA x.labels.length a.lc) x.labels
 values:Vals w P (.slice a.vA x.values.length a.vc) x.values
 kids:Ints w P (.slice a.kA x.kids.length a.kc) x.kids
 value:VAt w P x.value a.xA a.xc
abbrev ncells (x:GN)(a:NA):List Value :=
 [.int .i64 x.kind,.string x.name,.int .i64 x.lo,.int .i64 x.hi,.slice a.wA x.weights.length a.wc,.slice a.lA x.labels.length a.lc,.slice a.vA x.values.length a.vc,.slice a.kA x.kids.length a.kc,
  .int .i64 x.value.kind,.int .i64 x.value.n,.string x.value.s,.slice a.xA x.value.kids.length a.xc]
abbrev nagg (x:GN)(a:NA):Value :=
 .agg #[.int .i64 x.kind,.string x.name,.int .i64 x.lo,.int .i64 x.hi,.slice a.wA x.weights.length a.wc,.slice a.lA x.labels.length a.lc,.slice a.vA x.values.length a.vc,.slice a.kA x.kids.length a.kc,
  .int .i64 x.value.kind,.int .i64 x.value.n,.string x.value.s,.slice a.xA x.value.kids.length a.xc]
def RN (w:World)(P:Nat→Prop)(x:GN)(cs:List Value):Prop:=∃ a,cs=ncells x a∧NAt w P x a
theorem RN.len {w:World}{P:Nat→Prop}(x:GN)(cs:List Value)(h:RN w P x cs):cs.length=12:=by
 obtain ⟨a,rfl,_⟩:=h
 rfl
def Nds (w:World)(P:Nat→Prop)(v:Value)(l:List GN):Prop:=Lst w P 12 (RN w P) v l
section
variable {w w':World}{P Q:Nat→Prop}
theorem Strs.keep {v:Value}{l:List ByteArray}(h:Strs w P v l)(hk:Keeps P w w')(hPQ:∀ b,P b→Q b):Strs w' Q v l:=Lst.keep h hk hPQ (fun _ _ _ h=>h)
theorem NAt.keep {x:GN}{a:NA}(h:NAt w P x a)(hk:Keeps P w w')(hPQ:∀ b,P b→Q b):NAt w' Q x a :=
 ⟨h.kind,h.name,h.lo,h.hi,h.weights.keep hk hPQ,h.labels.keep hk hPQ,h.values.keep hk hPQ,h.kids.keep hk hPQ,h.value.keep hk hPQ⟩
theorem NAt.ext {x:GN}{a:NA}(h:NAt w P x a)(hx:Ext w w'):NAt w' P x a:=h.keep (Keeps.of_ext hx) (fun _ h=>h)
theorem RN.keep {x:GN}{cs:List Value}(h:RN w P x cs)(hk:Keeps P w w')(hPQ:∀ b,P b→Q b):RN w' Q x cs:=by
 obtain ⟨a,e,h⟩:=h
 exact ⟨a,e,h.keep hk hPQ⟩
theorem Nds.keep {v:Value}{l:List GN}(h:Nds w P v l)(hk:Keeps P w w')(hPQ:∀ b,P b→Q b):Nds w' Q v l:=Lst.keep h hk hPQ (fun _ _ _ h=>RN.keep h hk hPQ)
theorem Nds.ext {v:Value}{l:List GN}(h:Nds w P v l)(hx:Ext w w'):Nds w' P v l:=h.keep (Keeps.of_ext hx) (fun _ h=>h)
theorem Strs.ext {v:Value}{l:List ByteArray}(h:Strs w P v l)(hx:Ext w w'):Strs w' P v l:=h.keep (Keeps.of_ext hx) (fun _ h=>h)
theorem Ints.form {v:Value}{l:List Int}(h:Ints w P v l):∃ A c,v=.slice A l.length c∧l.length≤c∧(l.length≤17592186044416∧c≤9223372036854775807):=by
 obtain ⟨A,c,h1,h2,h3,_⟩:=h
 exact ⟨A,c,h1,h2,h3⟩
theorem Vals.form {v:Value}{l:List GV}(h:Vals w P v l):∃ A c,v=.slice A l.length c∧l.length≤c∧(l.length≤17592186044416∧c≤9223372036854775807):=by
 obtain ⟨A,c,_,h1,h2,h3,_⟩:=h
 exact ⟨A,c,h1,h2,h3⟩
theorem Strs.form {v:Value}{l:List ByteArray}(h:Strs w P v l):∃ A c,v=.slice A l.length c∧l.length≤c∧(l.length≤17592186044416∧c≤9223372036854775807):=by
 obtain ⟨A,c,_,h1,h2,h3,_⟩:=h
 exact ⟨A,c,h1,h2,h3⟩
theorem Nds.form {v:Value}{l:List GN}(h:Nds w P v l):∃ A c,v=.slice A l.length c∧l.length≤c∧(l.length≤17592186044416∧c≤9223372036854775807):=by
 obtain ⟨A,c,_,h1,h2,h3,_⟩:=h
 exact ⟨A,c,h1,h2,h3⟩
theorem Ints.at_ {v:Value}{l:List Int}(h:Ints w P v l){i:Nat}(hi:i<l.length) :
  ∃ b off c,v=.slice (some ⟨b,off,none⟩) l.length c∧P b∧l.length≤c∧(l.length≤17592186044416∧c≤9223372036854775807)∧I64 (l.getD i 0)∧w.cell? ⟨b,off+i,none⟩=some (.int .i64 (l.getD i 0)):=by
 obtain ⟨A,c,rfl,h2,h3,h4,h5⟩:=h
 obtain ⟨b,off,rfl,hb,hc⟩:=h5.2 (by omega)
 refine ⟨b,off,c,rfl,hb,h2,h3,?_,?_⟩
 ·exact h4 _ (getD_mem hi)
 ·apply hc;simp [hi]
theorem Nds.at_ {v:Value}{l:List GN}(h:Nds w P v l){i:Nat}(hi:i<l.length) :
  ∃ b off c a,v=.slice (some ⟨b,off,none⟩) l.length c∧P b∧NAt w P (l.getD i default) a ∧
   (∀ j u,(ncells (l.getD i default) a)[j]?=some u→w.cell? ⟨b,off+i*12+j,none⟩=some u):=by
 obtain ⟨b,off,c,cs,e,hb,_,_,⟨a,rfl,ha⟩,hc⟩:=Lst.at_ RN.len h default hi
 exact ⟨b,off,c,a,e,hb,ha,hc⟩
end
def NCells (w:World)(b o:Nat)(x:GN)(a:NA):Prop:=∀ j u,(ncells x a)[j]?=some u→w.cell? ⟨b,o+j,none⟩=some u
section
variable {w:World}{b o:Nat}{x:GN}{a:NA} (h:NCells w b o x a)
include h
theorem NCells.c0:w.cell? ⟨b,o,none⟩=some (.int .i64 x.kind):=h 0 _ rfl
theorem NCells.c1:w.cell? ⟨b,o+1,none⟩=some (.string x.name):=h 1 _ rfl
theorem NCells.c2:w.cell? ⟨b,o+2,none⟩=some (.int .i64 x.lo):=h 2 _ rfl
theorem NCells.c3:w.cell? ⟨b,o+3,none⟩=some (.int .i64 x.hi):=h 3 _ rfl
theorem NCells.c4:w.cell? ⟨b,o+4,none⟩=some (.slice a.wA x.weights.length a.wc):=h 4 _ rfl
theorem NCells.c5:w.cell? ⟨b,o+5,none⟩=some (.slice a.lA x.labels.length a.lc):=h 5 _ rfl
theorem NCells.c6:w.cell? ⟨b,o+6,none⟩=some (.slice a.vA x.values.length a.vc):=h 6 _ rfl
theorem NCells.c7:w.cell? ⟨b,o+7,none⟩=some (.slice a.kA x.kids.length a.kc):=h 7 _ rfl
theorem NCells.c8:w.cell? ⟨b,o+8,none⟩=some (.int .i64 x.value.kind):=h 8 _ rfl
theorem NCells.c9:w.cell? ⟨b,o+9,none⟩=some (.int .i64 x.value.n):=h 9 _ rfl
theorem NCells.c10:w.cell? ⟨b,o+10,none⟩=some (.string x.value.s):=h 10 _ rfl
theorem NCells.c11:w.cell? ⟨b,o+11,none⟩=some (.slice a.xA x.value.kids.length a.xc):=h 11 _ rfl
theorem NCells.ext {w':World}(hx:Ext w w'):NCells w' b o x a:=fun j u hu=>cell_ext hx (h j u hu)
theorem NCells.lt:b<w.heap.size:=lt_of_cell (NCells.c0 h)
theorem NCells.keep {w':World}{P:Nat→Prop}(hb:P b)(hk:Keeps P w w'):NCells w' b o x a:=fun j u hu=>by
 have h1:=h j u hu
 rw [← h1]
 exact World.cell?_of_block (w:=w) (hk b (lt_of_cell h1) hb)
end
end Go.Proofs.YtkoeecdjijfjnaaGreat
