/- Short words for laws of the library. Conditions: none. -/
import Derived.Lib.Hide
import Derived.KernelRfl
import Derived.WalkKit
import Derived.Test.YtkoeecdjijfjnaaGreatDoorRows
set_option linter.all false
namespace Go.Proofs.YtkoeecdjijfjnaaGreatDoor
theorem aa.{u} {α:Type u}{a b:List α}:(a ++ b).length=a.length+b.length:=List.length_append
theorem ab (n:Nat):n<=n:=Nat.le_refl n
theorem ac {n m k:Nat}(h:n<m)(g:m<=k):n<k:=Nat.lt_of_lt_of_le h g
theorem ae {n m k:Nat}(h:n<=m)(g:m<=k):n<=k:=Nat.le_trans h g
theorem af (n:Nat):0<=n:=Nat.zero_le n
theorem ah.{u} {α:Type u}(a b c:List α):a ++ b ++ c=a ++ (b ++ c):=List.append_assoc a b c
theorem ai.{u} {α:Type u}{a:α}{l:List α}:(a :: l).length=l.length+1:=List.length_cons
theorem aj.{u,v} {α:Type u}{β:Type v}(a:α)(f:α->Option β):(some a).bind f=f a:=Option.bind_some a f
theorem ak.{u} {α:Type u}{i:Nat}{l:List α}:(List.take i l).length=min i l.length:=List.length_take
theorem am.{u} {α:Type u}{i:Nat}{l:List α}:(List.drop i l).length=l.length - i:=List.length_drop
theorem an.{u} {α:Type u}{i:Nat}{l:List α}(h:l.length<=i):List.take i l=l:=List.take_of_length_le h
theorem ao.{u} {α:Type u}{b:α}{l:List α}{a:α}:a ∈ b :: l ↔ a=b∨a ∈ l:=List.mem_cons
theorem ap.{u} {α:Type u}{a:α}{s t:List α}:a ∈ s ++ t ↔ a ∈ s∨a ∈ t:=List.mem_append
theorem aYf {p : Prop} (h : p) : Go.RowKit.Hid p := h
theorem aYg {α : Type} [BEq α] [LawfulBEq α] {a b : α} (h : a ≠ b) : (a == b) = false := beq_eq_false_iff_ne.2 h
theorem aYh {α : Type} [BEq α] [LawfulBEq α] {a b : α} (h : a = b) : (a == b) = true := beq_iff_eq.2 h
theorem aYi {p : Prop} [Decidable p] (h : p) : decide p = true := decide_eq_true h
theorem aYj {p : Prop} [Decidable p] (h : ¬ p) : decide p = false := decide_eq_false h
inductive Zq1|z
inductive Zq2|z
inductive Zq3|z
inductive Zq4 (b i:Nat)|z
inductive Zq5 (w:World)(b i:Nat)(v:Value)|z
inductive Zq7 (f:FuncId)(x:Array Value)(w:World)(R:Ending->World->Prop)|z
inductive Zq8 (c:Code)(Q:Exit->Act->World->Prop)(a:Act)(w:World)|z
inductive Zq9 (x:Array Value)(t:TypeId)|z
abbrev qz:Zq1:=.z
abbrev qn:Zq2:=.z
abbrev qe:Zq3:=.z
abbrev qt (b i:Nat):Zq4 b i:=.z
abbrev qp (b:Nat):Zq4 b 0:=.z
abbrev qc (w:World)(b i:Nat)(v:Value):Zq5 w b i v:=.z
abbrev qg (f:FuncId)(x:Array Value)(w:World)(R:Ending->World->Prop):Zq7 f x w R:=.z
abbrev qw (c:Code)(Q:Exit->Act->World->Prop)(a:Act)(w:World):Zq8 c Q a w:=.z
abbrev qk (x:Array Value)(t:TypeId):Zq9 x t:=.z
section
variable {f:FuncId}{x:Array Value}{w:World}{R:Ending->World->Prop}{c:Code}{Q:Exit->Act->World->Prop}{a:Act}{t b i:Nat}{v:Value}
instance:Coe Zq1 Value:=⟨fun _=>.int .i64 0⟩
instance:Coe Zq2 Value:=⟨fun _=>.slice none 0 0⟩
instance:Coe Zq3 Value:=⟨fun _=>.string ⟨#[]⟩⟩
instance:Coe Bool Value:=⟨.bool⟩
instance:Coe World Nat:=⟨fun w=>w.heap.size⟩
instance {α:Type}:CoeOut (List α) Nat:=⟨List.length⟩
instance:Coe ByteArray Value:=⟨.string⟩
instance:CoeOut (Zq4 b i) Value:=⟨fun _=>.pointer (some ⟨b,i,none⟩)⟩
instance:CoeOut (Zq4 b i) Addr:=⟨fun _=>⟨b,i,none⟩⟩
instance:CoeOut (Zq4 b i) (Option Addr):=⟨fun _=>some ⟨b,i,none⟩⟩
instance:CoeSort (Zq5 w b i v) Prop:=⟨fun _=>w.cell? ⟨b,i,none⟩=some v⟩
instance:CoeOut (Zq5 w b i v) Prop:=⟨fun _=>w.cell? ⟨b,i,none⟩=some v⟩
instance:CoeSort (Zq7 f x w R) Prop:=⟨fun _=>Calls Tryz.prog f x w R⟩
instance:CoeOut (Zq7 f x w R) Prop:=⟨fun _=>Calls Tryz.prog f x w R⟩
instance:CoeSort (Zq8 c Q a w) Prop:=⟨fun _=>Code.wp Tryz.prog c Q a w⟩
instance:CoeOut (Zq8 c Q a w) Prop:=⟨fun _=>Code.wp Tryz.prog c Q a w⟩
instance:CoeOut (Zq9 x t) Obj:=⟨fun _=>.cells x t⟩
end
instance : Coe Int Value:=⟨.int .i64⟩
instance : Coe Nat Value:=⟨fun n=>.int .i64 n⟩
theorem I {p:Prop}(h:p:=by omega):p:=h
theorem O {p:Prop}(h:p:=by (repeat refine .put ?_ rfl);exact .rf):p:=h
theorem U {p:Prop}(h:p:=by simp):p:=h
theorem av {p:Prop}(h:p:=by kernel_rfl):p:=h
theorem ba {p:Prop}(h:p:=by simp [*]):p:=h
theorem bh {p:Prop}(h:p:=by simp;omega):p:=h
theorem cd {p:Prop}(h:p:=by simp [*];rfl):p:=h
theorem ci {p:Prop}(h:p:=by simp [Value.oneCell']):p:=h
theorem cm {p:Prop}(h:p:=by show w.heap.size<=w+1;omega):p:=h
theorem ct {p:Prop}(h:p:=by simp [sz]):p:=h
theorem cu {p:Prop}(h:p:=by simp [I64]):p:=h
theorem dd {p:Prop}(h:p:=by rfl):p:=h
theorem dg {p:Prop}(h:p:=by unfold I64;omega):p:=h
theorem dh {p:Prop}(h:p:=by simp [hy]):p:=h
theorem di {p:Prop}(h:p:=by unfold wX;rw [(show decide (x.hi<x.lo)=false from aYj (by omega)),(show decide (x.lo < -4611686018427387904)=false from aYj (by omega)),(show decide (4611686018427387904<x.hi)=true from aYi (by omega))];try rfl):p:=h
theorem dl {p:Prop}(h:p:=by show (0:Nat)<=_;omega):p:=h
theorem dm {p:Prop}(h:p:=by simp [GV.kids]):p:=h
theorem dr {p:Prop}(h:p:=by simp [Value.ownBlock]):p:=h
theorem du {p:Prop}(h:p:=by unfold maxLen;omega):p:=h
theorem dw {p:Prop}(h:p:=by unfold wX;rw [(show decide (x.hi<x.lo)=false from aYj (by omega)),(show decide (x.lo < -4611686018427387904)=true from aYi (by omega))];try rfl):p:=h
theorem dx {p:Prop}(h:p:=by decide):p:=h
theorem dy {p:Prop}(h:p:=by simp [Region.wanted,hg]):p:=h
theorem dz {p:Prop}(h:p:=by assumption):p:=h
theorem d8 {p:Prop}(h:p:=by rw [Bool.eq_iff_iff] <;> simp_all <;> omega):p:=h
theorem d9 {p:Prop}(h:p:=by simpa using hz):p:=h
theorem ed {p:Prop}(h:p:=by simp <;> omega):p:=h
theorem ee {p:Prop}(h:p:=by simp only [hd,mZ,df]):p:=h
theorem eh {p:Prop}(h:p:=by rw [HD.out,if_pos (.inr hk0)];try (first | rw [if_pos (by assumption)] | rw [if_neg (by omega)])):p:=h
theorem ei {p:Prop}(h:p:=by rw [HDC.out];rfl):p:=h
theorem em {p:Prop}(h:p:=by intro x hx;rw [List.eq_of_mem_replicate hx];unfold I64;omega):p:=h
theorem eq {p:Prop}(h:p:=by simp [gsz,jQ]):p:=h
theorem er {p:Prop}(h:p:=by rw [bne_eq_false_iff_eq];exact hz):p:=h
theorem et {p:Prop}(h:p:=by rw [HC.out]):p:=h
theorem eu {p:Prop}(h:p:=by simp [Ev,Act.eval]):p:=h
theorem fc {p:Prop}(h:p:=by simp only [Nat.min_def];split <;> omega):p:=h
theorem fd {p:Prop}(h:p:=by rw [ak];omega):p:=h
theorem fe {p:Prop}(h:p:=by simp [bN]):p:=h
theorem ff {p:Prop}(h:p:=by simp [hlt]):p:=h
theorem fh {p:Prop}(h:p:=by rw [HM2.out];simp):p:=h
theorem fj {p:Prop}(h:p:=by rw [<- dL s 0 h00];omega):p:=h
theorem fo {p:Prop}(h:p:=by have:=hn.kids z hz;omega):p:=h
theorem fp {p:Prop}(h:p:=by rw [hz2];omega):p:=h
theorem fq {p:Prop}(h:p:=by rw [hgX];simp <;> omega):p:=h
theorem fs {p:Prop}(h:p:=by simp [cellsOf]):p:=h
theorem ft {p:Prop}(h:p:=by rw [hl];exact r3 _ (fun b hb=>h.new (by simp [Value.ownBlock] at hb;omega))):p:=h
theorem fu {p:Prop}(h:p:=by rw [HD.out,HN.out];rfl):p:=h
theorem fv {p:Prop}(h:p:=by rw [eV hg hj hs he,hb]):p:=h
theorem fw {p:Prop}(h:p:=by unfold wX;rw [(show decide (x.hi<x.lo)=true from aYi (by omega))];try rfl):p:=h
theorem fx {p:Prop}(h:p:=by rw [HT.out,drop_nil (by omega),dX]):p:=h
theorem fy {p:Prop}(h:p:=by simpa using hu):p:=h
theorem fz {p:Prop}(h:p:=by simp only [aa];omega):p:=h
theorem gh {p:Prop}(h:p:=by simp [RL]):p:=h
theorem gi {p:Prop}(h:p:=by rw [HK.out,drop_nil (by rw [kP];omega)];rfl):p:=h
theorem gj {p:Prop}(h:p:=by rw [e];rfl):p:=h
theorem gn {p:Prop}(h:p:=by simp [hsz]):p:=h
theorem gu {p:Prop}(h:p:=by simp only [aa,List.length_singleton];omega):p:=h
theorem gv {p:Prop}(h:p:=by rw [hk];rfl):p:=h
theorem gy {p:Prop}(h:p:=by rw [aYg hk]):p:=h
theorem ia {p:Prop}(h:p:=by first | exact aq _ | exact (aq _).drewN' _ | exact (aq _).drew'):p:=h
theorem ib {p:Prop}(h:p:=by rw [HT.out,drop_nil (by omega),dX];rfl):p:=h
theorem ic {p:Prop}(h:p:=by simp [World.setCell]):p:=h
theorem ie {p:Prop}(h:p:=by simpa using h):p:=h
theorem ig {p:Prop}(h:p:=by cases bind <;> simp at hk <;> omega):p:=h
theorem ij {p:Prop}(h:p:=by unfold maxLen at h5;omega):p:=h
theorem ik {p:Prop}(h:p:=by have:=hX1.size;simp;omega):p:=h
theorem il {p:Prop}(h:p:=by rw [HF.out.1,HF2.out];rfl):p:=h
theorem im {p:Prop}(h:p:=by intro u hu;obtain ⟨z,-,rfl⟩:=List.mem_map.1 hu;rfl):p:=h
theorem ip {p:Prop}(h:p:=by rw [HQ.out];rfl):p:=h
theorem iq {p:Prop}(h:p:=by rw [HD.out,HINS.out];rfl):p:=h
theorem ir {p:Prop}(h:p:=by simp [k1]):p:=h
theorem iu {p:Prop}(h:p:=by rw [bne_eq_false_iff_eq];omega):p:=h
theorem iw {p:Prop}(h:p:=by rw [am];omega):p:=h
theorem iy {p:Prop}(h:p:=by simpa using this):p:=h
theorem iz {p:Prop}(h:p:=by simp only [vfa];omega):p:=h
theorem i6 {p:Prop}(h:p:=by simp [cellsOf];omega):p:=h
theorem i7 {p:Prop}(h:p:=by simp [Rows.corpusCarriesRow]):p:=h
theorem i8 {p:Prop}(h:p:=by show w.heap.size+1+1<W;omega):p:=h
theorem ja {p:Prop}(h:p:=by show 0<=_;omega):p:=h
theorem jb {p:Prop}(h:p:=by rw [<- dL s 0 h00];exact h2):p:=h
theorem jc {p:Prop}(h:p:=by rw [<- dL s 0 h00];exact h3):p:=h
theorem jd {p:Prop}(h:p:=by have:=HZL.out;omega):p:=h
theorem je {p:Prop}(h:p:=by simp [bC]):p:=h
theorem jf {p:Prop}(h:p:=by simp [k4]):p:=h
theorem jg {p:Prop}(h:p:=by simp [h0]):p:=h
theorem jh {p:Prop}(h:p:=by simpa using h2):p:=h
theorem ji {p:Prop}(h:p:=by rw [HD.out,aYi HZ.out];rfl):p:=h
theorem jj {p:Prop}(h:p:=by have:=hkid 0;omega):p:=h
theorem jk {p:Prop}(h:p:=by rw [HD.out,if_pos HZ.out]):p:=h
theorem jm {p:Prop}(h:p:=by unfold I64;simp [GV.kind]):p:=h
theorem jo {p:Prop}(h:p:=by rw [aa];omega):p:=h
theorem jp {p:Prop}(h:p:=by rw [HA.out];omega):p:=h
theorem jq {p:Prop}(h:p:=by rw [eV hg hj hs he,hbw]):p:=h
theorem jr {p:Prop}(h:p:=by rw [HV.out];simp):p:=h
theorem js {p:Prop}(h:p:=by rw [HN2.out];rfl):p:=h
theorem jt {p:Prop}(h:p:=by rw [hx];exact h4):p:=h
theorem ju {p:Prop}(h:p:=by rw [HD.out,HF.out];rfl):p:=h
theorem jw {p:Prop}(h:p:=by unfold aI;rw [dU];simp):p:=h
theorem jx {p:Prop}(h:p:=by simp [k0]):p:=h
theorem jy {p:Prop}(h:p:=by simp [k3]):p:=h
theorem jz {p:Prop}(h:p:=by simp [hl]):p:=h
theorem j2 {p:Prop}(h:p:=by rw [HU.out];rfl):p:=h
theorem j3 {p:Prop}(h:p:=by have:=h.1;omega):p:=h
theorem j4 {p:Prop}(h:p:=by simpa using h6):p:=h
theorem j5 {p:Prop}(h:p:=by simpa using hj):p:=h
theorem j6 {p:Prop}(h:p:=by simp [RVs]):p:=h
theorem j7 {p:Prop}(h:p:=by rw [e]):p:=h
theorem j8 {p:Prop}(h:p:=by simp [he]):p:=h
end Go.Proofs.YtkoeecdjijfjnaaGreatDoor
