/- Short words for laws of the library. Conditions: none. -/
import Derived.Lib.Hide
import Derived.KernelRfl
namespace Go.Proofs.YtkoeecdjijfjnaaGreat
theorem aYl {p : Prop} (h : p) : Go.RowKit.Hid p := h
theorem aYm {α : Type} [BEq α] [LawfulBEq α] {a b : α} (h : a ≠ b) : (a == b) = false := beq_eq_false_iff_ne.2 h
theorem aYn {α : Type} [BEq α] [LawfulBEq α] {a b : α} (h : a = b) : (a == b) = true := beq_iff_eq.2 h
theorem aYo {p : Prop} [Decidable p] (h : p) : decide p = true := decide_eq_true h
theorem aYp {p : Prop} [Decidable p] (h : ¬ p) : decide p = false := decide_eq_false h
instance : Coe Int Value:=⟨.int .i64⟩
instance : Coe Nat Value:=⟨fun n=>.int .i64 n⟩
theorem U {p:Prop}(h:p:=by omega):p:=h
theorem Y {p:Prop}(h:p:=by simp):p:=h
theorem aa {p:Prop}(h:p:=by kernel_rfl):p:=h
theorem ab {p:Prop}(h:p:=by simp;omega):p:=h
theorem ac {p:Prop}(h:p:=by (repeat refine .put ?_ rfl);exact .rf):p:=h
theorem ae {p:Prop}(h:p:=by show w.heap.size<=w.heap.size+1;omega):p:=h
theorem af {p:Prop}(h:p:=by simp [Value.oneCell']):p:=h
theorem ah {p:Prop}(h:p:=by simp [*]):p:=h
theorem aj {p:Prop}(h:p:=by unfold I64;omega):p:=h
theorem ak {p:Prop}(h:p:=by simp [I64]):p:=h
theorem al {p:Prop}(h:p:=by rfl):p:=h
theorem am {p:Prop}(h:p:=by decide):p:=h
theorem an {p:Prop}(h:p:=by unfold uU;rw [(show decide (x.hi<x.lo)=false from aYp (by omega)),(show decide (x.lo < -4611686018427387904)=false from aYp (by omega)),(show decide (4611686018427387904<x.hi)=true from aYo (by omega))];try rfl):p:=h
theorem ao {p:Prop}(h:p:=by simp [hy]):p:=h
theorem ap {p:Prop}(h:p:=by simp <;> omega):p:=h
theorem aq {p:Prop}(h:p:=by rw [List.length_take];omega):p:=h
theorem ar {p:Prop}(h:p:=by simp [hlt]):p:=h
theorem au {p:Prop}(h:p:=by unfold uU;rw [(show decide (x.hi<x.lo)=false from aYp (by omega)),(show decide (x.lo < -4611686018427387904)=true from aYo (by omega))];try rfl):p:=h
theorem av {p:Prop}(h:p:=by simp [GV.kids]):p:=h
theorem aw {p:Prop}(h:p:=by simp [*];rfl):p:=h
theorem az {p:Prop}(h:p:=by show w.heap.size+1+1 ≠ w.heap.size+1+1+1;omega):p:=h
theorem ba {p:Prop}(h:p:=by assumption):p:=h
theorem bh {p:Prop}(h:p:=by rw [Bool.eq_iff_iff] <;> simp_all <;> omega):p:=h
theorem bj {p:Prop}(h:p:=by simpa using hz):p:=h
theorem cd {p:Prop}(h:p:=by show w.heap.size<=w.heap.size+1+1+1;omega):p:=h
theorem ce {p:Prop}(h:p:=by show w.heap.size+1+1+1<W.heap.size;omega):p:=h
theorem ci {p:Prop}(h:p:=by simp only [hd,mL,df]):p:=h
theorem cj {p:Prop}(h:p:=by unfold maxLen;omega):p:=h
theorem cm {p:Prop}(h:p:=by rw [HDC.out];rfl):p:=h
theorem co {p:Prop}(h:p:=by rw [HD.out,if_pos (.inr hk0)];try (first | rw [if_pos (by assumption)] | rw [if_neg (by omega)])):p:=h
theorem cq {p:Prop}(h:p:=by intro x hx;rw [List.eq_of_mem_replicate hx];unfold I64;omega):p:=h
theorem ct {p:Prop}(h:p:=by rw [bne_eq_false_iff_eq];exact hz):p:=h
theorem cu {p:Prop}(h:p:=by rw [hz2];omega):p:=h
theorem db {p:Prop}(h:p:=by rw [HC.out]):p:=h
theorem dd {p:Prop}(h:p:=by simp [Ev,Act.eval]):p:=h
theorem dg {p:Prop}(h:p:=by simp [Value.ownBlock]):p:=h
theorem dh {p:Prop}(h:p:=by show (0:Nat)<=_;omega):p:=h
theorem di {p:Prop}(h:p:=by simp only [Nat.min_def];split <;> omega):p:=h
theorem dj {p:Prop}(h:p:=by first | exact Ext.refl _ | exact (Ext.refl _).drewN' _ | exact (Ext.refl _).drew'):p:=h
theorem dl {p:Prop}(h:p:=by simp [gsz,kH]):p:=h
theorem dr {p:Prop}(h:p:=by rw [HM2.out];simp):p:=h
theorem du {p:Prop}(h:p:=by rw [<- dE s 0 h00];omega):p:=h
theorem dw {p:Prop}(h:p:=by simp [Region.wanted,hg]):p:=h
theorem dz {p:Prop}(h:p:=by rw [hgX];simp <;> omega):p:=h
theorem d8 {p:Prop}(h:p:=by rw [eD hg hj hs he,hb]):p:=h
theorem d9 {p:Prop}(h:p:=by rw [HD.out,HN.out];rfl):p:=h
theorem ec {p:Prop}(h:p:=by unfold uU;rw [(show decide (x.hi<x.lo)=true from aYo (by omega))];try rfl):p:=h
theorem ed {p:Prop}(h:p:=by rw [HT.out,drop_nil (by omega),dU]):p:=h
theorem ee {p:Prop}(h:p:=by simp only [List.length_append,List.length_take];rw [Nat.add_mul];omega):p:=h
theorem eh {p:Prop}(h:p:=by simp [World.setCell]):p:=h
theorem ei {p:Prop}(h:p:=by simp [bG]):p:=h
theorem em {p:Prop}(h:p:=by rw [HK.out,drop_nil (by rw [kI];omega)];rfl):p:=h
theorem eq {p:Prop}(h:p:=by simp [hsz]):p:=h
theorem er {p:Prop}(h:p:=by rw [HT.out,drop_nil (by omega),dU];rfl):p:=h
theorem et {p:Prop}(h:p:=by rw [e];rfl):p:=h
theorem eu {p:Prop}(h:p:=by show w.heap.size+1+1<W.heap.size;omega):p:=h
theorem ex {p:Prop}(h:p:=by simpa using h):p:=h
theorem ey {p:Prop}(h:p:=by simp [RL]):p:=h
theorem ez {p:Prop}(h:p:=by rw [List.length_append,HGL.out];rfl):p:=h
theorem fc {p:Prop}(h:p:=by simp [h0]):p:=h
theorem fd {p:Prop}(h:p:=by cases bind <;> simp at hk <;> omega):p:=h
theorem fe {p:Prop}(h:p:=by rw [HF.out.1,HF2.out];rfl):p:=h
theorem ff {p:Prop}(h:p:=by unfold maxLen at h5;omega):p:=h
theorem fh {p:Prop}(h:p:=by rw [HQ.out];rfl):p:=h
theorem fj {p:Prop}(h:p:=by simp only [List.length_append,List.length_take];omega):p:=h
theorem fo {p:Prop}(h:p:=by rw [HD.out,HINS.out];rfl):p:=h
theorem fp {p:Prop}(h:p:=by simpa [wtE,hf] using hoA):p:=h
theorem fq {p:Prop}(h:p:=by simpa using hu):p:=h
theorem fs {p:Prop}(h:p:=by rw [hs1];congr 1;omega):p:=h
theorem ft {p:Prop}(h:p:=by rw [bne_eq_false_iff_eq];omega):p:=h
theorem fu {p:Prop}(h:p:=by rw [List.length_append,List.length_take];omega):p:=h
theorem fv {p:Prop}(h:p:=by simp [vlD]):p:=h
theorem fw {p:Prop}(h:p:=by rw [<- dE s 0 h00];exact h2):p:=h
theorem fx {p:Prop}(h:p:=by rw [<- dE s 0 h00];exact h3):p:=h
theorem fy {p:Prop}(h:p:=by have:=HZL.out;omega):p:=h
theorem fz {p:Prop}(h:p:=by simpa using h2):p:=h
theorem gh {p:Prop}(h:p:=by simpa using h6):p:=h
theorem gi {p:Prop}(h:p:=by rw [HD.out,aYo HZ.out];rfl):p:=h
theorem gj {p:Prop}(h:p:=by rw [HD.out,if_pos HZ.out]):p:=h
theorem gn {p:Prop}(h:p:=by congr 1;omega):p:=h
theorem gq {p:Prop}(h:p:=by rw [HA.out];omega):p:=h
theorem gu {p:Prop}(h:p:=by rw [eD hg hj hs he,hbw]):p:=h
theorem gv {p:Prop}(h:p:=by rw [HV.out];simp):p:=h
theorem gy {p:Prop}(h:p:=by simpa using this):p:=h
theorem ia {p:Prop}(h:p:=by rw [HN2.out];rfl):p:=h
theorem ib {p:Prop}(h:p:=by rw [hx];exact h4):p:=h
theorem ic {p:Prop}(h:p:=by rw [HD.out,HF.out];rfl):p:=h
theorem ie {p:Prop}(h:p:=by have:=h.1;omega):p:=h
theorem ig {p:Prop}(h:p:=by show 0<=_;omega):p:=h
theorem ij {p:Prop}(h:p:=by rw [HU.out];rfl):p:=h
theorem ik {p:Prop}(h:p:=by simpa using hj):p:=h
theorem il {p:Prop}(h:p:=by simp [h1]):p:=h
theorem im {p:Prop}(h:p:=by simp [hl]):p:=h
theorem ip {p:Prop}(h:p:=by simp [cD]):p:=h
end Go.Proofs.YtkoeecdjijfjnaaGreat
