/- Contracts of functions, plain laws. Conditions: none. -/
import Derived.Test.YtkoeecdjijfjnaaGreatQ3
import Derived.Test.YtkoeecdjijfjnaaGreatB3
set_option maxRecDepth 100000
set_option maxHeartbeats 8000000
namespace Go.Proofs.YtkoeecdjijfjnaaGreat
open Go.RowKit
def aO (n:Nat):Code->Option Code
 | .region id ops d=>if id=n then some (.region id ops d) else none
 | .seq a b=>match aO n a with
  | some c=>some c
  | none=>aO n b
 | .block _ c=>aO n c
 | .scope c=>aO n c
 | .loop c=>aO n c
 | .cond _ a b=>match aO n a with
  | some c=>some c
  | none=>aO n b
 | _=>none
section
variable {P:Program}{ops:Array Oper}{Q:Exit->Act->World->Prop}{md:Region.Mode}{S:World->Prop}{bf:Nat->Bool}
theorem iV {id:Nat}{a:Act}{w:World}(S:World->Prop)(bf:Nat->Bool)(n:Nat)(l:Array Bool)(hm:P.follows .mixedOrders=true)(hn:ops.size=n)(hl:Array.replicate n false=l)
  (h:dF P .any ops Q S bf n l a w.drew):(Code.region id ops true).wp P Q a w:=by
 subst hn hl;exact oR S bf hm h
theorem iW (l l':Array Bool)(i:Nat){o:Oper}{fuel:Nat}{a:Act}{w:World}(hl:l.setIfInBounds i true=l')(hr:Region.ready md ops l=[i])(hi:ops[i]?=some o)
  (h:∀ K:Act->World->Prop,(∀ a' w',(bf i=true->S w')->dF P md ops Q S bf fuel l' a' w'->K a' w')->if Region.wanted o (yielded ops a.tmps)=true then Oper.wp P o a w K Q else K (a.put o.dst undef) w):dF P md ops Q S bf (fuel+1) l a w:=by
 subst hl;exact rM hr hi h
theorem dN (l l':Array Bool)(i d:Nat)(v:Value){o:Oper}{fuel:Nat}{a:Act}{w w1:World}(hl:l.setIfInBounds i true=l')(hr:Region.ready md ops l=[i])(hi:ops[i]?=some o)(hg:o.guard=none)(hd:o.dst=some d)
  (hrun:(execOp a.eval o).run P w=.ok (.value v) w1)(hS:bf i=true->S w1)(h:dF P md ops Q S bf fuel l' (a.put (some d) v) w1):dF P md ops Q S bf (fuel+1) l a w:=by
 refine iW l l' i hl hr hi (fun K hK=>?_);have hw:Region.wanted o (yielded ops a.tmps)=true:=by simp [Region.wanted,hg]
 rw [if_pos hw];unfold Oper.wp;rw [hrun]
 show K (a.put o.dst v) w1
 rw [hd];exact hK _ _ hS h
theorem oH (l l':Array Bool)(i:Nat){o:Oper}{fuel:Nat}{a:Act}{w w1:World}(hl:l.setIfInBounds i true=l')(hr:Region.ready md ops l=[i])(hi:ops[i]?=some o)(hg:o.guard=none)(hd:o.dst=none)
  (hrun:(execOp a.eval o).run P w=.ok .skip w1)(hS:bf i=true->S w1)(h:dF P md ops Q S bf fuel l' a w1):dF P md ops Q S bf (fuel+1) l a w:=by
 refine iW l l' i hl hr hi (fun K hK=>?_);have hw:Region.wanted o (yielded ops a.tmps)=true:=by simp [Region.wanted,hg]
 rw [if_pos hw];unfold Oper.wp;rw [hrun]
 show K (a.put o.dst undef) w1
 rw [hd];exact hK _ _ hS h
theorem tV (l l':Array Bool)(i d:Nat){o:Oper}{fuel:Nat}{a:Act}{w:World}(hl:l.setIfInBounds i true=l')(hr:Region.ready md ops l=[i])(hi:ops[i]?=some o)(hg:o.guard=none)(hd:o.dst=some d)
  (f:FuncId)(xs:Array Operand)(ats:Array TypeId)(hop:o.op=Op.call { callee:=Callee.value (Operand.func f),args:=xs,argTypes:=ats })(fn:Func)(hf:P.funcs[f]?=some fn)(hn:(fn.name == "runtime.NumGoroutine")=false) (hb:fn.body.isNone=false) (vs:Array Value) (hv:xs.map a.eval=vs)
  (h:Calls P f vs w fun e w'=>∃ v,e=.returned v∧(bf i=true->S w')∧dF P md ops Q S bf fuel l' (a.put (some d) v) w'):dF P md ops Q S bf (fuel+1) l a w:=by
 refine iW l l' i hl hr hi (fun K hK=>?_);refine oX hg f xs ats hop fn hf hn hb vs hv (h.mono ?_);rintro e w' ⟨v,rfl,h1,h2⟩;exact ⟨v,rfl,by rw [hd];exact hK _ _ h1 h2⟩
theorem kL (l l':Array Bool)(k d:Nat){o:Oper}{fuel:Nat}{a:Act}{w:World}(hl:l.setIfInBounds k true=l')(hr:Region.ready md ops l=[k])(hk:ops[k]?=some o)(hg:o.guard=none)(hd:o.dst=some d)(s x:Operand)(t:TypeId)
  (ho:o.op=.call { callee:=.builtin .append,args:=#[s,x],argTypes:=#[t,t] })
  (base:Nat)(e:TypeId)(i:TypeInfo)(z:Value)(size bytes:Nat)(ht:P.underlying t=some (.slice e))(hi:P.info? e=some i)(hz:i.zero=some z)
  (hsize:i.size=size)(hby:i.bytes=bytes)(hzs:z.cells.size=size)(hsz:0<size)
  (v:Value)(n:Nat)(xs:List Value)(hs:a.eval s=v)(hown:w.ownsRow base e size v n xs)
  (T:Nat->Prop)(A:Option Addr)(m c:Nat)(news:List Value)(hx:a.eval x=.slice A m c)(hsl:Sl w T size A m news)(h1:∀ u ∈ news,u.oneCell'=true)
  (h63:n+m<=1000000000000)(hbytes:(n+m)*bytes<=140737488355328)(hbase:base<=w.heap.size)
  (h:∀ v' w',w'.ownsRow base e size v' (n+m) (xs ++ news)->Fr (fun k=>some k=v.ownBlock) w w'->(v'.ownBlock=v.ownBlock∨v'.ownBlock=some w.heap.size)->(bf k=true->S w')∧dF P md ops Q S bf fuel l' (a.put (some d) v') w'):dF P md ops Q S bf (fuel+1) l a w:=by
 refine iW l l' k hl hr hk (fun K hK=>?_);refine dQ w hg s x t ho base e i z size bytes ht hi hz hsize hby hzs hsz v n xs hs hown T A m c news hx hsl h1 h63 hbytes hbase ?_;intro v' w' q1 q2 q3;rw [hd];exact hK _ _ (h v' w' q1 q2 q3).1 (h v' w' q1 q2 q3).2
theorem aV (l l':Array Bool){fuel:Nat}{a:Act}{w:World}(i:Nat)(d:Nat)(v:Value){oi:Oper}(hl:l.setIfInBounds i true=l')(hi:ops[i]?=some oi)(hd:oi.dst=some d)
  (hs:Region.noSelect ops=true)(hf:Region.free md ops l i=true)(hr:(Region.ready md ops l).contains i=true)(hb:aCl md ops bf i=true)
  (hQ:∀ c a w,Q (.panic c) (a.put (some d) v) w->Q (.panic c) a w)(hg:oi.guard=none)(hy:∀ w,S w->(execOp a.eval oi).run P w=.ok (.value v) w)(hS:S w)
  (h:dF P md ops Q S bf fuel l' (a.put (some d) v) w):dF P md ops Q S bf (fuel+1) l a w:=by
 subst hl;exact vE i d v hi hd hs hf hr hb hQ hg hy hS h
end
theorem aRo:(Tryz.prog.info? 9).map (fun i=>(i.zero,i.size,i.bytes))=some (some (.string ⟨#[]⟩),1,16):=by kernel_rfl
theorem vc (a:Act)(v:Value):a.eval (.const v)=v:=rfl
section
variable {ρ:Operand->Value}{o:Oper}{w:World}
theorem aJ6 {a:Int}(x:Operand)(ho:o.op=.binOp .quo 3 x (.const (.int .i64 96)) 3)(hx:ρ x=.int .i64 a)(hc:∀ v,ρ (.const v)=v)(h0:0<=a)(h1:a<=1000000):(execOp ρ o).run Tryz.prog w=.ok (.value (.int .i64 (a / 96))) w:=by
 have hw:IntKind.i64.wrap (a / 96)=a / 96:=IntWalk.i64_in _ (by omega);have ht:a.tdiv 96=a / 96:=Int.tdiv_eq_ediv_of_nonneg h0;simp [execOp,ho,hx,hc,go_sem,hw,ht]
theorem aOn {a:Int}(x:Operand)(ho:o.op=.binOp .rem 3 x (.const (.int .i64 4)) 3)(hx:ρ x=.int .i64 a)(hc:∀ v,ρ (.const v)=v)(h0:0<=a):(execOp ρ o).run Tryz.prog w=.ok (.value (.int .i64 (a % 4))) w:=by
 have ht:a.tmod 4=a % 4:=Int.tmod_eq_emod_of_nonneg h0;simp [execOp,ho,hx,hc,go_sem,ht]
theorem aOq {b:Int}(y:Operand)(ho:o.op=.binOp .add 3 (.const (.int .i64 1)) y 3)(hy:ρ y=.int .i64 b)(hc:∀ v,ρ (.const v)=v)(hr:I64 (1+b)):(execOp ρ o).run Tryz.prog w=.ok (.value (.int .i64 (1+b))) w:=by
 have hw:IntKind.i64.wrap (1+b)=1+b:=IntWalk.i64_in _ (by unfold I64 at hr;omega);simp [execOp,ho,hc,hy,go_sem,hw]
theorem aCg {b:Nat}{n:Int}(x y:Operand)(ho:o.op=.indexAddr 82 x y)(hx:ρ x=.slice (some ⟨b,0,none⟩) 4 4)(hy:ρ y=.int .i64 n)(h0:0<=n)(h1:n<4):(execOp ρ o).run Tryz.prog w=.ok (.value (.pointer (some ⟨b,n.toNat,none⟩))) w:=by
 simp [execOp,ho,hx,hy,go_sem,h0,h1]
theorem aDf {s:ByteArray}(x:Operand)(ho:o.op=.buildSlice 82 1 #[(0,x)])(hx:ρ x=.string s):(execOp ρ o).run Tryz.prog w=.ok (.value (.slice (some ⟨w.heap.size,0,none⟩) 1 1)) (w.alloc (.cells #[.string s] 9)):=by
 simp [execOp,ho,hx,go_sem]
theorem aBg {s0 s1 s2 s3:ByteArray}(ho:o.op=.buildSlice 82 4 #[(0,.const (.string s0)),(1,.const (.string s1)),(2,.const (.string s2)),(3,.const (.string s3))])(hc:∀ v,ρ (.const v)=v):(execOp ρ o).run Tryz.prog w=.ok (.value (.slice (some ⟨w.heap.size,0,none⟩) 4 4)) (w.alloc (.cells #[.string s0,.string s1,.string s2,.string s3] 9)):=by
 simp [execOp,ho,hc,go_sem]
theorem aDe {g f:Nat}{A:Option Addr}{n c:Nat}{old:Value}(x y:Operand)(ho:o.op=.store 82 x y)(hx:ρ x=.pointer (some ⟨g,f,none⟩))(hy:ρ y=.slice A n c)(hc:w.cell? ⟨g,f,none⟩=some old)(hz:w.frozen? ⟨g,f,none⟩=false):(execOp ρ o).run Tryz.prog w=.ok .skip (w.setCell ⟨g,f,none⟩ (.slice A n c)):=by
 simp [execOp,ho,hx,hy,go_sem,hc,hz]
end
noncomputable def aPg:Code:=((Tryz.f8.body.bind (aO 34)).getD .skip)
theorem aKn {Q:Exit->Act->World->Prop}{a:Act}{w:World}{gx ll cl B:Nat}{Al A7:Option Addr}{i j c7:Nat}{ks:List Int}{R:Int->Prop}(hsz:a.tmps.size=181)(hpan:∀ c a w d v,Q (.panic c) (a.put (some d) v) w->Q (.panic c) a w)
  (e0:a.eval (.tmp 0)=.slice Al ll cl)(e5:a.eval (.tmp 5)=.int .i64 i)(e7:a.eval (.tmp 7)=.pointer (some ⟨gx,0,none⟩))(ej:a.eval (.tmp 9)=.int .i64 j)
  {cs:Array Value} (hbx:Blk w gx 87 cs) (hbk:cs[7]?=some (.slice A7 j c7)) (hgk:¬ some gx=(Value.slice A7 j c7).ownBlock) (hown:w.ownsRow B 3 1 (.slice A7 j c7) j (ks.map (Value.int .i64))) (hB:B<=w.heap.size) (hj:j<=1000)
  (hcall:Calls Tryz.prog 40 #[.slice Al ll cl,.int .i64 i,.int .i64 j] w.drew fun e w'=>∃ n:Int,e=.returned (.int .i64 n)∧R n∧w.drew=w')
  (h:∀ nk A5 c5 w5,R nk->w5.ownsRow B 3 1 (.slice A5 (j+1) c5) (j+1) (ks.map (Value.int .i64) ++ [.int .i64 nk])->Fr (fun k=>some k=(Value.slice A7 j c7).ownBlock) (w.drew.alloc (.cells #[.int .i64 nk] 3)) w5->((Value.slice A5 (j+1) c5).ownBlock=(Value.slice A7 j c7).ownBlock∨(Value.slice A5 (j+1) c5).ownBlock=some (w.drew.alloc (.cells #[.int .i64 nk] 3)).heap.size) ->
   Q .normal (((((((((a.put (some 145) (.pointer (some ⟨gx,7,none⟩))).put (some 146) (.slice A7 j c7)).put (some 147) (.slice Al ll cl)).put (some 148) (.int .i64 i)).put (some 149) (.int .i64 j)).put (some 150) (.int .i64 nk)).put (some 151) (.slice (some ⟨w.heap.size,0,none⟩) 1 1)).put (some 152) (.slice A5 (j+1) c5)).put (some 153) (.pointer (some ⟨gx,7,none⟩))) (w5.setCell ⟨gx,7,none⟩ (.slice A5 (j+1) c5))):Code.wp Tryz.prog aPg Q a w:=by
 obtain ⟨i3,hi3,hz30,hz31,hz32⟩:=info_parts Tryz.info3;have x7:=hbx.cell' (u:=.slice A7 j c7) 7 hbk;have lx:=hbx.lt;have hS:(w.drew).cell? ⟨gx,7,none⟩=some (.slice A7 j c7):=x7
 conv=>arg 2;whnf
 refine iV (fun w'=>w'.cell? ⟨gx,7,none⟩=some (.slice A7 j c7)) (fun q=>q != 9) 10 #[false,false,false,false,false,false,false,false,false,false] (by kernel_rfl) (by kernel_rfl) (by kernel_rfl) ?_;refine aV _ _ 0 145 (.pointer (some ⟨gx,7,none⟩)) rfl rfl rfl (by kernel_rfl) (by kernel_rfl) (by kernel_rfl) (by kernel_rfl) (fun _ _ _ h=>hpan _ _ _ _ _ h) rfl (fun w hSw=>oC (.tmp 7) rfl (by simp [e7])) hS ?_;refine aV _ _ 1 146 (.slice A7 j c7) rfl rfl rfl (by kernel_rfl) (by kernel_rfl) (by kernel_rfl) (by kernel_rfl) (fun _ _ _ h=>hpan _ _ _ _ _ h) rfl (fun w hSw=>sR (.tmp 145) rfl (by simp [vp,hsz]) hSw) hS ?_;refine aV _ _ 2 147 (.slice Al ll cl) rfl rfl rfl (by kernel_rfl) (by kernel_rfl) (by kernel_rfl) (by kernel_rfl) (fun _ _ _ h=>hpan _ _ _ _ _ h) rfl (fun w hSw=>aS (.tmp 0) rfl (by simp [vp,e0])) hS ?_;refine aV _ _ 3 148 (.int .i64 i) rfl rfl rfl (by kernel_rfl) (by kernel_rfl) (by kernel_rfl) (by kernel_rfl) (fun _ _ _ h=>hpan _ _ _ _ _ h) rfl (fun w hSw=>aS (.tmp 5) rfl (by simp [vp,e5])) hS ?_;refine aV _ _ 4 149 (.int .i64 j) rfl rfl rfl (by kernel_rfl) (by kernel_rfl) (by kernel_rfl) (by kernel_rfl) (fun _ _ _ h=>hpan _ _ _ _ _ h) rfl (fun w hSw=>aS (.tmp 9) rfl (by simp [vp,ej])) hS ?_
 refine tV _ _ 5 150 rfl (by kernel_rfl) rfl rfl rfl 40 #[.tmp 147,.tmp 148,.tmp 149] #[22,3,3] rfl _ Tryz.func40 (by rfl) (by rfl) #[.slice Al ll cl,.int .i64 i,.int .i64 j] (by simp [vp,zp,hsz]) ?_;refine hcall.mono ?_;rintro e w' ⟨nk,rfl,hnk,rfl⟩;refine ⟨_,rfl,fun _=>hS,?_⟩;have hS1:((w.drew).alloc (.cells #[.int .i64 nk] 3)).cell? ⟨gx,7,none⟩=some (.slice A7 j c7):=jC hS _ lx;refine dN _ _ 6 151 _ rfl (by kernel_rfl) rfl rfl rfl (dH (z:=nk) (.tmp 150) rfl (by simp [vp,zp,hsz])) (fun _=>hS1) ?_;refine kL _ _ 7 152 rfl (by kernel_rfl) rfl rfl rfl (.tmp 146) (.tmp 151) 22 rfl B 3 i3 _ 1 8 Tryz.underlying22 hi3 hz30 hz31 hz32 rfl (by omega) (.slice A7 j c7) j (ks.map (Value.int .i64)) (by simp [vp,zp,hsz]) ((hown.ext_ (Ext.refl _).drew').alloc _) (fun _=>True) (some ⟨w.heap.size,0,none⟩) 1 1 [.int .i64 nk] (by simp [vp,zp,hsz]) (Sl.new w.drew _ _ _ _ rfl) (by simp [Value.oneCell']) (by omega) (by omega) (by simp;omega) ?_;intro v5 w5 ho5 hf5 hb5;obtain ⟨A5,c5,ev5,-,-,-⟩:=Sl.of_own ho5;subst ev5;have R5:=(hbx.drew.alloc (.cells #[.int .i64 nk] 3)).fr hf5 hgk;have y7:=R5.cell' (u:=.slice A7 j c7) 7 hbk;have y7f:=R5.frozen 7;refine ⟨fun _=>y7,?_⟩;refine dN _ _ 8 153 (.pointer (some ⟨gx,7,none⟩)) rfl (by kernel_rfl) rfl rfl rfl (oC (.tmp 7) rfl (by simp [vp,e7])) (fun _=>y7) ?_
 refine oH _ _ 9 rfl (by kernel_rfl) rfl rfl rfl (pJ (A:=A5) (n:=j+1) (c:=c5) (.tmp 153) (.tmp 152) rfl (by simp [vp,zp,hsz]) (by simp [vp,zp,hsz]) y7 y7f) (fun h=>absurd h (by decide)) ?_;refine gN (by kernel_rfl) ?_ _;exact h nk A5 c5 w5 hnk ho5 hf5 hb5
noncomputable def aPo:Code:=((Tryz.f8.body.bind (aO 26)).getD .skip)
theorem aKv {Q:Exit->Act->World->Prop}{a:Act}{w:World}{gx ll cl B:Nat}{Al A7:Option Addr}{i j c7:Nat}{ks:List Int}{R:Int->Prop}(hsz:a.tmps.size=181)(hpan:∀ c a w d v,Q (.panic c) (a.put (some d) v) w->Q (.panic c) a w)
  (e0:a.eval (.tmp 0)=.slice Al ll cl)(e5:a.eval (.tmp 5)=.int .i64 i)(e7:a.eval (.tmp 7)=.pointer (some ⟨gx,0,none⟩))(ej:a.eval (.tmp 8)=.int .i64 j)
  {cs:Array Value} (hbx:Blk w gx 87 cs) (hbk:cs[7]?=some (.slice A7 j c7)) (hgk:¬ some gx=(Value.slice A7 j c7).ownBlock) (hown:w.ownsRow B 3 1 (.slice A7 j c7) j (ks.map (Value.int .i64))) (hB:B<=w.heap.size) (hj:j<=1000)
  (hcall:Calls Tryz.prog 40 #[.slice Al ll cl,.int .i64 i,.int .i64 j] w.drew fun e w'=>∃ n:Int,e=.returned (.int .i64 n)∧R n∧w.drew=w')
  (h:∀ nk A5 c5 w5,R nk->w5.ownsRow B 3 1 (.slice A5 (j+1) c5) (j+1) (ks.map (Value.int .i64) ++ [.int .i64 nk])->Fr (fun k=>some k=(Value.slice A7 j c7).ownBlock) (w.drew.alloc (.cells #[.int .i64 nk] 3)) w5->((Value.slice A5 (j+1) c5).ownBlock=(Value.slice A7 j c7).ownBlock∨(Value.slice A5 (j+1) c5).ownBlock=some (w.drew.alloc (.cells #[.int .i64 nk] 3)).heap.size) ->
   Q .normal (((((((((a.put (some 103) (.pointer (some ⟨gx,7,none⟩))).put (some 104) (.slice A7 j c7)).put (some 105) (.slice Al ll cl)).put (some 106) (.int .i64 i)).put (some 107) (.int .i64 j)).put (some 108) (.int .i64 nk)).put (some 109) (.slice (some ⟨w.heap.size,0,none⟩) 1 1)).put (some 110) (.slice A5 (j+1) c5)).put (some 111) (.pointer (some ⟨gx,7,none⟩))) (w5.setCell ⟨gx,7,none⟩ (.slice A5 (j+1) c5))):Code.wp Tryz.prog aPo Q a w:=by
 obtain ⟨i3,hi3,hz30,hz31,hz32⟩:=info_parts Tryz.info3;have x7:=hbx.cell' (u:=.slice A7 j c7) 7 hbk;have lx:=hbx.lt;have hS:(w.drew).cell? ⟨gx,7,none⟩=some (.slice A7 j c7):=x7
 conv=>arg 2;whnf
 refine iV (fun w'=>w'.cell? ⟨gx,7,none⟩=some (.slice A7 j c7)) (fun q=>q != 9) 10 #[false,false,false,false,false,false,false,false,false,false] (by kernel_rfl) (by kernel_rfl) (by kernel_rfl) ?_;refine aV _ _ 0 103 (.pointer (some ⟨gx,7,none⟩)) rfl rfl rfl (by kernel_rfl) (by kernel_rfl) (by kernel_rfl) (by kernel_rfl) (fun _ _ _ h=>hpan _ _ _ _ _ h) rfl (fun w hSw=>oC (.tmp 7) rfl (by simp [e7])) hS ?_;refine aV _ _ 1 104 (.slice A7 j c7) rfl rfl rfl (by kernel_rfl) (by kernel_rfl) (by kernel_rfl) (by kernel_rfl) (fun _ _ _ h=>hpan _ _ _ _ _ h) rfl (fun w hSw=>sR (.tmp 103) rfl (by simp [vp,hsz]) hSw) hS ?_;refine aV _ _ 2 105 (.slice Al ll cl) rfl rfl rfl (by kernel_rfl) (by kernel_rfl) (by kernel_rfl) (by kernel_rfl) (fun _ _ _ h=>hpan _ _ _ _ _ h) rfl (fun w hSw=>aS (.tmp 0) rfl (by simp [vp,e0])) hS ?_;refine aV _ _ 3 106 (.int .i64 i) rfl rfl rfl (by kernel_rfl) (by kernel_rfl) (by kernel_rfl) (by kernel_rfl) (fun _ _ _ h=>hpan _ _ _ _ _ h) rfl (fun w hSw=>aS (.tmp 5) rfl (by simp [vp,e5])) hS ?_;refine aV _ _ 4 107 (.int .i64 j) rfl rfl rfl (by kernel_rfl) (by kernel_rfl) (by kernel_rfl) (by kernel_rfl) (fun _ _ _ h=>hpan _ _ _ _ _ h) rfl (fun w hSw=>aS (.tmp 8) rfl (by simp [vp,ej])) hS ?_
 refine tV _ _ 5 108 rfl (by kernel_rfl) rfl rfl rfl 40 #[.tmp 105,.tmp 106,.tmp 107] #[22,3,3] rfl _ Tryz.func40 (by rfl) (by rfl) #[.slice Al ll cl,.int .i64 i,.int .i64 j] (by simp [vp,zp,hsz]) ?_;refine hcall.mono ?_;rintro e w' ⟨nk,rfl,hnk,rfl⟩;refine ⟨_,rfl,fun _=>hS,?_⟩;have hS1:((w.drew).alloc (.cells #[.int .i64 nk] 3)).cell? ⟨gx,7,none⟩=some (.slice A7 j c7):=jC hS _ lx;refine dN _ _ 6 109 _ rfl (by kernel_rfl) rfl rfl rfl (dH (z:=nk) (.tmp 108) rfl (by simp [vp,zp,hsz])) (fun _=>hS1) ?_;refine kL _ _ 7 110 rfl (by kernel_rfl) rfl rfl rfl (.tmp 104) (.tmp 109) 22 rfl B 3 i3 _ 1 8 Tryz.underlying22 hi3 hz30 hz31 hz32 rfl (by omega) (.slice A7 j c7) j (ks.map (Value.int .i64)) (by simp [vp,zp,hsz]) ((hown.ext_ (Ext.refl _).drew').alloc _) (fun _=>True) (some ⟨w.heap.size,0,none⟩) 1 1 [.int .i64 nk] (by simp [vp,zp,hsz]) (Sl.new w.drew _ _ _ _ rfl) (by simp [Value.oneCell']) (by omega) (by omega) (by simp;omega) ?_;intro v5 w5 ho5 hf5 hb5;obtain ⟨A5,c5,ev5,-,-,-⟩:=Sl.of_own ho5;subst ev5;have R5:=(hbx.drew.alloc (.cells #[.int .i64 nk] 3)).fr hf5 hgk;have y7:=R5.cell' (u:=.slice A7 j c7) 7 hbk;have y7f:=R5.frozen 7;refine ⟨fun _=>y7,?_⟩;refine dN _ _ 8 111 (.pointer (some ⟨gx,7,none⟩)) rfl (by kernel_rfl) rfl rfl rfl (oC (.tmp 7) rfl (by simp [vp,e7])) (fun _=>y7) ?_
 refine oH _ _ 9 rfl (by kernel_rfl) rfl rfl rfl (pJ (A:=A5) (n:=j+1) (c:=c5) (.tmp 111) (.tmp 110) rfl (by simp [vp,zp,hsz]) (by simp [vp,zp,hsz]) y7 y7f) (fun h=>absurd h (by decide)) ?_;refine gN (by kernel_rfl) ?_ _;exact h nk A5 c5 w5 hnk ho5 hf5 hb5
noncomputable def aPp:Code:=((Tryz.f8.body.bind (aO 25)).getD .skip)
theorem aKw {Q:Exit->Act->World->Prop}{a:Act}{w:World}{gx ll cl B:Nat}{Al A7:Option Addr}{i j c7:Nat}{ks:List Int}{p:Int}(hsz:a.tmps.size=181)(hpan:∀ c a w d v,Q (.panic c) (a.put (some d) v) w->Q (.panic c) a w)
  (e0:a.eval (.tmp 0)=.slice Al ll cl)(e5:a.eval (.tmp 5)=.int .i64 i)(e7:a.eval (.tmp 7)=.pointer (some ⟨gx,0,none⟩))(ej:a.eval (.tmp 8)=.int .i64 j)
  {cs:Array Value} (hbx:Blk w gx 87 cs) (hbk:cs[4]?=some (.slice A7 j c7)) (hgk:¬ some gx=(Value.slice A7 j c7).ownBlock) (hown:w.ownsRow B 3 1 (.slice A7 j c7) j (ks.map (Value.int .i64))) (hB:B<=w.heap.size) (hj:j<=1000) (hi:i<=1000) (hp:0<=p∧p<5)
  (hcall:Calls Tryz.prog 38 #[.slice Al ll cl,.int .i64 ((i:Int)+(j:Int)),.int .i64 5] w.drew fun e w'=>e=.returned (.int .i64 p)∧w.drew=w')
  (h:∀ A5 c5 w5,w5.ownsRow B 3 1 (.slice A5 (j+1) c5) (j+1) (ks.map (Value.int .i64) ++ [.int .i64 (1+p)])->Fr (fun k=>some k=(Value.slice A7 j c7).ownBlock) (w.drew.alloc (.cells #[.int .i64 (1+p)] 3)) w5->((Value.slice A5 (j+1) c5).ownBlock=(Value.slice A7 j c7).ownBlock∨(Value.slice A5 (j+1) c5).ownBlock=some (w.drew.alloc (.cells #[.int .i64 (1+p)] 3)).heap.size) ->
   Q .normal (((((((((((a.put (some 92) (.pointer (some ⟨gx,4,none⟩))).put (some 93) (.slice A7 j c7)).put (some 94) (.slice Al ll cl)).put (some 95) (.int .i64 i)).put (some 96) (.int .i64 j)).put (some 97) (.int .i64 ((i:Int)+(j:Int)))).put (some 98) (.int .i64 p)).put (some 99) (.int .i64 (1+p))).put (some 100) (.slice (some ⟨w.heap.size,0,none⟩) 1 1)).put (some 101) (.slice A5 (j+1) c5)).put (some 102) (.pointer (some ⟨gx,4,none⟩))) (w5.setCell ⟨gx,4,none⟩ (.slice A5 (j+1) c5))):Code.wp Tryz.prog aPp Q a w:=by
 obtain ⟨i3,hi3,hz30,hz31,hz32⟩:=info_parts Tryz.info3;have x7:=hbx.cell' (u:=.slice A7 j c7) 4 hbk;have lx:=hbx.lt;have hS:(w.drew).cell? ⟨gx,4,none⟩=some (.slice A7 j c7):=x7
 conv=>arg 2;whnf
 refine iV (fun w'=>w'.cell? ⟨gx,4,none⟩=some (.slice A7 j c7)) (fun q=>q != 11) 12 #[false,false,false,false,false,false,false,false,false,false,false,false] (by kernel_rfl) (by kernel_rfl) (by kernel_rfl) ?_;refine aV _ _ 0 92 (.pointer (some ⟨gx,4,none⟩)) rfl rfl rfl (by kernel_rfl) (by kernel_rfl) (by kernel_rfl) (by kernel_rfl) (fun _ _ _ h=>hpan _ _ _ _ _ h) rfl (fun w hSw=>yX (.tmp 7) rfl (by simp [e7])) hS ?_;refine aV _ _ 1 93 (.slice A7 j c7) rfl rfl rfl (by kernel_rfl) (by kernel_rfl) (by kernel_rfl) (by kernel_rfl) (fun _ _ _ h=>hpan _ _ _ _ _ h) rfl (fun w hSw=>sR (.tmp 92) rfl (by simp [vp,hsz]) hSw) hS ?_;refine aV _ _ 2 94 (.slice Al ll cl) rfl rfl rfl (by kernel_rfl) (by kernel_rfl) (by kernel_rfl) (by kernel_rfl) (fun _ _ _ h=>hpan _ _ _ _ _ h) rfl (fun w hSw=>aS (.tmp 0) rfl (by simp [vp,e0])) hS ?_;refine aV _ _ 3 95 (.int .i64 i) rfl rfl rfl (by kernel_rfl) (by kernel_rfl) (by kernel_rfl) (by kernel_rfl) (fun _ _ _ h=>hpan _ _ _ _ _ h) rfl (fun w hSw=>aS (.tmp 5) rfl (by simp [vp,e5])) hS ?_;refine aV _ _ 4 96 (.int .i64 j) rfl rfl rfl (by kernel_rfl) (by kernel_rfl) (by kernel_rfl) (by kernel_rfl) (fun _ _ _ h=>hpan _ _ _ _ _ h) rfl (fun w hSw=>aS (.tmp 8) rfl (by simp [vp,ej])) hS ?_
 refine aV _ _ 5 97 (.int .i64 ((i:Int)+(j:Int))) rfl rfl rfl (by kernel_rfl) (by kernel_rfl) (by kernel_rfl) (by kernel_rfl) (fun _ _ _ h=>hpan _ _ _ _ _ h) rfl (fun w hSw=>sS (.tmp 95) (.tmp 96) rfl (by simp [vp,zp,hsz]) (by simp [vp,zp,hsz]) (by unfold I64;omega)) hS ?_;refine tV _ _ 6 98 rfl (by kernel_rfl) rfl rfl rfl 38 #[.tmp 94,.tmp 97,.const (.int .i64 5)] #[22,3,3] rfl _ Tryz.func38 (by rfl) (by rfl) #[.slice Al ll cl,.int .i64 ((i:Int)+(j:Int)),.int .i64 5] (by simp [vp,zp,hsz,vc]) ?_;refine hcall.mono ?_;rintro e w' ⟨rfl,rfl⟩;refine ⟨_,rfl,fun _=>hS,?_⟩;refine dN _ _ 7 99 (.int .i64 (1+p)) rfl (by kernel_rfl) rfl rfl rfl (aOq (.tmp 98) rfl (by simp [vp,zp,hsz]) (fun _=>rfl) (by unfold I64;omega)) (fun _=>hS) ?_;have hS1:((w.drew).alloc (.cells #[.int .i64 (1+p)] 3)).cell? ⟨gx,4,none⟩=some (.slice A7 j c7):=jC hS _ lx;refine dN _ _ 8 100 _ rfl (by kernel_rfl) rfl rfl rfl (dH (z:=1+p) (.tmp 99) rfl (by simp [vp,zp,hsz])) (fun _=>hS1) ?_;refine kL _ _ 9 101 rfl (by kernel_rfl) rfl rfl rfl (.tmp 93) (.tmp 100) 22 rfl B 3 i3 _ 1 8 Tryz.underlying22 hi3 hz30 hz31 hz32 rfl (by omega) (.slice A7 j c7) j (ks.map (Value.int .i64)) (by simp [vp,zp,hsz]) ((hown.ext_ (Ext.refl _).drew').alloc _) (fun _=>True) (some ⟨w.heap.size,0,none⟩) 1 1 [.int .i64 (1+p)] (by simp [vp,zp,hsz]) (Sl.new w.drew _ _ _ _ rfl) (by simp [Value.oneCell']) (by omega) (by omega) (by simp;omega) ?_
 intro v5 w5 ho5 hf5 hb5;obtain ⟨A5,c5,ev5,-,-,-⟩:=Sl.of_own ho5;subst ev5;have R5:=(hbx.drew.alloc (.cells #[.int .i64 (1+p)] 3)).fr hf5 hgk;have y7:=R5.cell' (u:=.slice A7 j c7) 4 hbk;have y7f:=R5.frozen 4;refine ⟨fun _=>y7,?_⟩;refine dN _ _ 10 102 (.pointer (some ⟨gx,4,none⟩)) rfl (by kernel_rfl) rfl rfl rfl (yX (.tmp 7) rfl (by simp [vp,e7])) (fun _=>y7) ?_;refine oH _ _ 11 rfl (by kernel_rfl) rfl rfl rfl (pJ (A:=A5) (n:=j+1) (c:=c5) (.tmp 102) (.tmp 101) rfl (by simp [vp,zp,hsz]) (by simp [vp,zp,hsz]) y7 y7f) (fun h=>absurd h (by decide)) ?_;refine gN (by kernel_rfl) ?_ _;exact h A5 c5 w5 ho5 hf5 hb5
theorem aVs (m:Nat)(h:m<4):∃ z:ByteArray,(#[.string ⟨#[97]⟩,.string ⟨#[98]⟩,.string ⟨#[99]⟩,.string ⟨#[100]⟩]:Array Value)[m]?=some (.string z)∧z.size<=100:=by
 rcases m with _ | _ | _ | _ | m
 ·exact ⟨⟨#[97]⟩,rfl,by decide⟩
 ·exact ⟨⟨#[98]⟩,rfl,by decide⟩
 ·exact ⟨⟨#[99]⟩,rfl,by decide⟩
 ·exact ⟨⟨#[100]⟩,rfl,by decide⟩
 ·omega
noncomputable def aPm:Code:=((Tryz.f8.body.bind (aO 28)).getD .skip)
theorem aKt {Q:Exit->Act->World->Prop}{a:Act}{w:World}{gx B:Nat}{A7:Option Addr}{j n7 c7:Nat}{k:Int}{ls:List ByteArray}(hsz:a.tmps.size=181)(hpan:∀ c a w d v,Q (.panic c) (a.put (some d) v) w->Q (.panic c) a w)
  (e6:a.eval (.tmp 6)=.int .i64 k)(e7:a.eval (.tmp 7)=.pointer (some ⟨gx,0,none⟩))(ej:a.eval (.tmp 8)=.int .i64 j)
  {cs:Array Value} (hbx:Blk w gx 87 cs) (hbk:cs[5]?=some (.slice A7 n7 c7)) (hgk:¬ some gx=(Value.slice A7 n7 c7).ownBlock) (hown:w.ownsRow B 9 1 (.slice A7 n7 c7) n7 (ls.map Value.string)) (hB:B<=w.heap.size) (hj:j<=1000) (hn7:n7<=1000) (hk:0<=k∧k<1000000)
  (h:∀ z A5 c5 w5,z.size<=100->w5.ownsRow B 9 1 (.slice A5 (n7+1) c5) (n7+1) (ls.map Value.string ++ [.string z])->Fr (fun k=>some k=(Value.slice A7 n7 c7).ownBlock) ((w.drew.alloc (.cells #[.string ⟨#[97]⟩,.string ⟨#[98]⟩,.string ⟨#[99]⟩,.string ⟨#[100]⟩] 9)).alloc (.cells #[.string z] 9)) w5->((Value.slice A5 (n7+1) c5).ownBlock=(Value.slice A7 n7 c7).ownBlock∨(Value.slice A5 (n7+1) c5).ownBlock=some ((w.drew.alloc (.cells #[.string ⟨#[97]⟩,.string ⟨#[98]⟩,.string ⟨#[99]⟩,.string ⟨#[100]⟩] 9)).alloc (.cells #[.string z] 9)).heap.size) ->
   Q .normal (((((((((((((a.put (some 116) (.pointer (some ⟨gx,5,none⟩))).put (some 117) (.slice A7 n7 c7)).put (some 119) (.int .i64 j)).put (some 120) (.int .i64 k)).put (some 121) (.int .i64 (k / 96))).put (some 122) (.int .i64 ((j:Int)+k / 96))).put (some 123) (.int .i64 (((j:Int)+k / 96) % 4))).put (some 118) (.slice (some ⟨w.heap.size,0,none⟩) 4 4)).put (some 124) (.pointer (some ⟨w.heap.size,(((j:Int)+k / 96) % 4).toNat,none⟩))).put (some 125) (.string z)).put (some 126) (.slice (some ⟨w.heap.size+1,0,none⟩) 1 1)).put (some 127) (.slice A5 (n7+1) c5)).put (some 128) (.pointer (some ⟨gx,5,none⟩))) (w5.setCell ⟨gx,5,none⟩ (.slice A5 (n7+1) c5))):Code.wp Tryz.prog aPm Q a w:=by
 obtain ⟨i3,hi3,hz30,hz31,hz32⟩:=info_parts aRo;have x7:=hbx.cell' (u:=.slice A7 n7 c7) 5 hbk;have lx:=hbx.lt;have hS:(w.drew).cell? ⟨gx,5,none⟩=some (.slice A7 n7 c7):=x7;obtain ⟨z,hz,hz1⟩:=aVs (((j:Int)+k / 96) % 4).toNat (by omega)
 conv=>arg 2;whnf
 refine iV (fun w'=>w'.cell? ⟨gx,5,none⟩=some (.slice A7 n7 c7)) (fun q=>q != 13) 14 #[false,false,false,false,false,false,false,false,false,false,false,false,false,false] (by kernel_rfl) (by kernel_rfl) (by kernel_rfl) ?_;refine aV _ _ 0 116 (.pointer (some ⟨gx,5,none⟩)) rfl rfl rfl (by kernel_rfl) (by kernel_rfl) (by kernel_rfl) (by kernel_rfl) (fun _ _ _ h=>hpan _ _ _ _ _ h) rfl (fun w hSw=>yW (.tmp 7) rfl (by simp [e7])) hS ?_;refine aV _ _ 1 117 (.slice A7 n7 c7) rfl rfl rfl (by kernel_rfl) (by kernel_rfl) (by kernel_rfl) (by kernel_rfl) (fun _ _ _ h=>hpan _ _ _ _ _ h) rfl (fun w hSw=>aFy (.tmp 116) rfl (by simp [vp,hsz]) hSw) hS ?_;refine aV _ _ 3 119 (.int .i64 j) rfl rfl rfl (by kernel_rfl) (by kernel_rfl) (by kernel_rfl) (by kernel_rfl) (fun _ _ _ h=>hpan _ _ _ _ _ h) rfl (fun w hSw=>aS (.tmp 8) rfl (by simp [vp,ej])) hS ?_;refine aV _ _ 4 120 (.int .i64 k) rfl rfl rfl (by kernel_rfl) (by kernel_rfl) (by kernel_rfl) (by kernel_rfl) (fun _ _ _ h=>hpan _ _ _ _ _ h) rfl (fun w hSw=>aS (.tmp 6) rfl (by simp [vp,e6])) hS ?_;refine aV _ _ 5 121 (.int .i64 (k / 96)) rfl rfl rfl (by kernel_rfl) (by kernel_rfl) (by kernel_rfl) (by kernel_rfl) (fun _ _ _ h=>hpan _ _ _ _ _ h) rfl (fun w hSw=>aJ6 (.tmp 120) rfl (by simp [vp,zp,hsz]) (fun _=>rfl) (by omega) (by omega)) hS ?_
 refine aV _ _ 6 122 (.int .i64 ((j:Int)+k / 96)) rfl rfl rfl (by kernel_rfl) (by kernel_rfl) (by kernel_rfl) (by kernel_rfl) (fun _ _ _ h=>hpan _ _ _ _ _ h) rfl (fun w hSw=>sS (.tmp 119) (.tmp 121) rfl (by simp [vp,zp,hsz]) (by simp [vp,zp,hsz]) (by unfold I64;omega)) hS ?_;refine aV _ _ 7 123 (.int .i64 (((j:Int)+k / 96) % 4)) rfl rfl rfl (by kernel_rfl) (by kernel_rfl) (by kernel_rfl) (by kernel_rfl) (fun _ _ _ h=>hpan _ _ _ _ _ h) rfl (fun w hSw=>aOn (.tmp 122) rfl (by simp [vp,zp,hsz]) (fun _=>rfl) (by omega)) hS ?_;have hS1:(w.drew.alloc (.cells #[.string ⟨#[97]⟩,.string ⟨#[98]⟩,.string ⟨#[99]⟩,.string ⟨#[100]⟩] 9)).cell? ⟨gx,5,none⟩=some (.slice A7 n7 c7):=jC hS _ lx;refine dN _ _ 2 118 _ rfl (by kernel_rfl) rfl rfl rfl (aBg (s0:=⟨#[97]⟩) (s1:=⟨#[98]⟩) (s2:=⟨#[99]⟩) (s3:=⟨#[100]⟩) (by rfl) (fun _=>rfl)) (fun _=>hS1) ?_;refine dN _ _ 8 124 _ rfl (by kernel_rfl) rfl rfl rfl (aCg (b:=w.heap.size) (n:=((j:Int)+k / 96) % 4) (.tmp 118) (.tmp 123) rfl (by simp [vp,zp,hsz]) (by simp [vp,zp,hsz]) (by omega) (by omega)) (fun _=>hS1) ?_;refine dN _ _ 9 125 (.string z) rfl (by kernel_rfl) rfl rfl rfl (aCe (.tmp 124) rfl (by simp [vp,zp,hsz]) (kF w.drew _ 9 _ _ _ rfl hz)) (fun _=>hS1) ?_;have hS2:((w.drew.alloc (.cells #[.string ⟨#[97]⟩,.string ⟨#[98]⟩,.string ⟨#[99]⟩,.string ⟨#[100]⟩] 9)).alloc (.cells #[.string z] 9)).cell? ⟨gx,5,none⟩=some (.slice A7 n7 c7):=jC hS1 _ (by simp;omega)
 refine dN _ _ 10 126 _ rfl (by kernel_rfl) rfl rfl rfl (aDf (s:=z) (.tmp 125) (by rfl) (by simp [vp,zp,hsz])) (fun _=>hS2) ?_;refine kL _ _ 11 127 rfl (by kernel_rfl) rfl rfl rfl (.tmp 117) (.tmp 126) 82 rfl B 9 i3 _ 1 16 Tryz.underlying82 hi3 hz30 hz31 hz32 rfl (by omega) (.slice A7 n7 c7) n7 (ls.map Value.string) (by simp [vp,zp,hsz]) (((hown.ext_ (Ext.refl _).drew').alloc _).alloc _) (fun _=>True) (some ⟨(w.drew.alloc (.cells #[.string ⟨#[97]⟩,.string ⟨#[98]⟩,.string ⟨#[99]⟩,.string ⟨#[100]⟩] 9)).heap.size,0,none⟩) 1 1 [.string z] (by simp [vp,zp,hsz]) (Sl.new (w.drew.alloc (.cells #[.string ⟨#[97]⟩,.string ⟨#[98]⟩,.string ⟨#[99]⟩,.string ⟨#[100]⟩] 9)) _ _ _ _ rfl) (by simp [Value.oneCell']) (by omega) (by omega) (by simp;omega) ?_;intro v5 w5 ho5 hf5 hb5;obtain ⟨A5,c5,ev5,-,-,-⟩:=Sl.of_own ho5;subst ev5;have R5:=((hbx.drew.alloc (.cells #[.string ⟨#[97]⟩,.string ⟨#[98]⟩,.string ⟨#[99]⟩,.string ⟨#[100]⟩] 9)).alloc (.cells #[.string z] 9)).fr hf5 hgk;have y7:=R5.cell' (u:=.slice A7 n7 c7) 5 hbk;have y7f:=R5.frozen 5;refine ⟨fun _=>y7,?_⟩;refine dN _ _ 12 128 (.pointer (some ⟨gx,5,none⟩)) rfl (by kernel_rfl) rfl rfl rfl (yW (.tmp 7) rfl (by simp [vp,e7])) (fun _=>y7) ?_;refine oH _ _ 13 rfl (by kernel_rfl) rfl rfl rfl (aDe (g:=gx) (f:=5) (A:=A5) (n:=n7+1) (c:=c5) (.tmp 128) (.tmp 127) (by rfl) (by simp [vp,zp,hsz]) (by simp [vp,zp,hsz]) y7 y7f) (fun h=>absurd h (by decide)) ?_
 refine gN (by kernel_rfl) ?_ _;have hq:=h z A5 c5 w5 hz1 ho5 hf5 hb5
 simpa using hq
section
variable {ρ:Operand->Value}{o:Oper}{w:World}
theorem cA {v:Value}(x:Operand)(ho:o.op=.assign x)(hx:ρ x=v):(execOp ρ o).run Tryz.prog w=.ok (.value v) w:=by
 simp [execOp,ho,hx,go_sem]
theorem aOm {a b:Int}(x y:Operand)(ho:o.op=.binOp .sub 3 x y 3)(hx:ρ x=.int .i64 a)(hy:ρ y=.int .i64 b)(hr:I64 (a - b)):(execOp ρ o).run Tryz.prog w=.ok (.value (.int .i64 (a - b))) w:=by
 have hw:IntKind.i64.wrap (a - b)=a - b:=IntWalk.i64_in _ (by unfold I64 at hr;omega);simp [execOp,ho,hx,hy,go_sem,hw]
theorem aS3 {a b:Int}(x y:Operand)(ho:o.op=.binOp .mul 3 x y 3)(hx:ρ x=.int .i64 a)(hy:ρ y=.int .i64 b)(hr:I64 (a*b)):(execOp ρ o).run Tryz.prog w=.ok (.value (.int .i64 (a*b))) w:=by
 have hw:IntKind.i64.wrap (a*b)=a*b:=IntWalk.i64_in _ (by unfold I64 at hr;omega);simp [execOp,ho,hx,hy,go_sem,hw]
theorem sQ {a b:Int}(x y:Operand)(ho:o.op=.binOp .quo 3 x y 3)(hx:ρ x=.int .i64 a)(hy:ρ y=.int .i64 b)(h0:0<=a)(h1:a<=1000000000000)(h2:0<b):(execOp ρ o).run Tryz.prog w=.ok (.value (.int .i64 (a / b))) w:=by
 have hb:¬ b=0:=by omega
 have ht:a.tdiv b=a / b:=Int.tdiv_eq_ediv_of_nonneg h0;have h3:0<=a / b:=Int.ediv_nonneg h0 (by omega);have h4:a / b<=a:=Int.ediv_le_self _ h0;have hw:IntKind.i64.wrap (a / b)=a / b:=IntWalk.i64_in _ (by omega);simp [execOp,ho,hx,hy,go_sem,hw,ht,hb]
theorem oO {a b:Int}(x y:Operand)(ho:o.op=.binOp .rem 3 x y 3)(hx:ρ x=.int .i64 a)(hy:ρ y=.int .i64 b)(h0:0<=a)(h2:0<b):(execOp ρ o).run Tryz.prog w=.ok (.value (.int .i64 (a % b))) w:=by
 have hb:¬ b=0:=by omega
 have ht:a.tmod b=a % b:=Int.tmod_eq_emod_of_nonneg h0;simp [execOp,ho,hx,hy,go_sem,ht,hb]
theorem aJ7 {a b:Int}(x y:Operand)(ho:o.op=.binOp .lss 3 x y 3)(hx:ρ x=.int .i64 a)(hy:ρ y=.int .i64 b):(execOp ρ o).run Tryz.prog w=.ok (.value (.bool (decide (a<b)))) w:=by
 simp [execOp,ho,hx,hy,go_sem]
theorem aS4 {a b:Int}(x y:Operand)(ho:o.op=.binOp .leq 3 x y 3)(hx:ρ x=.int .i64 a)(hy:ρ y=.int .i64 b):(execOp ρ o).run Tryz.prog w=.ok (.value (.bool (decide (a<=b)))) w:=by
 simp [execOp,ho,hx,hy,go_sem]
theorem aOp {a b:Int}(x y:Operand)(ho:o.op=.binOp .gtr 3 x y 3)(hx:ρ x=.int .i64 a)(hy:ρ y=.int .i64 b):(execOp ρ o).run Tryz.prog w=.ok (.value (.bool (decide (b<a)))) w:=by
 simp [execOp,ho,hx,hy,go_sem]
theorem uZ {a b:Int}(T:TypeId)(hT:T=3∨T=29)(x y:Operand)(ho:o.op=.binOp .eql T x y T)(hx:ρ x=.int .i64 a)(hy:ρ y=.int .i64 b):(execOp ρ o).run Tryz.prog w=.ok (.value (.bool (a == b))) w:=by
 rcases hT with rfl | rfl <;> simp [execOp,ho,hx,hy,go_sem]
theorem mQ {g:Nat}(x:Operand)(ho:o.op=.fieldAddr 87 x 0)(hx:ρ x=.pointer (some ⟨g,0,none⟩)):(execOp ρ o).run Tryz.prog w=.ok (.value (.pointer (some ⟨g,0,none⟩))) w:=by
 simp [execOp,ho,hx,go_sem]
theorem aJ9 {g:Nat}(x:Operand)(ho:o.op=.fieldAddr 87 x 1)(hx:ρ x=.pointer (some ⟨g,0,none⟩)):(execOp ρ o).run Tryz.prog w=.ok (.value (.pointer (some ⟨g,1,none⟩))) w:=by
 simp [execOp,ho,hx,go_sem]
theorem xI {g:Nat}(x:Operand)(ho:o.op=.fieldAddr 87 x 2)(hx:ρ x=.pointer (some ⟨g,0,none⟩)):(execOp ρ o).run Tryz.prog w=.ok (.value (.pointer (some ⟨g,2,none⟩))) w:=by
 simp [execOp,ho,hx,go_sem]
theorem aCh {g:Nat}(x:Operand)(ho:o.op=.fieldAddr 87 x 3)(hx:ρ x=.pointer (some ⟨g,0,none⟩)):(execOp ρ o).run Tryz.prog w=.ok (.value (.pointer (some ⟨g,3,none⟩))) w:=by
 simp [execOp,ho,hx,go_sem]
theorem aJ8 {g:Nat}(x:Operand)(ho:o.op=.fieldAddr 87 x 8)(hx:ρ x=.pointer (some ⟨g,0,none⟩)):(execOp ρ o).run Tryz.prog w=.ok (.value (.pointer (some ⟨g,8,none⟩))) w:=by
 simp [execOp,ho,hx,go_sem]
theorem lE {g:Nat}(x:Operand)(ho:o.op=.fieldAddr 25 x 0)(hx:ρ x=.pointer (some ⟨g,0,none⟩)):(execOp ρ o).run Tryz.prog w=.ok (.value (.pointer (some ⟨g,0,none⟩))) w:=by
 simp [execOp,ho,hx,go_sem]
theorem lD {g f:Nat}{v:Value}(x:Operand)(ho:o.op=.load 3 x)(hx:ρ x=.pointer (some ⟨g,f,none⟩))(hc:w.cell? ⟨g,f,none⟩=some v):(execOp ρ o).run Tryz.prog w=.ok (.value v) w:=by
 simp [execOp,ho,hx,go_sem,hc]
theorem oB {g f:Nat}{v:Value}(x:Operand)(ho:o.op=.load 23 x)(hx:ρ x=.pointer (some ⟨g,f,none⟩))(hc:w.cell? ⟨g,f,none⟩=some v):(execOp ρ o).run Tryz.prog w=.ok (.value v) w:=by
 simp [execOp,ho,hx,go_sem,hc]
theorem kI {g:Nat}{v:Value}(x:Operand)(ho:o.op=.load 25 x)(hx:ρ x=.pointer (some ⟨g,0,none⟩))(hc:w.cell? ⟨g,0,none⟩=some v):(execOp ρ o).run Tryz.prog w=.ok (.value (.agg #[v])) w:=by
 simp [execOp,ho,hx,go_sem,hc]
theorem lX (ho:o.op=.alloc 25):(execOp ρ o).run Tryz.prog w=.ok (.value (.pointer (some ⟨w.heap.size,0,none⟩))) (w.alloc (.cells #[.slice none 0 0] 25)):=by
 simp [execOp,ho,go_sem]
theorem aDg (ho:o.op=.alloc 87):(execOp ρ o).run Tryz.prog w=.ok (.value (.pointer (some ⟨w.heap.size,0,none⟩))) (w.alloc (.cells #[.int .i64 0,.string ⟨#[]⟩,.int .i64 0,.int .i64 0,.slice none 0 0,.slice none 0 0,.slice none 0 0,.slice none 0 0,.int .i64 0,.int .i64 0,.string ⟨#[]⟩,.slice none 0 0] 87)):=by
 simp [execOp,ho,go_sem]
theorem vB (ho:o.op=.build 25 #[]):(execOp ρ o).run Tryz.prog w=.ok (.value (.agg #[.slice none 0 0])) w:=by
 simp [execOp,ho,go_sem]
theorem aCi {z:Int}(x:Operand)(ho:o.op=.build 87 #[(0,x)])(hx:ρ x=.int .i64 z):(execOp ρ o).run Tryz.prog w=.ok (.value (.agg #[.int .i64 z,.string ⟨#[]⟩,.int .i64 0,.int .i64 0,.slice none 0 0,.slice none 0 0,.slice none 0 0,.slice none 0 0,.int .i64 0,.int .i64 0,.string ⟨#[]⟩,.slice none 0 0])) w:=by
 simp [execOp,ho,hx,go_sem]
theorem aCj {z:Int}(x:Operand)(ho:o.op=.build 85 #[(1,x)])(hx:ρ x=.int .i64 z):(execOp ρ o).run Tryz.prog w=.ok (.value (.agg #[.int .i64 0,.int .i64 z,.string ⟨#[]⟩,.slice none 0 0])) w:=by
 simp [execOp,ho,hx,go_sem]
theorem aAr {z:Int}(x:Operand)(ho:o.op=.build 87 #[(8,x)])(hx:ρ x=.agg #[.int .i64 0,.int .i64 z,.string ⟨#[]⟩,.slice none 0 0]):(execOp ρ o).run Tryz.prog w=.ok (.value (.agg #[.int .i64 0,.string ⟨#[]⟩,.int .i64 0,.int .i64 0,.slice none 0 0,.slice none 0 0,.slice none 0 0,.slice none 0 0,.int .i64 0,.int .i64 z,.string ⟨#[]⟩,.slice none 0 0])) w:=by
 simp [execOp,ho,hx,go_sem]
theorem jY {g:Nat}{A:Option Addr}{n c:Nat}{old:Value}(x y:Operand)(ho:o.op=.store 25 x y)(hx:ρ x=.pointer (some ⟨g,0,none⟩))(hy:ρ y=.agg #[.slice A n c])(hc:w.cell? ⟨g,0,none⟩=some old)(hz:w.frozen? ⟨g,0,none⟩=false):(execOp ρ o).run Tryz.prog w=.ok .skip (w.setCell ⟨g,0,none⟩ (.slice A n c)):=by
 simp [execOp,ho,hx,hy,go_sem,hc,hz]
theorem pI {g f:Nat}{A:Option Addr}{n c:Nat}{old:Value}(x y:Operand)(ho:o.op=.store 23 x y)(hx:ρ x=.pointer (some ⟨g,f,none⟩))(hy:ρ y=.slice A n c)(hc:w.cell? ⟨g,f,none⟩=some old)(hz:w.frozen? ⟨g,f,none⟩=false):(execOp ρ o).run Tryz.prog w=.ok .skip (w.setCell ⟨g,f,none⟩ (.slice A n c)):=by
 simp [execOp,ho,hx,hy,go_sem,hc,hz]
theorem lW {g f:Nat}{z:Int}{old:Value}(x y:Operand)(ho:o.op=.store 3 x y)(hx:ρ x=.pointer (some ⟨g,f,none⟩))(hy:ρ y=.int .i64 z)(hc:w.cell? ⟨g,f,none⟩=some old)(hz:w.frozen? ⟨g,f,none⟩=false):(execOp ρ o).run Tryz.prog w=.ok .skip (w.setCell ⟨g,f,none⟩ (.int .i64 z)):=by
 simp [execOp,ho,hx,hy,go_sem,hc,hz]
theorem aHe {g f:Nat}{z:ByteArray}{old:Value}(x y:Operand)(ho:o.op=.store 9 x y)(hx:ρ x=.pointer (some ⟨g,f,none⟩))(hy:ρ y=.string z)(hc:w.cell? ⟨g,f,none⟩=some old)(hz:w.frozen? ⟨g,f,none⟩=false):(execOp ρ o).run Tryz.prog w=.ok .skip (w.setCell ⟨g,f,none⟩ (.string z)):=by
 simp [execOp,ho,hx,hy,go_sem,hc,hz]
theorem aFx {g:Nat}{u0 u1 u2 u3 u4 u5 u6 u7 u8 u9 u10 u11:Value}(x:Operand)(ho:o.op=.load 87 x)(hx:ρ x=.pointer (some ⟨g,0,none⟩))(h0:w.cell? ⟨g,0,none⟩=some u0)(h1:w.cell? ⟨g,1,none⟩=some u1)(h2:w.cell? ⟨g,2,none⟩=some u2)(h3:w.cell? ⟨g,3,none⟩=some u3)(h4:w.cell? ⟨g,4,none⟩=some u4)(h5:w.cell? ⟨g,5,none⟩=some u5)(h6:w.cell? ⟨g,6,none⟩=some u6)(h7:w.cell? ⟨g,7,none⟩=some u7)(h8:w.cell? ⟨g,8,none⟩=some u8)(h9:w.cell? ⟨g,9,none⟩=some u9)(h10:w.cell? ⟨g,10,none⟩=some u10)(h11:w.cell? ⟨g,11,none⟩=some u11):(execOp ρ o).run Tryz.prog w=.ok (.value (.agg #[u0,u1,u2,u3,u4,u5,u6,u7,u8,u9,u10,u11])) w:=by
 simp [execOp,ho,hx,go_sem,h0,h1,h2,h3,h4,h5,h6,h7,h8,h9,h10,h11]
end
structure WL (ops:Array Oper)(Q:Exit->Act->World->Prop)(l:List Oper)(a:Act)(w:World):Prop where
 out:wpList Tryz.prog ops Q l a w
theorem aA {id:Nat}{l:List Oper}{Q:Exit->Act->World->Prop}{a:Act}{w:World}(h:WL l.toArray Q l a w):(Code.region id l.toArray false).wp Tryz.prog Q a w:=wp_region_lit h.out
theorem aQ {ops:Array Oper}{Q:Exit->Act->World->Prop}{a:Act}{w:World}(h:Q .normal a w):WL ops Q [] a w:=⟨h⟩
section
variable {ops:Array Oper}{Q:Exit->Act->World->Prop}{a:Act}{w w1:World}{rest:List Oper}{o:Oper}
theorem aC (d:Nat)(v:Value)(hg:o.guard=none)(hd:o.dst=some d)(hrun:(execOp a.eval o).run Tryz.prog w=.ok (.value v) w1)(h:WL ops Q rest (a.put (some d) v) w1):WL ops Q (o :: rest) a w:=by
 refine ⟨wpList_plain hg (fun K hK=>?_)⟩;unfold Oper.wp;rw [hrun]
 show K (a.put o.dst v) w1
 rw [hd];exact hK _ _ h.out
theorem aVt (d:Nat)(v:Value)(hw:Region.wanted o (yielded ops a.tmps)=true)(hd:o.dst=some d)(hrun:(execOp a.eval o).run Tryz.prog w=.ok (.value v) w1)(h:WL ops Q rest (a.put (some d) v) w1):WL ops Q (o :: rest) a w:=by
 refine ⟨wpList_step (fun K hK=>?_)⟩;rw [if_pos hw];unfold Oper.wp;rw [hrun]
 show K (a.put o.dst v) w1
 rw [hd];exact hK _ _ h.out
theorem fK (hg:o.guard=none)(hd:o.dst=none)(hrun:(execOp a.eval o).run Tryz.prog w=.ok .skip w1)(h:WL ops Q rest a w1):WL ops Q (o :: rest) a w:=by
 refine ⟨wpList_plain hg (fun K hK=>?_)⟩;unfold Oper.wp;rw [hrun]
 show K (a.put o.dst undef) w1
 rw [hd];exact hK _ _ h.out
theorem gC (d:Nat)(hg:o.guard=none)(hd:o.dst=some d)(f:FuncId)(xs:Array Operand)(ats:Array TypeId)(hop:o.op=Op.call { callee:=Callee.value (Operand.func f),args:=xs,argTypes:=ats })(fn:Func)(hf:Tryz.prog.funcs[f]?=some fn)(hn:(fn.name == "runtime.NumGoroutine")=false) (hb:fn.body.isNone=false) (vs:Array Value) (hv:xs.map a.eval=vs)
  (h:Calls Tryz.prog f vs w fun e w'=>∃ v,e=.returned v∧WL ops Q rest (a.put (some d) v) w'):WL ops Q (o :: rest) a w:=by
 refine ⟨wpList_step (fun K hK=>?_)⟩;refine oX hg f xs ats hop fn hf hn hb vs hv (h.mono ?_);rintro e w' ⟨v,rfl,h2⟩;exact ⟨v,rfl,by rw [hd];exact hK _ _ h2.out⟩
theorem eV {j d:Nat}{want b:Bool}(hg:o.guard=some (j,want))(hj:(ops[j]?).bind (fun x=>x.dst)=some d)(hd:d<a.tmps.size)(he:a.eval (.tmp d)=.bool b):Region.wanted o (yielded ops a.tmps)=(b == want):=by
 have h1:a.tmps[d]?=some (.bool b):=by
  have h2:a.tmps.getD d undef=.bool b:=he;simp only [Array.getD,hd,dite_true] at h2;rw [Array.getElem?_eq_getElem hd];exact congrArg some h2
 have h3:yielded ops a.tmps j=some b:=by
  unfold yielded;rw [show ((ops[j]?).bind (fun x=>x.dst)).bind (fun x=>a.tmps[x]?)=some (.bool b) by rw [hj];exact h1]
 simp only [Region.wanted,hg,h3]
 cases b <;> cases want <;> rfl
theorem aHq (d gd:Nat){j:Nat}{want b:Bool}(hg:o.guard=some (j,want))(hj:(ops[j]?).bind (fun x=>x.dst)=some gd)(hs:gd<a.tmps.size)(he:a.eval (.tmp gd)=.bool b)(hb:(b == want)=false)(hd:o.dst=some d)(h:WL ops Q rest (a.put (some d) undef) w):WL ops Q (o :: rest) a w:=by
 refine ⟨wpList_skip (by rw [eV hg hj hs he,hb]) ?_⟩;rw [hd];exact h.out
theorem eT (d:Nat)(v:Value)(gd:Nat){j:Nat}{want b:Bool}(hg:o.guard=some (j,want))(hj:(ops[j]?).bind (fun x=>x.dst)=some gd)(hs:gd<a.tmps.size)(he:a.eval (.tmp gd)=.bool b)(hb:(b == want)=true)(hd:o.dst=some d)(hrun:(execOp a.eval o).run Tryz.prog w=.ok (.value v) w1)(h:WL ops Q rest (a.put (some d) v) w1):WL ops Q (o :: rest) a w :=
 aVt d v (by rw [eV hg hj hs he,hb]) hd hrun h
theorem oJ (s x:Operand)(t:TypeId)(d:Nat)(hgd:o.guard=none)(hd:o.dst=some d)
  (ho:o.op=.call { callee:=.builtin .append,args:=#[s,x],argTypes:=#[t,t] })
  (base:Nat)(e:TypeId)(i:TypeInfo)(z:Value)(size bytes:Nat)(ht:Tryz.prog.underlying t=some (.slice e))(hi:Tryz.prog.info? e=some i)(hz:i.zero=some z)
  (hsize:i.size=size)(hby:i.bytes=bytes)(hzs:z.cells.size=size)(hsz:0<size)
  (v:Value)(n:Nat)(xs:List Value)(hs:a.eval s=v)(hown:w.ownsRow base e size v n xs)
  (S:Nat->Prop)(A:Option Addr)(m c:Nat)(news:List Value)(hx:a.eval x=.slice A m c)(hr:Sl w S size A m news)(h1:∀ u ∈ news,u.oneCell'=true)
  (h63:n+m<=1000000000000)(hbytes:(n+m)*bytes<=140737488355328)(hbase:base<=w.heap.size)
  (h:∀ v' w',w'.ownsRow base e size v' (n+m) (xs ++ news)->Fr (fun k=>some k=v.ownBlock) w w'->(v'.ownBlock=v.ownBlock∨v'.ownBlock=some w.heap.size)->WL ops Q rest (a.put (some d) v') w'):WL ops Q (o :: rest) a w :=
 ⟨aK w hgd s x t ho base e i z size bytes ht hi hz hsize hby hzs hsz v n xs hs hown S A m c news hx hr h1 h63 hbytes hbase (fun v' w' q1 q2 q3=>by rw [hd];exact (h v' w' q1 q2 q3).out)⟩
end
end Go.Proofs.YtkoeecdjijfjnaaGreat
