/- The regions of the generator Tree that draw their order. Conditions: none. (printed by gen/lu.py) -/
import Derived.Test.YtkoeecdjijfjnaaGreatQ3
import Derived.Test.YtkoeecdjijfjnaaGreatB3
namespace Go.Proofs.YtkoeecdjijfjnaaGreat
open Go.RowKit
def regIn (n:Nat):Code→Option Code
 | .region id ops d=>if id=n then some (.region id ops d) else none
 | .seq a b=>match regIn n a with
  | some c=>some c
  | none=>regIn n b
 | .block _ c=>regIn n c
 | .scope c=>regIn n c
 | .loop c=>regIn n c
 | .cond _ a b=>match regIn n a with
  | some c=>some c
  | none=>regIn n b
 | _=>none
section
variable {P:Program}{ops:Array Oper}{Q:Exit→Act→World→Prop}{md:Region.Mode}{S:World→Prop}{bf:Nat→Bool}
theorem wp_region_L {id:Nat}{a:Act}{w:World}(S:World→Prop)(bf:Nat→Bool)(n:Nat)(l:Array Bool)(hm:P.follows .mixedOrders=true)(hn:ops.size=n)(hl:Array.replicate n false=l)
  (h:wpAnyD P .any ops Q S bf n l a w.drew):(Code.region id ops true).wp P Q a w:=by
 subst hn hl
 exact wp_region_D S bf hm h
theorem wpAnyD_oneL (l l':Array Bool)(i:Nat){o:Oper}{fuel:Nat}{a:Act}{w:World}(hl:l.setIfInBounds i true=l')(hr:Region.ready md ops l=[i])(hi:ops[i]?=some o)
  (h:∀ K:Act→World→Prop,(∀ a' w',(bf i=true→S w')→wpAnyD P md ops Q S bf fuel l' a' w'→K a' w')→if Region.wanted o (yielded ops a.tmps)=true then Oper.wp P o a w K Q else K (a.put o.dst undef) w):wpAnyD P md ops Q S bf (fuel+1) l a w:=by
 subst hl
 exact wpAnyD_one hr hi h
theorem one_value (l l':Array Bool)(i d:Nat)(v:Value){o:Oper}{fuel:Nat}{a:Act}{w w1:World}(hl:l.setIfInBounds i true=l')(hr:Region.ready md ops l=[i])(hi:ops[i]?=some o)(hg:o.guard=none)(hd:o.dst=some d)
  (hrun:(execOp a.eval o).run P w=.ok (.value v) w1)(hS:bf i=true→S w1)(h:wpAnyD P md ops Q S bf fuel l' (a.put (some d) v) w1):wpAnyD P md ops Q S bf (fuel+1) l a w:=by
 refine wpAnyD_oneL l l' i hl hr hi (fun K hK=>?_)
 have hw:Region.wanted o (yielded ops a.tmps)=true:=by simp [Region.wanted,hg]
 rw [if_pos hw]
 unfold Oper.wp
 rw [hrun]
 show K (a.put o.dst v) w1
 rw [hd]
 exact hK _ _ hS h
theorem one_skip (l l':Array Bool)(i:Nat){o:Oper}{fuel:Nat}{a:Act}{w w1:World}(hl:l.setIfInBounds i true=l')(hr:Region.ready md ops l=[i])(hi:ops[i]?=some o)(hg:o.guard=none)(hd:o.dst=none)
  (hrun:(execOp a.eval o).run P w=.ok .skip w1)(hS:bf i=true→S w1)(h:wpAnyD P md ops Q S bf fuel l' a w1):wpAnyD P md ops Q S bf (fuel+1) l a w:=by
 refine wpAnyD_oneL l l' i hl hr hi (fun K hK=>?_)
 have hw:Region.wanted o (yielded ops a.tmps)=true:=by simp [Region.wanted,hg]
 rw [if_pos hw]
 unfold Oper.wp
 rw [hrun]
 show K (a.put o.dst undef) w1
 rw [hd]
 exact hK _ _ hS h
theorem one_call (l l':Array Bool)(i d:Nat){o:Oper}{fuel:Nat}{a:Act}{w:World}(hl:l.setIfInBounds i true=l')(hr:Region.ready md ops l=[i])(hi:ops[i]?=some o)(hg:o.guard=none)(hd:o.dst=some d)
  (f:FuncId)(xs:Array Operand)(ats:Array TypeId)(hop:o.op=Op.call { callee:=Callee.value (Operand.func f),args:=xs,argTypes:=ats })(fn:Func)(hf:P.funcs[f]?=some fn)(hn:(fn.name == "runtime.NumGoroutine")=false) (hb:fn.body.isNone=false) (vs:Array Value) (hv:xs.map a.eval=vs)
  (h:Calls P f vs w fun e w'=>∃ v,e=.returned v∧(bf i=true→S w')∧wpAnyD P md ops Q S bf fuel l' (a.put (some d) v) w'):wpAnyD P md ops Q S bf (fuel+1) l a w:=by
 refine wpAnyD_oneL l l' i hl hr hi (fun K hK=>?_)
 refine step_call hg f xs ats hop fn hf hn hb vs hv (h.mono ?_)
 rintro e w' ⟨v,rfl,h1,h2⟩
 exact ⟨v,rfl,by rw [hd];exact hK _ _ h1 h2⟩
theorem one_append (l l':Array Bool)(k d:Nat){o:Oper}{fuel:Nat}{a:Act}{w:World}(hl:l.setIfInBounds k true=l')(hr:Region.ready md ops l=[k])(hk:ops[k]?=some o)(hg:o.guard=none)(hd:o.dst=some d)(s x:Operand)(t:TypeId)
  (ho:o.op=.call { callee:=.builtin .append,args:=#[s,x],argTypes:=#[t,t] })
  (base:Nat)(e:TypeId)(i:TypeInfo)(z:Value)(size bytes:Nat)(ht:P.underlying t=some (.slice e))(hi:P.info? e=some i)(hz:i.zero=some z)
  (hsize:i.size=size)(hby:i.bytes=bytes)(hzs:z.cells.size=size)(hsz:0<size)
  (v:Value)(n:Nat)(xs:List Value)(hs:a.eval s=v)(hown:w.ownsRow base e size v n xs)
  (T:Nat→Prop)(A:Option Addr)(m c:Nat)(news:List Value)(hx:a.eval x=.slice A m c)(hsl:Sl w T size A m news)(h1:∀ u ∈ news,u.oneCell'=true)
  (h63:n+m≤1000000000000)(hbytes:(n+m)*bytes≤140737488355328)(hbase:base≤w.heap.size)
  (h:∀ v' w',w'.ownsRow base e size v' (n+m) (xs ++ news)→Fr (fun k=>some k=v.ownBlock) w w'→(v'.ownBlock=v.ownBlock∨v'.ownBlock=some w.heap.size)→(bf k=true→S w')∧wpAnyD P md ops Q S bf fuel l' (a.put (some d) v') w'):wpAnyD P md ops Q S bf (fuel+1) l a w:=by
 refine wpAnyD_oneL l l' k hl hr hk (fun K hK=>?_)
 refine step_append_sl w hg s x t ho base e i z size bytes ht hi hz hsize hby hzs hsz v n xs hs hown T A m c news hx hsl h1 h63 hbytes hbase ?_
 intro v' w' q1 q2 q3
 rw [hd]
 exact hK _ _ (h v' w' q1 q2 q3).1 (h v' w' q1 q2 q3).2
theorem wpAnyD_takeL (l l':Array Bool){fuel:Nat}{a:Act}{w:World}(i:Nat)(d:Nat)(v:Value){oi:Oper}(hl:l.setIfInBounds i true=l')(hi:ops[i]?=some oi)(hd:oi.dst=some d)
  (hs:Region.noSelect ops=true)(hf:Region.free md ops l i=true)(hr:(Region.ready md ops l).contains i=true)(hb:waitB md ops bf i=true)
  (hQ:∀ c a w,Q (.panic c) (a.put (some d) v) w→Q (.panic c) a w)(hg:oi.guard=none)(hy:∀ w,S w→(execOp a.eval oi).run P w=.ok (.value v) w)(hS:S w)
  (h:wpAnyD P md ops Q S bf fuel l' (a.put (some d) v) w):wpAnyD P md ops Q S bf (fuel+1) l a w:=by
 subst hl
 exact wpAnyD_takeV i d v hi hd hs hf hr hb hQ hg hy hS h
end
theorem info9x:(Tryz.prog.info? 9).map (fun i=>(i.zero,i.size,i.bytes))=some (some (.string ⟨#[]⟩),1,16):=by kernel_rfl
theorem vc (a:Act)(v:Value):a.eval (.const v)=v:=rfl
section
variable {ρ:Operand→Value}{o:Oper}{w:World}
theorem y_quo96 {a:Int}(x:Operand)(ho:o.op=.binOp .quo 3 x (.const (.int .i64 96)) 3)(hx:ρ x=.int .i64 a)(hc:∀ v,ρ (.const v)=v)(h0:0≤a)(h1:a≤1000000):(execOp ρ o).run Tryz.prog w=.ok (.value (.int .i64 (a / 96))) w:=by
 have hw:IntKind.i64.wrap (a / 96)=a / 96:=IntWalk.i64_in _ (by omega)
 have ht:a.tdiv 96=a / 96:=Int.tdiv_eq_ediv_of_nonneg h0
 simp [execOp,ho,hx,hc,go_sem,hw,ht]
theorem y_rem4 {a:Int}(x:Operand)(ho:o.op=.binOp .rem 3 x (.const (.int .i64 4)) 3)(hx:ρ x=.int .i64 a)(hc:∀ v,ρ (.const v)=v)(h0:0≤a):(execOp ρ o).run Tryz.prog w=.ok (.value (.int .i64 (a % 4))) w:=by
 have ht:a.tmod 4=a % 4:=Int.tmod_eq_emod_of_nonneg h0
 simp [execOp,ho,hx,hc,go_sem,ht]
theorem y_addc {b:Int}(y:Operand)(ho:o.op=.binOp .add 3 (.const (.int .i64 1)) y 3)(hy:ρ y=.int .i64 b)(hc:∀ v,ρ (.const v)=v)(hr:I64 (1+b)):(execOp ρ o).run Tryz.prog w=.ok (.value (.int .i64 (1+b))) w:=by
 have hw:IntKind.i64.wrap (1+b)=1+b:=IntWalk.i64_in _ (by unfold I64 at hr;omega)
 simp [execOp,ho,hc,hy,go_sem,hw]
theorem y_index82 {b:Nat}{n:Int}(x y:Operand)(ho:o.op=.indexAddr 82 x y)(hx:ρ x=.slice (some ⟨b,0,none⟩) 4 4)(hy:ρ y=.int .i64 n)(h0:0≤n)(h1:n<4):(execOp ρ o).run Tryz.prog w=.ok (.value (.pointer (some ⟨b,n.toNat,none⟩))) w:=by
 simp [execOp,ho,hx,hy,go_sem,h0,h1]
theorem r_build82 {s:ByteArray}(x:Operand)(ho:o.op=.buildSlice 82 1 #[(0,x)])(hx:ρ x=.string s):(execOp ρ o).run Tryz.prog w=.ok (.value (.slice (some ⟨w.heap.size,0,none⟩) 1 1)) (w.alloc (.cells #[.string s] 9)):=by
 simp [execOp,ho,hx,go_sem]
theorem r_build82d {s0 s1 s2 s3:ByteArray}(ho:o.op=.buildSlice 82 4 #[(0,.const (.string s0)),(1,.const (.string s1)),(2,.const (.string s2)),(3,.const (.string s3))])(hc:∀ v,ρ (.const v)=v):(execOp ρ o).run Tryz.prog w=.ok (.value (.slice (some ⟨w.heap.size,0,none⟩) 4 4)) (w.alloc (.cells #[.string s0,.string s1,.string s2,.string s3] 9)):=by
 simp [execOp,ho,hc,go_sem]
theorem r_store82 {g f:Nat}{A:Option Addr}{n c:Nat}{old:Value}(x y:Operand)(ho:o.op=.store 82 x y)(hx:ρ x=.pointer (some ⟨g,f,none⟩))(hy:ρ y=.slice A n c)(hc:w.cell? ⟨g,f,none⟩=some old)(hz:w.frozen? ⟨g,f,none⟩=false):(execOp ρ o).run Tryz.prog w=.ok .skip (w.setCell ⟨g,f,none⟩ (.slice A n c)):=by
 simp [execOp,ho,hx,hy,go_sem,hc,hz]
end
noncomputable def r8_34:Code:=((Tryz.f8.body.bind (regIn 34)).getD .skip)
set_option maxRecDepth 100000 in
set_option maxHeartbeats 200000 in
theorem reg8_34 {Q:Exit→Act→World→Prop}{a:Act}{w:World}{gx ll cl B:Nat}{Al A7:Option Addr}{i j c7:Nat}{ks:List Int}{R:Int→Prop}(hsz:a.tmps.size=181)(hpan:∀ c a w d v,Q (.panic c) (a.put (some d) v) w→Q (.panic c) a w)
  (e0:a.eval (.tmp 0)=.slice Al ll cl)(e5:a.eval (.tmp 5)=.int .i64 i)(e7:a.eval (.tmp 7)=.pointer (some ⟨gx,0,none⟩))(ej:a.eval (.tmp 9)=.int .i64 j)
  {cs:Array Value} (hbx:Blk w gx 87 cs) (hbk:cs[7]?=some (.slice A7 j c7)) (hgk:¬ some gx=(Value.slice A7 j c7).ownBlock) (hown:w.ownsRow B 3 1 (.slice A7 j c7) j (ks.map (Value.int .i64))) (hB:B≤w.heap.size) (hj:j≤1000)
  (hcall:Calls Tryz.prog 40 #[.slice Al ll cl,.int .i64 i,.int .i64 j] w.drew fun e w'=>∃ n:Int,e=.returned (.int .i64 n)∧R n∧w.drew=w')
  (h:∀ nk A5 c5 w5,R nk→w5.ownsRow B 3 1 (.slice A5 (j+1) c5) (j+1) (ks.map (Value.int .i64) ++ [.int .i64 nk])→Fr (fun k=>some k=(Value.slice A7 j c7).ownBlock) (w.drew.alloc (.cells #[.int .i64 nk] 3)) w5→((Value.slice A5 (j+1) c5).ownBlock=(Value.slice A7 j c7).ownBlock∨(Value.slice A5 (j+1) c5).ownBlock=some (w.drew.alloc (.cells #[.int .i64 nk] 3)).heap.size) →
   Q .normal (((((((((a.put (some 145) (.pointer (some ⟨gx,7,none⟩))).put (some 146) (.slice A7 j c7)).put (some 147) (.slice Al ll cl)).put (some 148) (.int .i64 i)).put (some 149) (.int .i64 j)).put (some 150) (.int .i64 nk)).put (some 151) (.slice (some ⟨w.heap.size,0,none⟩) 1 1)).put (some 152) (.slice A5 (j+1) c5)).put (some 153) (.pointer (some ⟨gx,7,none⟩))) (w5.setCell ⟨gx,7,none⟩ (.slice A5 (j+1) c5))):Code.wp Tryz.prog r8_34 Q a w:=by
 obtain ⟨i3,hi3,hz30,hz31,hz32⟩:=info_parts Tryz.info3
 have x7:=hbx.cell' (u:=.slice A7 j c7) 7 hbk
 have lx:=hbx.lt
 have hS:(w.drew).cell? ⟨gx,7,none⟩=some (.slice A7 j c7):=x7
 conv=>arg 2;whnf
 refine wp_region_L (fun w'=>w'.cell? ⟨gx,7,none⟩=some (.slice A7 j c7)) (fun q=>q != 9) 10 #[false,false,false,false,false,false,false,false,false,false] (by kernel_rfl) (by kernel_rfl) (by kernel_rfl) ?_
 refine wpAnyD_takeL #[false,false,false,false,false,false,false,false,false,false] #[true,false,false,false,false,false,false,false,false,false] 0 145 (.pointer (some ⟨gx,7,none⟩)) (by kernel_rfl) rfl rfl (by kernel_rfl) (by kernel_rfl) (by kernel_rfl) (by kernel_rfl) (fun _ _ _ h=>hpan _ _ _ _ _ h) rfl (fun w hSw=>y_field7 (.tmp 7) rfl (by simp [e7])) hS ?_
 refine wpAnyD_takeL #[true,false,false,false,false,false,false,false,false,false] #[true,true,false,false,false,false,false,false,false,false] 1 146 (.slice A7 j c7) (by kernel_rfl) rfl rfl (by kernel_rfl) (by kernel_rfl) (by kernel_rfl) (by kernel_rfl) (fun _ _ _ h=>hpan _ _ _ _ _ h) rfl (fun w hSw=>y_load22 (.tmp 145) rfl (by simp [vp,hsz]) hSw) hS ?_
 refine wpAnyD_takeL #[true,true,false,false,false,false,false,false,false,false] #[true,true,true,false,false,false,false,false,false,false] 2 147 (.slice Al ll cl) (by kernel_rfl) rfl rfl (by kernel_rfl) (by kernel_rfl) (by kernel_rfl) (by kernel_rfl) (fun _ _ _ h=>hpan _ _ _ _ _ h) rfl (fun w hSw=>y_move (.tmp 0) rfl (by simp [vp,e0])) hS ?_
 refine wpAnyD_takeL #[true,true,true,false,false,false,false,false,false,false] #[true,true,true,true,false,false,false,false,false,false] 3 148 (.int .i64 i) (by kernel_rfl) rfl rfl (by kernel_rfl) (by kernel_rfl) (by kernel_rfl) (by kernel_rfl) (fun _ _ _ h=>hpan _ _ _ _ _ h) rfl (fun w hSw=>y_move (.tmp 5) rfl (by simp [vp,e5])) hS ?_
 refine wpAnyD_takeL #[true,true,true,true,false,false,false,false,false,false] #[true,true,true,true,true,false,false,false,false,false] 4 149 (.int .i64 j) (by kernel_rfl) rfl rfl (by kernel_rfl) (by kernel_rfl) (by kernel_rfl) (by kernel_rfl) (fun _ _ _ h=>hpan _ _ _ _ _ h) rfl (fun w hSw=>y_move (.tmp 9) rfl (by simp [vp,ej])) hS ?_
 refine one_call #[true,true,true,true,true,false,false,false,false,false] #[true,true,true,true,true,true,false,false,false,false] 5 150 (by kernel_rfl) (by kernel_rfl) rfl rfl rfl 40 #[.tmp 147,.tmp 148,.tmp 149] #[22,3,3] rfl _ Tryz.func40 (by rfl) (by rfl) #[.slice Al ll cl,.int .i64 i,.int .i64 j] (by simp [vp,zp,hsz]) ?_
 refine hcall.mono ?_
 rintro e w' ⟨nk,rfl,hnk,rfl⟩
 refine ⟨_,rfl,fun _=>hS,?_⟩
 have hS1:((w.drew).alloc (.cells #[.int .i64 nk] 3)).cell? ⟨gx,7,none⟩=some (.slice A7 j c7):=cell_old hS _ lx
 refine one_value #[true,true,true,true,true,true,false,false,false,false] #[true,true,true,true,true,true,true,false,false,false] 6 151 _ (by kernel_rfl) (by kernel_rfl) rfl rfl rfl (r_build22 (z:=nk) (.tmp 150) rfl (by simp [vp,zp,hsz])) (fun _=>hS1) ?_
 refine one_append #[true,true,true,true,true,true,true,false,false,false] #[true,true,true,true,true,true,true,true,false,false] 7 152 (by kernel_rfl) (by kernel_rfl) rfl rfl rfl (.tmp 146) (.tmp 151) 22 rfl B 3 i3 _ 1 8 Tryz.underlying22 hi3 hz30 hz31 hz32 rfl (by omega) (.slice A7 j c7) j (ks.map (Value.int .i64)) (by simp [vp,zp,hsz]) ((hown.ext_ (Ext.refl _).drew').alloc _) (fun _=>True) (some ⟨w.heap.size,0,none⟩) 1 1 [.int .i64 nk] (by simp [vp,zp,hsz]) (Sl.new w.drew _ _ _ _ rfl) (by simp [Value.oneCell']) (by omega) (by omega) (by simp;omega) ?_
 intro v5 w5 ho5 hf5 hb5
 obtain ⟨A5,c5,ev5,-,-,-⟩:=Sl.of_own ho5
 subst ev5
 have R5:=(hbx.drew.alloc (.cells #[.int .i64 nk] 3)).fr hf5 hgk
 have y7:=R5.cell' (u:=.slice A7 j c7) 7 hbk
 have y7f:=R5.frozen 7
 refine ⟨fun _=>y7,?_⟩
 refine one_value #[true,true,true,true,true,true,true,true,false,false] #[true,true,true,true,true,true,true,true,true,false] 8 153 (.pointer (some ⟨gx,7,none⟩)) (by kernel_rfl) (by kernel_rfl) rfl rfl rfl (y_field7 (.tmp 7) rfl (by simp [vp,e7])) (fun _=>y7) ?_
 refine one_skip #[true,true,true,true,true,true,true,true,true,false] #[true,true,true,true,true,true,true,true,true,true] 9 (by kernel_rfl) (by kernel_rfl) rfl rfl rfl (r_store22 (A:=A5) (n:=j+1) (c:=c5) (.tmp 153) (.tmp 152) rfl (by simp [vp,zp,hsz]) (by simp [vp,zp,hsz]) y7 y7f) (fun h=>absurd h (by decide)) ?_
 refine wpAnyD_done (by kernel_rfl) ?_ _
 exact h nk A5 c5 w5 hnk ho5 hf5 hb5
noncomputable def r8_26:Code:=((Tryz.f8.body.bind (regIn 26)).getD .skip)
set_option maxRecDepth 100000 in
set_option maxHeartbeats 200000 in
theorem reg8_26 {Q:Exit→Act→World→Prop}{a:Act}{w:World}{gx ll cl B:Nat}{Al A7:Option Addr}{i j c7:Nat}{ks:List Int}{R:Int→Prop}(hsz:a.tmps.size=181)(hpan:∀ c a w d v,Q (.panic c) (a.put (some d) v) w→Q (.panic c) a w)
  (e0:a.eval (.tmp 0)=.slice Al ll cl)(e5:a.eval (.tmp 5)=.int .i64 i)(e7:a.eval (.tmp 7)=.pointer (some ⟨gx,0,none⟩))(ej:a.eval (.tmp 8)=.int .i64 j)
  {cs:Array Value} (hbx:Blk w gx 87 cs) (hbk:cs[7]?=some (.slice A7 j c7)) (hgk:¬ some gx=(Value.slice A7 j c7).ownBlock) (hown:w.ownsRow B 3 1 (.slice A7 j c7) j (ks.map (Value.int .i64))) (hB:B≤w.heap.size) (hj:j≤1000)
  (hcall:Calls Tryz.prog 40 #[.slice Al ll cl,.int .i64 i,.int .i64 j] w.drew fun e w'=>∃ n:Int,e=.returned (.int .i64 n)∧R n∧w.drew=w')
  (h:∀ nk A5 c5 w5,R nk→w5.ownsRow B 3 1 (.slice A5 (j+1) c5) (j+1) (ks.map (Value.int .i64) ++ [.int .i64 nk])→Fr (fun k=>some k=(Value.slice A7 j c7).ownBlock) (w.drew.alloc (.cells #[.int .i64 nk] 3)) w5→((Value.slice A5 (j+1) c5).ownBlock=(Value.slice A7 j c7).ownBlock∨(Value.slice A5 (j+1) c5).ownBlock=some (w.drew.alloc (.cells #[.int .i64 nk] 3)).heap.size) →
   Q .normal (((((((((a.put (some 103) (.pointer (some ⟨gx,7,none⟩))).put (some 104) (.slice A7 j c7)).put (some 105) (.slice Al ll cl)).put (some 106) (.int .i64 i)).put (some 107) (.int .i64 j)).put (some 108) (.int .i64 nk)).put (some 109) (.slice (some ⟨w.heap.size,0,none⟩) 1 1)).put (some 110) (.slice A5 (j+1) c5)).put (some 111) (.pointer (some ⟨gx,7,none⟩))) (w5.setCell ⟨gx,7,none⟩ (.slice A5 (j+1) c5))):Code.wp Tryz.prog r8_26 Q a w:=by
 obtain ⟨i3,hi3,hz30,hz31,hz32⟩:=info_parts Tryz.info3
 have x7:=hbx.cell' (u:=.slice A7 j c7) 7 hbk
 have lx:=hbx.lt
 have hS:(w.drew).cell? ⟨gx,7,none⟩=some (.slice A7 j c7):=x7
 conv=>arg 2;whnf
 refine wp_region_L (fun w'=>w'.cell? ⟨gx,7,none⟩=some (.slice A7 j c7)) (fun q=>q != 9) 10 #[false,false,false,false,false,false,false,false,false,false] (by kernel_rfl) (by kernel_rfl) (by kernel_rfl) ?_
 refine wpAnyD_takeL #[false,false,false,false,false,false,false,false,false,false] #[true,false,false,false,false,false,false,false,false,false] 0 103 (.pointer (some ⟨gx,7,none⟩)) (by kernel_rfl) rfl rfl (by kernel_rfl) (by kernel_rfl) (by kernel_rfl) (by kernel_rfl) (fun _ _ _ h=>hpan _ _ _ _ _ h) rfl (fun w hSw=>y_field7 (.tmp 7) rfl (by simp [e7])) hS ?_
 refine wpAnyD_takeL #[true,false,false,false,false,false,false,false,false,false] #[true,true,false,false,false,false,false,false,false,false] 1 104 (.slice A7 j c7) (by kernel_rfl) rfl rfl (by kernel_rfl) (by kernel_rfl) (by kernel_rfl) (by kernel_rfl) (fun _ _ _ h=>hpan _ _ _ _ _ h) rfl (fun w hSw=>y_load22 (.tmp 103) rfl (by simp [vp,hsz]) hSw) hS ?_
 refine wpAnyD_takeL #[true,true,false,false,false,false,false,false,false,false] #[true,true,true,false,false,false,false,false,false,false] 2 105 (.slice Al ll cl) (by kernel_rfl) rfl rfl (by kernel_rfl) (by kernel_rfl) (by kernel_rfl) (by kernel_rfl) (fun _ _ _ h=>hpan _ _ _ _ _ h) rfl (fun w hSw=>y_move (.tmp 0) rfl (by simp [vp,e0])) hS ?_
 refine wpAnyD_takeL #[true,true,true,false,false,false,false,false,false,false] #[true,true,true,true,false,false,false,false,false,false] 3 106 (.int .i64 i) (by kernel_rfl) rfl rfl (by kernel_rfl) (by kernel_rfl) (by kernel_rfl) (by kernel_rfl) (fun _ _ _ h=>hpan _ _ _ _ _ h) rfl (fun w hSw=>y_move (.tmp 5) rfl (by simp [vp,e5])) hS ?_
 refine wpAnyD_takeL #[true,true,true,true,false,false,false,false,false,false] #[true,true,true,true,true,false,false,false,false,false] 4 107 (.int .i64 j) (by kernel_rfl) rfl rfl (by kernel_rfl) (by kernel_rfl) (by kernel_rfl) (by kernel_rfl) (fun _ _ _ h=>hpan _ _ _ _ _ h) rfl (fun w hSw=>y_move (.tmp 8) rfl (by simp [vp,ej])) hS ?_
 refine one_call #[true,true,true,true,true,false,false,false,false,false] #[true,true,true,true,true,true,false,false,false,false] 5 108 (by kernel_rfl) (by kernel_rfl) rfl rfl rfl 40 #[.tmp 105,.tmp 106,.tmp 107] #[22,3,3] rfl _ Tryz.func40 (by rfl) (by rfl) #[.slice Al ll cl,.int .i64 i,.int .i64 j] (by simp [vp,zp,hsz]) ?_
 refine hcall.mono ?_
 rintro e w' ⟨nk,rfl,hnk,rfl⟩
 refine ⟨_,rfl,fun _=>hS,?_⟩
 have hS1:((w.drew).alloc (.cells #[.int .i64 nk] 3)).cell? ⟨gx,7,none⟩=some (.slice A7 j c7):=cell_old hS _ lx
 refine one_value #[true,true,true,true,true,true,false,false,false,false] #[true,true,true,true,true,true,true,false,false,false] 6 109 _ (by kernel_rfl) (by kernel_rfl) rfl rfl rfl (r_build22 (z:=nk) (.tmp 108) rfl (by simp [vp,zp,hsz])) (fun _=>hS1) ?_
 refine one_append #[true,true,true,true,true,true,true,false,false,false] #[true,true,true,true,true,true,true,true,false,false] 7 110 (by kernel_rfl) (by kernel_rfl) rfl rfl rfl (.tmp 104) (.tmp 109) 22 rfl B 3 i3 _ 1 8 Tryz.underlying22 hi3 hz30 hz31 hz32 rfl (by omega) (.slice A7 j c7) j (ks.map (Value.int .i64)) (by simp [vp,zp,hsz]) ((hown.ext_ (Ext.refl _).drew').alloc _) (fun _=>True) (some ⟨w.heap.size,0,none⟩) 1 1 [.int .i64 nk] (by simp [vp,zp,hsz]) (Sl.new w.drew _ _ _ _ rfl) (by simp [Value.oneCell']) (by omega) (by omega) (by simp;omega) ?_
 intro v5 w5 ho5 hf5 hb5
 obtain ⟨A5,c5,ev5,-,-,-⟩:=Sl.of_own ho5
 subst ev5
 have R5:=(hbx.drew.alloc (.cells #[.int .i64 nk] 3)).fr hf5 hgk
 have y7:=R5.cell' (u:=.slice A7 j c7) 7 hbk
 have y7f:=R5.frozen 7
 refine ⟨fun _=>y7,?_⟩
 refine one_value #[true,true,true,true,true,true,true,true,false,false] #[true,true,true,true,true,true,true,true,true,false] 8 111 (.pointer (some ⟨gx,7,none⟩)) (by kernel_rfl) (by kernel_rfl) rfl rfl rfl (y_field7 (.tmp 7) rfl (by simp [vp,e7])) (fun _=>y7) ?_
 refine one_skip #[true,true,true,true,true,true,true,true,true,false] #[true,true,true,true,true,true,true,true,true,true] 9 (by kernel_rfl) (by kernel_rfl) rfl rfl rfl (r_store22 (A:=A5) (n:=j+1) (c:=c5) (.tmp 111) (.tmp 110) rfl (by simp [vp,zp,hsz]) (by simp [vp,zp,hsz]) y7 y7f) (fun h=>absurd h (by decide)) ?_
 refine wpAnyD_done (by kernel_rfl) ?_ _
 exact h nk A5 c5 w5 hnk ho5 hf5 hb5
noncomputable def r8_25:Code:=((Tryz.f8.body.bind (regIn 25)).getD .skip)
set_option maxRecDepth 100000 in
set_option maxHeartbeats 200000 in
theorem reg8_25 {Q:Exit→Act→World→Prop}{a:Act}{w:World}{gx ll cl B:Nat}{Al A7:Option Addr}{i j c7:Nat}{ks:List Int}{p:Int}(hsz:a.tmps.size=181)(hpan:∀ c a w d v,Q (.panic c) (a.put (some d) v) w→Q (.panic c) a w)
  (e0:a.eval (.tmp 0)=.slice Al ll cl)(e5:a.eval (.tmp 5)=.int .i64 i)(e7:a.eval (.tmp 7)=.pointer (some ⟨gx,0,none⟩))(ej:a.eval (.tmp 8)=.int .i64 j)
  {cs:Array Value} (hbx:Blk w gx 87 cs) (hbk:cs[4]?=some (.slice A7 j c7)) (hgk:¬ some gx=(Value.slice A7 j c7).ownBlock) (hown:w.ownsRow B 3 1 (.slice A7 j c7) j (ks.map (Value.int .i64))) (hB:B≤w.heap.size) (hj:j≤1000) (hi:i≤1000) (hp:0≤p∧p<5)
  (hcall:Calls Tryz.prog 38 #[.slice Al ll cl,.int .i64 ((i:Int)+(j:Int)),.int .i64 5] w.drew fun e w'=>e=.returned (.int .i64 p)∧w.drew=w')
  (h:∀ A5 c5 w5,w5.ownsRow B 3 1 (.slice A5 (j+1) c5) (j+1) (ks.map (Value.int .i64) ++ [.int .i64 (1+p)])→Fr (fun k=>some k=(Value.slice A7 j c7).ownBlock) (w.drew.alloc (.cells #[.int .i64 (1+p)] 3)) w5→((Value.slice A5 (j+1) c5).ownBlock=(Value.slice A7 j c7).ownBlock∨(Value.slice A5 (j+1) c5).ownBlock=some (w.drew.alloc (.cells #[.int .i64 (1+p)] 3)).heap.size) →
   Q .normal (((((((((((a.put (some 92) (.pointer (some ⟨gx,4,none⟩))).put (some 93) (.slice A7 j c7)).put (some 94) (.slice Al ll cl)).put (some 95) (.int .i64 i)).put (some 96) (.int .i64 j)).put (some 97) (.int .i64 ((i:Int)+(j:Int)))).put (some 98) (.int .i64 p)).put (some 99) (.int .i64 (1+p))).put (some 100) (.slice (some ⟨w.heap.size,0,none⟩) 1 1)).put (some 101) (.slice A5 (j+1) c5)).put (some 102) (.pointer (some ⟨gx,4,none⟩))) (w5.setCell ⟨gx,4,none⟩ (.slice A5 (j+1) c5))):Code.wp Tryz.prog r8_25 Q a w:=by
 obtain ⟨i3,hi3,hz30,hz31,hz32⟩:=info_parts Tryz.info3
 have x7:=hbx.cell' (u:=.slice A7 j c7) 4 hbk
 have lx:=hbx.lt
 have hS:(w.drew).cell? ⟨gx,4,none⟩=some (.slice A7 j c7):=x7
 conv=>arg 2;whnf
 refine wp_region_L (fun w'=>w'.cell? ⟨gx,4,none⟩=some (.slice A7 j c7)) (fun q=>q != 11) 12 #[false,false,false,false,false,false,false,false,false,false,false,false] (by kernel_rfl) (by kernel_rfl) (by kernel_rfl) ?_
 refine wpAnyD_takeL #[false,false,false,false,false,false,false,false,false,false,false,false] #[true,false,false,false,false,false,false,false,false,false,false,false] 0 92 (.pointer (some ⟨gx,4,none⟩)) (by kernel_rfl) rfl rfl (by kernel_rfl) (by kernel_rfl) (by kernel_rfl) (by kernel_rfl) (fun _ _ _ h=>hpan _ _ _ _ _ h) rfl (fun w hSw=>y_field4 (.tmp 7) rfl (by simp [e7])) hS ?_
 refine wpAnyD_takeL #[true,false,false,false,false,false,false,false,false,false,false,false] #[true,true,false,false,false,false,false,false,false,false,false,false] 1 93 (.slice A7 j c7) (by kernel_rfl) rfl rfl (by kernel_rfl) (by kernel_rfl) (by kernel_rfl) (by kernel_rfl) (fun _ _ _ h=>hpan _ _ _ _ _ h) rfl (fun w hSw=>y_load22 (.tmp 92) rfl (by simp [vp,hsz]) hSw) hS ?_
 refine wpAnyD_takeL #[true,true,false,false,false,false,false,false,false,false,false,false] #[true,true,true,false,false,false,false,false,false,false,false,false] 2 94 (.slice Al ll cl) (by kernel_rfl) rfl rfl (by kernel_rfl) (by kernel_rfl) (by kernel_rfl) (by kernel_rfl) (fun _ _ _ h=>hpan _ _ _ _ _ h) rfl (fun w hSw=>y_move (.tmp 0) rfl (by simp [vp,e0])) hS ?_
 refine wpAnyD_takeL #[true,true,true,false,false,false,false,false,false,false,false,false] #[true,true,true,true,false,false,false,false,false,false,false,false] 3 95 (.int .i64 i) (by kernel_rfl) rfl rfl (by kernel_rfl) (by kernel_rfl) (by kernel_rfl) (by kernel_rfl) (fun _ _ _ h=>hpan _ _ _ _ _ h) rfl (fun w hSw=>y_move (.tmp 5) rfl (by simp [vp,e5])) hS ?_
 refine wpAnyD_takeL #[true,true,true,true,false,false,false,false,false,false,false,false] #[true,true,true,true,true,false,false,false,false,false,false,false] 4 96 (.int .i64 j) (by kernel_rfl) rfl rfl (by kernel_rfl) (by kernel_rfl) (by kernel_rfl) (by kernel_rfl) (fun _ _ _ h=>hpan _ _ _ _ _ h) rfl (fun w hSw=>y_move (.tmp 8) rfl (by simp [vp,ej])) hS ?_
 refine wpAnyD_takeL #[true,true,true,true,true,false,false,false,false,false,false,false] #[true,true,true,true,true,true,false,false,false,false,false,false] 5 97 (.int .i64 ((i:Int)+(j:Int))) (by kernel_rfl) rfl rfl (by kernel_rfl) (by kernel_rfl) (by kernel_rfl) (by kernel_rfl) (fun _ _ _ h=>hpan _ _ _ _ _ h) rfl (fun w hSw=>y_add (.tmp 95) (.tmp 96) rfl (by simp [vp,zp,hsz]) (by simp [vp,zp,hsz]) (by unfold I64;omega)) hS ?_
 refine one_call #[true,true,true,true,true,true,false,false,false,false,false,false] #[true,true,true,true,true,true,true,false,false,false,false,false] 6 98 (by kernel_rfl) (by kernel_rfl) rfl rfl rfl 38 #[.tmp 94,.tmp 97,.const (.int .i64 5)] #[22,3,3] rfl _ Tryz.func38 (by rfl) (by rfl) #[.slice Al ll cl,.int .i64 ((i:Int)+(j:Int)),.int .i64 5] (by simp [vp,zp,hsz,vc]) ?_
 refine hcall.mono ?_
 rintro e w' ⟨rfl,rfl⟩
 refine ⟨_,rfl,fun _=>hS,?_⟩
 refine one_value #[true,true,true,true,true,true,true,false,false,false,false,false] #[true,true,true,true,true,true,true,true,false,false,false,false] 7 99 (.int .i64 (1+p)) (by kernel_rfl) (by kernel_rfl) rfl rfl rfl (y_addc (.tmp 98) rfl (by simp [vp,zp,hsz]) (fun _=>rfl) (by unfold I64;omega)) (fun _=>hS) ?_
 have hS1:((w.drew).alloc (.cells #[.int .i64 (1+p)] 3)).cell? ⟨gx,4,none⟩=some (.slice A7 j c7):=cell_old hS _ lx
 refine one_value #[true,true,true,true,true,true,true,true,false,false,false,false] #[true,true,true,true,true,true,true,true,true,false,false,false] 8 100 _ (by kernel_rfl) (by kernel_rfl) rfl rfl rfl (r_build22 (z:=1+p) (.tmp 99) rfl (by simp [vp,zp,hsz])) (fun _=>hS1) ?_
 refine one_append #[true,true,true,true,true,true,true,true,true,false,false,false] #[true,true,true,true,true,true,true,true,true,true,false,false] 9 101 (by kernel_rfl) (by kernel_rfl) rfl rfl rfl (.tmp 93) (.tmp 100) 22 rfl B 3 i3 _ 1 8 Tryz.underlying22 hi3 hz30 hz31 hz32 rfl (by omega) (.slice A7 j c7) j (ks.map (Value.int .i64)) (by simp [vp,zp,hsz]) ((hown.ext_ (Ext.refl _).drew').alloc _) (fun _=>True) (some ⟨w.heap.size,0,none⟩) 1 1 [.int .i64 (1+p)] (by simp [vp,zp,hsz]) (Sl.new w.drew _ _ _ _ rfl) (by simp [Value.oneCell']) (by omega) (by omega) (by simp;omega) ?_
 intro v5 w5 ho5 hf5 hb5
 obtain ⟨A5,c5,ev5,-,-,-⟩:=Sl.of_own ho5
 subst ev5
 have R5:=(hbx.drew.alloc (.cells #[.int .i64 (1+p)] 3)).fr hf5 hgk
 have y7:=R5.cell' (u:=.slice A7 j c7) 4 hbk
 have y7f:=R5.frozen 4
 refine ⟨fun _=>y7,?_⟩
 refine one_value #[true,true,true,true,true,true,true,true,true,true,false,false] #[true,true,true,true,true,true,true,true,true,true,true,false] 10 102 (.pointer (some ⟨gx,4,none⟩)) (by kernel_rfl) (by kernel_rfl) rfl rfl rfl (y_field4 (.tmp 7) rfl (by simp [vp,e7])) (fun _=>y7) ?_
 refine one_skip #[true,true,true,true,true,true,true,true,true,true,true,false] #[true,true,true,true,true,true,true,true,true,true,true,true] 11 (by kernel_rfl) (by kernel_rfl) rfl rfl rfl (r_store22 (A:=A5) (n:=j+1) (c:=c5) (.tmp 102) (.tmp 101) rfl (by simp [vp,zp,hsz]) (by simp [vp,zp,hsz]) y7 y7f) (fun h=>absurd h (by decide)) ?_
 refine wpAnyD_done (by kernel_rfl) ?_ _
 exact h A5 c5 w5 ho5 hf5 hb5
theorem lab4 (m:Nat)(h:m<4):∃ z:ByteArray,(#[.string ⟨#[97]⟩,.string ⟨#[98]⟩,.string ⟨#[99]⟩,.string ⟨#[100]⟩]:Array Value)[m]?=some (.string z)∧z.size≤100:=by
 rcases m with _ | _ | _ | _ | m
 ·exact ⟨⟨#[97]⟩,rfl,by decide⟩
 ·exact ⟨⟨#[98]⟩,rfl,by decide⟩
 ·exact ⟨⟨#[99]⟩,rfl,by decide⟩
 ·exact ⟨⟨#[100]⟩,rfl,by decide⟩
 ·omega
noncomputable def r8_28:Code:=((Tryz.f8.body.bind (regIn 28)).getD .skip)
set_option maxRecDepth 100000 in
set_option maxHeartbeats 200000 in
theorem reg8_28 {Q:Exit→Act→World→Prop}{a:Act}{w:World}{gx B:Nat}{A7:Option Addr}{j n7 c7:Nat}{k:Int}{ls:List ByteArray}(hsz:a.tmps.size=181)(hpan:∀ c a w d v,Q (.panic c) (a.put (some d) v) w→Q (.panic c) a w)
  (e6:a.eval (.tmp 6)=.int .i64 k)(e7:a.eval (.tmp 7)=.pointer (some ⟨gx,0,none⟩))(ej:a.eval (.tmp 8)=.int .i64 j)
  {cs:Array Value} (hbx:Blk w gx 87 cs) (hbk:cs[5]?=some (.slice A7 n7 c7)) (hgk:¬ some gx=(Value.slice A7 n7 c7).ownBlock) (hown:w.ownsRow B 9 1 (.slice A7 n7 c7) n7 (ls.map Value.string)) (hB:B≤w.heap.size) (hj:j≤1000) (hn7:n7≤1000) (hk:0≤k∧k<1000000)
  (h:∀ z A5 c5 w5,z.size≤100→w5.ownsRow B 9 1 (.slice A5 (n7+1) c5) (n7+1) (ls.map Value.string ++ [.string z])→Fr (fun k=>some k=(Value.slice A7 n7 c7).ownBlock) ((w.drew.alloc (.cells #[.string ⟨#[97]⟩,.string ⟨#[98]⟩,.string ⟨#[99]⟩,.string ⟨#[100]⟩] 9)).alloc (.cells #[.string z] 9)) w5→((Value.slice A5 (n7+1) c5).ownBlock=(Value.slice A7 n7 c7).ownBlock∨(Value.slice A5 (n7+1) c5).ownBlock=some ((w.drew.alloc (.cells #[.string ⟨#[97]⟩,.string ⟨#[98]⟩,.string ⟨#[99]⟩,.string ⟨#[100]⟩] 9)).alloc (.cells #[.string z] 9)).heap.size) →
   Q .normal (((((((((((((a.put (some 116) (.pointer (some ⟨gx,5,none⟩))).put (some 117) (.slice A7 n7 c7)).put (some 119) (.int .i64 j)).put (some 120) (.int .i64 k)).put (some 121) (.int .i64 (k / 96))).put (some 122) (.int .i64 ((j:Int)+k / 96))).put (some 123) (.int .i64 (((j:Int)+k / 96) % 4))).put (some 118) (.slice (some ⟨w.heap.size,0,none⟩) 4 4)).put (some 124) (.pointer (some ⟨w.heap.size,(((j:Int)+k / 96) % 4).toNat,none⟩))).put (some 125) (.string z)).put (some 126) (.slice (some ⟨w.heap.size+1,0,none⟩) 1 1)).put (some 127) (.slice A5 (n7+1) c5)).put (some 128) (.pointer (some ⟨gx,5,none⟩))) (w5.setCell ⟨gx,5,none⟩ (.slice A5 (n7+1) c5))):Code.wp Tryz.prog r8_28 Q a w:=by
 obtain ⟨i3,hi3,hz30,hz31,hz32⟩:=info_parts info9x
 have x7:=hbx.cell' (u:=.slice A7 n7 c7) 5 hbk
 have lx:=hbx.lt
 have hS:(w.drew).cell? ⟨gx,5,none⟩=some (.slice A7 n7 c7):=x7
 obtain ⟨z,hz,hz1⟩:=lab4 (((j:Int)+k / 96) % 4).toNat (by omega)
 conv=>arg 2;whnf
 refine wp_region_L (fun w'=>w'.cell? ⟨gx,5,none⟩=some (.slice A7 n7 c7)) (fun q=>q != 13) 14 #[false,false,false,false,false,false,false,false,false,false,false,false,false,false] (by kernel_rfl) (by kernel_rfl) (by kernel_rfl) ?_
 refine wpAnyD_takeL #[false,false,false,false,false,false,false,false,false,false,false,false,false,false] #[true,false,false,false,false,false,false,false,false,false,false,false,false,false] 0 116 (.pointer (some ⟨gx,5,none⟩)) (by kernel_rfl) rfl rfl (by kernel_rfl) (by kernel_rfl) (by kernel_rfl) (by kernel_rfl) (fun _ _ _ h=>hpan _ _ _ _ _ h) rfl (fun w hSw=>y_field5 (.tmp 7) rfl (by simp [e7])) hS ?_
 refine wpAnyD_takeL #[true,false,false,false,false,false,false,false,false,false,false,false,false,false] #[true,true,false,false,false,false,false,false,false,false,false,false,false,false] 1 117 (.slice A7 n7 c7) (by kernel_rfl) rfl rfl (by kernel_rfl) (by kernel_rfl) (by kernel_rfl) (by kernel_rfl) (fun _ _ _ h=>hpan _ _ _ _ _ h) rfl (fun w hSw=>y_load82 (.tmp 116) rfl (by simp [vp,hsz]) hSw) hS ?_
 refine wpAnyD_takeL #[true,true,false,false,false,false,false,false,false,false,false,false,false,false] #[true,true,false,true,false,false,false,false,false,false,false,false,false,false] 3 119 (.int .i64 j) (by kernel_rfl) rfl rfl (by kernel_rfl) (by kernel_rfl) (by kernel_rfl) (by kernel_rfl) (fun _ _ _ h=>hpan _ _ _ _ _ h) rfl (fun w hSw=>y_move (.tmp 8) rfl (by simp [vp,ej])) hS ?_
 refine wpAnyD_takeL #[true,true,false,true,false,false,false,false,false,false,false,false,false,false] #[true,true,false,true,true,false,false,false,false,false,false,false,false,false] 4 120 (.int .i64 k) (by kernel_rfl) rfl rfl (by kernel_rfl) (by kernel_rfl) (by kernel_rfl) (by kernel_rfl) (fun _ _ _ h=>hpan _ _ _ _ _ h) rfl (fun w hSw=>y_move (.tmp 6) rfl (by simp [vp,e6])) hS ?_
 refine wpAnyD_takeL #[true,true,false,true,true,false,false,false,false,false,false,false,false,false] #[true,true,false,true,true,true,false,false,false,false,false,false,false,false] 5 121 (.int .i64 (k / 96)) (by kernel_rfl) rfl rfl (by kernel_rfl) (by kernel_rfl) (by kernel_rfl) (by kernel_rfl) (fun _ _ _ h=>hpan _ _ _ _ _ h) rfl (fun w hSw=>y_quo96 (.tmp 120) rfl (by simp [vp,zp,hsz]) (fun _=>rfl) (by omega) (by omega)) hS ?_
 refine wpAnyD_takeL #[true,true,false,true,true,true,false,false,false,false,false,false,false,false] #[true,true,false,true,true,true,true,false,false,false,false,false,false,false] 6 122 (.int .i64 ((j:Int)+k / 96)) (by kernel_rfl) rfl rfl (by kernel_rfl) (by kernel_rfl) (by kernel_rfl) (by kernel_rfl) (fun _ _ _ h=>hpan _ _ _ _ _ h) rfl (fun w hSw=>y_add (.tmp 119) (.tmp 121) rfl (by simp [vp,zp,hsz]) (by simp [vp,zp,hsz]) (by unfold I64;omega)) hS ?_
 refine wpAnyD_takeL #[true,true,false,true,true,true,true,false,false,false,false,false,false,false] #[true,true,false,true,true,true,true,true,false,false,false,false,false,false] 7 123 (.int .i64 (((j:Int)+k / 96) % 4)) (by kernel_rfl) rfl rfl (by kernel_rfl) (by kernel_rfl) (by kernel_rfl) (by kernel_rfl) (fun _ _ _ h=>hpan _ _ _ _ _ h) rfl (fun w hSw=>y_rem4 (.tmp 122) rfl (by simp [vp,zp,hsz]) (fun _=>rfl) (by omega)) hS ?_
 have hS1:(w.drew.alloc (.cells #[.string ⟨#[97]⟩,.string ⟨#[98]⟩,.string ⟨#[99]⟩,.string ⟨#[100]⟩] 9)).cell? ⟨gx,5,none⟩=some (.slice A7 n7 c7):=cell_old hS _ lx
 refine one_value #[true,true,false,true,true,true,true,true,false,false,false,false,false,false] #[true,true,true,true,true,true,true,true,false,false,false,false,false,false] 2 118 _ (by kernel_rfl) (by kernel_rfl) rfl rfl rfl (r_build82d (s0:=⟨#[97]⟩) (s1:=⟨#[98]⟩) (s2:=⟨#[99]⟩) (s3:=⟨#[100]⟩) (by rfl) (fun _=>rfl)) (fun _=>hS1) ?_
 refine one_value #[true,true,true,true,true,true,true,true,false,false,false,false,false,false] #[true,true,true,true,true,true,true,true,true,false,false,false,false,false] 8 124 _ (by kernel_rfl) (by kernel_rfl) rfl rfl rfl (y_index82 (b:=w.heap.size) (n:=((j:Int)+k / 96) % 4) (.tmp 118) (.tmp 123) rfl (by simp [vp,zp,hsz]) (by simp [vp,zp,hsz]) (by omega) (by omega)) (fun _=>hS1) ?_
 refine one_value #[true,true,true,true,true,true,true,true,true,false,false,false,false,false] #[true,true,true,true,true,true,true,true,true,true,false,false,false,false] 9 125 (.string z) (by kernel_rfl) (by kernel_rfl) rfl rfl rfl (y_load9 (.tmp 124) rfl (by simp [vp,zp,hsz]) (cell_new' w.drew _ 9 _ _ _ rfl hz)) (fun _=>hS1) ?_
 have hS2:((w.drew.alloc (.cells #[.string ⟨#[97]⟩,.string ⟨#[98]⟩,.string ⟨#[99]⟩,.string ⟨#[100]⟩] 9)).alloc (.cells #[.string z] 9)).cell? ⟨gx,5,none⟩=some (.slice A7 n7 c7):=cell_old hS1 _ (by simp;omega)
 refine one_value #[true,true,true,true,true,true,true,true,true,true,false,false,false,false] #[true,true,true,true,true,true,true,true,true,true,true,false,false,false] 10 126 _ (by kernel_rfl) (by kernel_rfl) rfl rfl rfl (r_build82 (s:=z) (.tmp 125) (by rfl) (by simp [vp,zp,hsz])) (fun _=>hS2) ?_
 refine one_append #[true,true,true,true,true,true,true,true,true,true,true,false,false,false] #[true,true,true,true,true,true,true,true,true,true,true,true,false,false] 11 127 (by kernel_rfl) (by kernel_rfl) rfl rfl rfl (.tmp 117) (.tmp 126) 82 rfl B 9 i3 _ 1 16 Tryz.underlying82 hi3 hz30 hz31 hz32 rfl (by omega) (.slice A7 n7 c7) n7 (ls.map Value.string) (by simp [vp,zp,hsz]) (((hown.ext_ (Ext.refl _).drew').alloc _).alloc _) (fun _=>True) (some ⟨(w.drew.alloc (.cells #[.string ⟨#[97]⟩,.string ⟨#[98]⟩,.string ⟨#[99]⟩,.string ⟨#[100]⟩] 9)).heap.size,0,none⟩) 1 1 [.string z] (by simp [vp,zp,hsz]) (Sl.new (w.drew.alloc (.cells #[.string ⟨#[97]⟩,.string ⟨#[98]⟩,.string ⟨#[99]⟩,.string ⟨#[100]⟩] 9)) _ _ _ _ rfl) (by simp [Value.oneCell']) (by omega) (by omega) (by simp;omega) ?_
 intro v5 w5 ho5 hf5 hb5
 obtain ⟨A5,c5,ev5,-,-,-⟩:=Sl.of_own ho5
 subst ev5
 have R5:=((hbx.drew.alloc (.cells #[.string ⟨#[97]⟩,.string ⟨#[98]⟩,.string ⟨#[99]⟩,.string ⟨#[100]⟩] 9)).alloc (.cells #[.string z] 9)).fr hf5 hgk
 have y7:=R5.cell' (u:=.slice A7 n7 c7) 5 hbk
 have y7f:=R5.frozen 5
 refine ⟨fun _=>y7,?_⟩
 refine one_value #[true,true,true,true,true,true,true,true,true,true,true,true,false,false] #[true,true,true,true,true,true,true,true,true,true,true,true,true,false] 12 128 (.pointer (some ⟨gx,5,none⟩)) (by kernel_rfl) (by kernel_rfl) rfl rfl rfl (y_field5 (.tmp 7) rfl (by simp [vp,e7])) (fun _=>y7) ?_
 refine one_skip #[true,true,true,true,true,true,true,true,true,true,true,true,true,false] #[true,true,true,true,true,true,true,true,true,true,true,true,true,true] 13 (by kernel_rfl) (by kernel_rfl) rfl rfl rfl (r_store82 (g:=gx) (f:=5) (A:=A5) (n:=n7+1) (c:=c5) (.tmp 128) (.tmp 127) (by rfl) (by simp [vp,zp,hsz]) (by simp [vp,zp,hsz]) y7 y7f) (fun h=>absurd h (by decide)) ?_
 refine wpAnyD_done (by kernel_rfl) ?_ _
 have hq:=h z A5 c5 w5 hz1 ho5 hf5 hb5
 simpa using hq
end Go.Proofs.YtkoeecdjijfjnaaGreat
