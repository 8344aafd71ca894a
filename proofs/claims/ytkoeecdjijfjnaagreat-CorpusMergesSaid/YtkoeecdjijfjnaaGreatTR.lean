/- Contracts of functions, plain laws. Conditions: none. -/
import Derived.Test.YtkoeecdjijfjnaaGreatEA
import Derived.Test.YtkoeecdjijfjnaaGreatLT
set_option maxRecDepth 100000
set_option maxHeartbeats 8000000
namespace Go.Proofs.YtkoeecdjijfjnaaGreat
open Go.RowKit
section
variable {a b:Int}
theorem wrI (h:-9223372036854775808<=a)(h':a<=9223372036854775807):IntKind.i64.wrap a=a:=IntWalk.i64_in _ ⟨h,h'⟩
theorem tqI (h0:0<=a)(h1:a<=9223372036854775807)(h2:0<b):IntKind.i64.wrap (a.tdiv b)=a / b:=by
 rw [Int.tdiv_eq_ediv_of_nonneg h0];have h3:=Int.ediv_nonneg h0 (Int.le_of_lt h2);have h4:=Int.ediv_le_self b h0;exact wrI D D
theorem tmI (h0:0<=a):a.tmod b=a % b:=Int.tmod_eq_emod_of_nonneg h0
end
section
variable {ops:Array Oper}{Q:Exit->Act->World->Prop}{K:Act->World->Prop}{a:Act}{w w1:World}{rest l:List Oper}{o:Oper}{d id n i:Nat}{v:Value}{c:Code}{S:World->Prop}{bf:Nat->Bool}{is:List Nat}{R:World->Prop}
theorem rD {ops:Array Oper}{c:Code}(S:World->Prop)(bf:Nat->Bool)(n:Nat)(h:WD ops (fun a w=>Q .normal a w) S bf n [] a w.drew)(hc:c=.region id ops true:=by exact rfl)(hm:Tryz.prog.follows .mixedOrders=true:=by kernel_rfl)(hn:ops.size=n:=by kernel_rfl):Code.wp Tryz.prog c Q a w:=by
 subst hc;exact dV S bf n hm hn h
theorem lv (h:WL ops Q rest (Pt a d v) w1)(hg:o.guard=none:=by exact rfl)(hd:o.dst=some d:=by exact rfl)(hrun:(execOp (Ev a) o).run Tryz.prog w=.ok (.value v) w1:=by (simp [execOp,go_sem, *];try simp (disch:=omega) only [tqI,tmI,wrI]);first | exact ⟨rfl,rfl⟩ | rfl):WL ops Q (o :: rest) a w:=l_v hg hd hrun h
theorem ls (h:WL ops Q rest a w1)(hg:o.guard=none:=by exact rfl)(hd:o.dst=none:=by exact rfl)(hrun:(execOp (Ev a) o).run Tryz.prog w=.ok .skip w1:=by simp [execOp,go_sem, *];rfl):WL ops Q (o :: rest) a w:=l_s hg hd hrun h
theorem ly {gd j:Nat}{want b:Bool}(h:WL ops Q rest (Pt a d v) w1)(hg:o.guard=some (j,want):=by exact rfl)(hj:(ops[j]?).bind (fun x=>x.dst)=some gd:=by exact rfl)(hd:o.dst=some d:=by exact rfl)(hs:gd<a.tmps.size:=by simp [*])(he:Ev a (.tmp gd)=.bool b:=by simp [*];rfl)(hb:(b == want)=true:=by exact rfl)(hrun:(execOp (Ev a) o).run Tryz.prog w=.ok (.value v) w1:=by (simp [execOp,go_sem, *];try simp (disch:=omega) only [tqI,tmI,wrI]);first | exact ⟨rfl,rfl⟩ | rfl):WL ops Q (o :: rest) a w:=aO0 d v gd hg hj hs he hb hd hrun h
theorem ln {gd j:Nat}{want b:Bool}(h:WL ops Q rest (Pt a d undef) w)(hg:o.guard=some (j,want):=by exact rfl)(hj:(ops[j]?).bind (fun x=>x.dst)=some gd:=by exact rfl)(hd:o.dst=some d:=by exact rfl)(hs:gd<a.tmps.size:=by simp [*])(he:Ev a (.tmp gd)=.bool b:=by simp [*];rfl)(hb:(b == want)=false:=by exact rfl):WL ops Q (o :: rest) a w:=aTb d gd hg hj hs he hb hd h
theorem lE (a0:Act)(L:List Nat)(d:Nat)(h:∀ a',Ag L a0 a'->Ev a' (.tmp d)=v->Q .normal a' w)(hA:Ag L a0 a:=by (repeat refine .put ?_ rfl);exact .rf)(he:Ev a (.tmp d)=v:=by simp [*];rfl):WL ops Q [] a w:=aJ (h a hA he)
theorem lE2 {v':Value}(a0:Act)(L:List Nat)(d d':Nat)(h:∀ a',Ag L a0 a'->Ev a' (.tmp d)=v->Ev a' (.tmp d')=v'->Q .normal a' w)(hA:Ag L a0 a:=by (repeat refine .put ?_ rfl);exact .rf)(he:Ev a (.tmp d)=v:=by simp [*];rfl)(he':Ev a (.tmp d')=v':=by simp [*];rfl):WL ops Q [] a w:=aJ (h a hA he he')
theorem lN (a0:Act)(L:List Nat)(h:∀ a',Ag L a0 a'->Q .normal a' w)(hA:Ag L a0 a:=by (repeat refine .put ?_ rfl);exact .rf):WL ops Q [] a w:=aJ (h a hA)
theorem lc {f:FuncId}{xs:Array Operand}{ats:Array TypeId}{fn:Func}{vs:Array Value}{R:Ending->World->Prop}(hf:Tryz.prog.funcs[f]?=some fn)(hc:Calls Tryz.prog f vs w R)(h:∀ e w',R e w'->∃ v,e=.returned v∧WL ops Q rest (Pt a d v) w')
  (hg:o.guard=none:=by exact rfl)(hd:o.dst=some d:=by exact rfl)(hop:o.op=Op.call { callee:=Callee.value (Operand.func f),args:=xs,argTypes:=ats }:=by exact rfl)(hn:(fn.name == "runtime.NumGoroutine")=false:=by rfl) (hb:fn.body.isNone=false:=by rfl) (hv:xs.map (Ev a)=vs:=by simp [*]):WL ops Q (o :: rest) a w:=l_c hg hd hop hf hn hb hc hv h
theorem lcg {gd j:Nat}{want b:Bool}{f:FuncId}{xs:Array Operand}{ats:Array TypeId}{fn:Func}{vs:Array Value}{R:Ending->World->Prop}(hf:Tryz.prog.funcs[f]?=some fn)(hc:Calls Tryz.prog f vs w R)(h:∀ e w',R e w'->∃ v,e=.returned v∧WL ops Q rest (Pt a d v) w')(hg:o.guard=some (j,want):=by exact rfl)(hj:(ops[j]?).bind (fun x=>x.dst)=some gd:=by exact rfl)(hd:o.dst=some d:=by exact rfl)(hs:gd<a.tmps.size:=by simp [*])(he:Ev a (.tmp gd)=.bool b:=by simp [*];rfl)(hb:(b == want)=true:=by exact rfl)
  (hop:o.op=Op.call { callee:=Callee.value (Operand.func f),args:=xs,argTypes:=ats }:=by exact rfl)(hn:(fn.name == "runtime.NumGoroutine")=false:=by rfl) (hbn:fn.body.isNone=false:=by rfl) (hv:xs.map (Ev a)=vs:=by simp [*]):WL ops Q (o :: rest) a w :=
 aEq d gd hg hj hs he hb hd f xs ats hop fn hf hn hbn vs hv (hc.mono h)
theorem d_E (a0:Act)(L:List Nat)(h:∀ a',Ag L a0 a'->K a' w)(hr:Region.ready .any ops (mkL ops.size is)=[]:=by kernel_rfl)(hA:Ag L a0 a:=by (repeat refine .put ?_ rfl);exact .rf):WD ops K S bf n is a w:=wO hr (h a hA)
theorem dv (i:Nat)(h:WD ops K S bf n (i :: is) (Pt a d v) w1)(hS:bf i=true->S w1:=by exact fun _=>hS)(hr:Region.ready .any ops (mkL ops.size is)=[i]:=by kernel_rfl)(hi:ops[i]?=some o:=by exact rfl)(hg:o.guard=none:=by exact rfl)(hd:o.dst=some d:=by exact rfl)(hrun:(execOp (Ev a) o).run Tryz.prog w=.ok (.value v) w1:=by (simp [execOp,go_sem, *];try simp (disch:=omega) only [tqI,tmI,wrI]);first | exact ⟨rfl,rfl⟩ | rfl):WD ops K S bf (n+1) is a w:=d_1 i hr hi hg hd hrun hS h
theorem dq (i:Nat)(h:WD ops K S bf n (i :: is) a w1)(hS:bf i=true->S w1:=by exact fun h=>absurd h ao)(hr:Region.ready .any ops (mkL ops.size is)=[i]:=by kernel_rfl)(hi:ops[i]?=some o:=by exact rfl)(hg:o.guard=none:=by exact rfl)(hd:o.dst=none:=by exact rfl)(hrun:(execOp (Ev a) o).run Tryz.prog w=.ok .skip w1:=by simp [execOp,go_sem, *];rfl):WD ops K S bf (n+1) is a w:=d_s i hr hi hg hd hrun hS h
theorem dt {N:Nat}(n:Nat)(J:List Nat)(h:WT ops S (fun a'=>WD ops K S bf n (aGr is J) a' w) J a)(hS:S w:=by exact hS)(hN:N=n+J.length:=by exact rfl)(ht:aCr ops bf is J=true:=by kernel_rfl):WD ops K S bf N is a w:=d_t n J hN ht hS h
theorem tv {K':Act->Prop}{J:List Nat}{i:Nat}(h:WT ops S K' J (Pt a d v))(hi:ops[i]?=some o:=by exact rfl)(hg:o.guard=none:=by exact rfl)(hd:o.dst=some d:=by exact rfl)(hy:∀ w,S w->(execOp (Ev a) o).run Tryz.prog w=.ok (.value v) w:=by (intro w hw;simp [execOp,go_sem, *];try simp (disch:=omega) only [tqI,tmI,wrI]);rfl):WT ops S K' (i :: J) a:=t_v hi hg hd hy h
theorem dc {f:FuncId}{xs:Array Operand}{ats:Array TypeId}{fn:Func}{vs:Array Value}{R:Ending->World->Prop}(i:Nat)(hf:Tryz.prog.funcs[f]?=some fn)(hc:Calls Tryz.prog f vs w R)(h:∀ e w',R e w'->∃ v,e=.returned v∧(bf i=true->S w')∧WD ops K S bf n (i :: is) (Pt a d v) w')
  (hr:Region.ready .any ops (mkL ops.size is)=[i]:=by kernel_rfl)(hi:ops[i]?=some o:=by exact rfl)(hg:o.guard=none:=by exact rfl)(hd:o.dst=some d:=by exact rfl)(hop:o.op=Op.call { callee:=Callee.value (Operand.func f),args:=xs,argTypes:=ats }:=by exact rfl)(hn:(fn.name == "runtime.NumGoroutine")=false:=by rfl) (hb:fn.body.isNone=false:=by rfl) (hv:xs.map (Ev a)=vs:=by simp [*]):WD ops K S bf (n+1) is a w:=aKy i d hr hi hg hd f xs ats hop fn hf hn hb vs hv (hc.mono h)
theorem da {s x:Operand}{t e:TypeId}{z:Value}{size bytes:Nat}(i:Nat)(ht:Tryz.prog.underlying t=some (.slice e))(hI:(Tryz.prog.info? e).map (fun i=>(i.zero,i.size,i.bytes))=some (some z,size,bytes))
  {base k:Nat}{v:Value}{xs:List Value} (hown:w.ownsRow base e size v k xs) {T:Nat->Prop}{A:Option Addr}{m c:Nat}{news:List Value} (hsl:Sl w T size A m news) (h63:k+m<=1000000000000) (hbytes:(k+m)*bytes<=140737488355328) (hbase:base<=w.heap.size) (h1:∀ u ∈ news,u.oneCell'=true)
  (h:∀ v' w',w'.ownsRow base e size v' (k+m) (xs ++ news)->Fr (fun k=>some k=v.ownBlock) w w'->(v'.ownBlock=v.ownBlock∨v'.ownBlock=some w.heap.size)->(bf i=true->S w')∧WD ops K S bf n (i :: is) (Pt a d v') w')
  (hr:Region.ready .any ops (mkL ops.size is)=[i]:=by kernel_rfl)(hi:ops[i]?=some o:=by exact rfl)(hg:o.guard=none:=by exact rfl)(hd:o.dst=some d:=by exact rfl)(ho:o.op=.call { callee:=.builtin .append,args:=#[s,x],argTypes:=#[t,t] }:=by exact rfl)(hzs:z.cells.size=size:=by exact rfl)(hsz:0<size:=by omega)(hs:Ev a s=v:=by simp [*])(hx:Ev a x=.slice A m c:=by (simp [*];try rfl)):WD ops K S bf (n+1) is a w:=by
 obtain ⟨i0,hi0,hz0,hz1,hz2⟩:=info_parts hI;refine aI4 i hr hi (fun K' hK=>?_);refine dM w hg s x t ho base e i0 z size bytes ht hi0 hz0 hz1 hz2 hzs hsz v k xs hs hown T A m c news hx hsl h1 h63 hbytes hbase ?_;intro v' w' q1 q2 q3;rw [hd];exact hK _ _ (h v' w' q1 q2 q3).1 (h v' w' q1 q2 q3).2
theorem la {s x:Operand}{t e:TypeId}{z:Value}{size bytes:Nat}(ht:Tryz.prog.underlying t=some (.slice e))(hI:(Tryz.prog.info? e).map (fun i=>(i.zero,i.size,i.bytes))=some (some z,size,bytes))
  {base k:Nat}{v:Value}{xs:List Value} (hown:w.ownsRow base e size v k xs) {T:Nat->Prop}{A:Option Addr}{m c:Nat}{news:List Value} (hsl:Sl w T size A m news) (h63:k+m<=1000000000000) (hbytes:(k+m)*bytes<=140737488355328) (hbase:base<=w.heap.size) (h1:∀ u ∈ news,u.oneCell'=true)
  (h:∀ v' w',w'.ownsRow base e size v' (k+m) (xs ++ news)->Fr (fun k=>some k=v.ownBlock) w w'->(v'.ownBlock=v.ownBlock∨v'.ownBlock=some w.heap.size)->WL ops Q rest (Pt a d v') w')
  (hg:o.guard=none:=by exact rfl)(hd:o.dst=some d:=by exact rfl)(ho:o.op=.call { callee:=.builtin .append,args:=#[s,x],argTypes:=#[t,t] }:=by exact rfl)(hzs:z.cells.size=size:=by exact rfl)(hsz:0<size:=by omega)(hs:Ev a s=v:=by simp [*])(hx:Ev a x=.slice A m c:=by (simp [*];try rfl)):WL ops Q (o :: rest) a w :=
 l_a hg hd ho ht hI hzs hsz hown hsl hs hx h1 h63 hbytes hbase h
end
noncomputable def R8:=RG Tryz.f8
noncomputable abbrev aC2:Code:=.seq (.seq (R8 32) (.cond (.tmp 142) .skip (.exit 5))) (.seq (.block 6 (R8 34)) (R8 33))
noncomputable abbrev aFm:Code:=.seq (.seq (R8 23) (.cond (.tmp 89) .skip (.exit 3))) (.seq (.block 4 (.seq (R8 25) (.seq (R8 26) (.seq (R8 27) (.cond (.tmp 115) (R8 28) .skip))))) (R8 24))
noncomputable abbrev aCt:Code:=.block 2 (.seq (R8 14) (.cond (.tmp 51) (R8 15) (.seq (R8 16) (.cond (.tmp 57) (.seq (R8 17) (.seq (R8 18) (.seq (R8 19) (.cond (.tmp 74) (R8 20) .skip)))) (.seq (R8 21) (.cond (.tmp 83) (.seq (R8 22) (.block 3 (.loop aFm))) (.seq (R8 29) (.cond (.tmp 129) (.seq (R8 30) (.seq (R8 31) (.block 5 (.loop aC2)))) (R8 13)))))))))
noncomputable abbrev aCq:Code:=.seq (R8 35) (.seq (R8 36) (.seq (R8 37) (.seq (R8 38) (.cond (.tmp 169) (R8 39) (R8 40)))))
noncomputable abbrev c10:Code:=.seq (.seq (R8 10) (.cond (.tmp 39) (R8 11) .skip)) (.seq (.seq (R8 12) aCt) aCq)
noncomputable abbrev aJo:Code:=.seq (.seq (R8 4) (.cond (.tmp 16) .skip (.exit 0))) (.seq (.block 1 (.seq (R8 6) (.seq (R8 7) (.seq (.seq (R8 8) (.cond (.tmp 32) (R8 9) .skip)) c10)))) (R8 5))
noncomputable abbrev aTn:Code:=.seq (R8 0) (.seq (R8 1) (.seq (R8 2) (.seq (.seq (R8 3) (.block 0 (.loop aJo))) (.seq (R8 41) .ret))))
theorem aW0:Tryz.f8.body=some aTn:=Y
structure F8 (a:Act)(vl:Value)(g2 g3 n i:Nat):Prop where
 sz:a.tmps.size=181
 df:a.defers=[]
 e0:Ev a (.tmp 0)=vl
 e2:Ev a (.tmp 2)=.pointer (some ⟨g2,0,none⟩)
 e3:Ev a (.tmp 3)=.pointer (some ⟨g3,0,none⟩)
 e4:Ev a (.tmp 4)=↑(n:Int)
 e5:Ev a (.tmp 5)=↑(i:Int)
structure G8 (a:Act)(vl:Value)(g2 g3 n i:Nat)(k:Int)(gx:Nat):Prop extends F8 a vl g2 g3 n i where
 e6:Ev a (.tmp 6)=↑k
 e7:Ev a (.tmp 7)=.pointer (some ⟨gx,0,none⟩)
section
variable {a a':Act}{vl:Value}{g2 g3 n i gx:Nat}{k:Int}{L:List Nat}
theorem F8.ag (h:F8 a vl g2 g3 n i)(g:Ag L a a')(hL:[0,2,3,4,5].all L.contains=true:=by rfl):F8 a' vl g2 g3 n i :=
 have g:=g.mono hL
 ⟨g.sz.trans h.sz,g.df.trans h.df,g.get 0 h.e0,g.get 2 h.e2,g.get 3 h.e3,g.get 4 h.e4,g.get 5 h.e5⟩
theorem G8.ag (h:G8 a vl g2 g3 n i k gx)(g:Ag L a a')(hL:[0,2,3,4,5,6,7].all L.contains=true:=by rfl):G8 a' vl g2 g3 n i k gx :=
 have g:=g.mono hL
 ⟨h.toF8.ag g,g.get 6 h.e6,g.get 7 h.e7⟩
end
theorem aWt (m:Nat)(h:m<4):∃ z:ByteArray,(#[.string ⟨#[97]⟩,.string ⟨#[98]⟩,.string ⟨#[99]⟩,.string ⟨#[100]⟩]:Array Value)[m]?=some (.string z)∧z.size<=100:=by
 rcases m with _ | _ | _ | _ | m
 ·exact ⟨⟨#[97]⟩,rfl,ao⟩
 ·exact ⟨⟨#[98]⟩,rfl,ao⟩
 ·exact ⟨⟨#[99]⟩,rfl,ao⟩
 ·exact ⟨⟨#[100]⟩,rfl,ao⟩
 ·omega
theorem aWq (m:Nat)(h:m<3):∃ z:ByteArray,(#[.string ⟨#[]⟩,.string ⟨#[80,97,105,114]⟩,.string ⟨#[]⟩]:Array Value)[m]?=some (.string z)∧z.size<=100:=by
 rcases m with _ | _ | _ | m
 ·exact ⟨⟨#[]⟩,rfl,ao⟩
 ·exact ⟨⟨#[80,97,105,114]⟩,rfl,ao⟩
 ·exact ⟨⟨#[]⟩,rfl,ao⟩
 ·omega
theorem aTe:(Tryz.prog.info? 9).map (fun i=>(i.zero,i.size,i.bytes))=some (some (.string ⟨#[]⟩),1,16):=Y
section
variable {Q:Exit->Act->World->Prop}{a:Act}{w:World}{vl:Value}{g2 g3 n i gx j c7 n7 B:Nat}{k p:Int}{A7:Option Addr}{ks:List Int}{ls:List ByteArray}{R:Int->Prop}{cs:Array Value}
theorem s34 (hG:G8 a vl g2 g3 n i k gx)(ej:Ev a (.tmp 9)=↑(j:Int))(hbx:Blk w gx 87 cs)(hbk:cs[7]?=some (.slice A7 j c7))(hgk:¬ some gx=(Value.slice A7 j c7).ownBlock)(hown:w.ownsRow B 3 1 (.slice A7 j c7) j (ks.map (Value.int .i64)))(hB:B<=w.heap.size)(hj:j<=1000)
  (hcall:Calls Tryz.prog 40 #[vl,↑i,↑j] w.drew fun e w'=>∃ n:Int,e=.returned (↑n)∧R n∧w.drew=w')
  (h:∀ nk A5 c5 w5,R nk->w5.ownsRow B 3 1 (.slice A5 (j+1) c5) (j+1) (ks.map (Value.int .i64) ++ [.int .i64 nk])->Fr (fun k=>some k=(Value.slice A7 j c7).ownBlock) (w.drew.alloc (.cells #[↑nk] 3)) w5->((Value.slice A5 (j+1) c5).ownBlock=(Value.slice A7 j c7).ownBlock∨(Value.slice A5 (j+1) c5).ownBlock=some (w.drew.alloc (.cells #[↑nk] 3)).heap.size) ->
   ∀ a',Ag [0,2,3,4,5,6,7,9] a a'->Q .normal a' (w5.setCell ⟨gx,7,none⟩ (.slice A5 (j+1) c5))):Code.wp Tryz.prog (R8 34) Q a w:=by
 obtain ⟨⟨sz,-,e0,-,-,-,e5⟩,-,e7⟩:=hG;have lx:=hbx.lt;have hS:w.drew.cell? ⟨gx,7,none⟩=some (.slice A7 j c7):=hbx.cell' 7 hbk;refine rD (fun w'=>w'.cell? ⟨gx,7,none⟩=some (.slice A7 j c7)) (fun q=>q != 9) 10 ?_;refine dt 5 [0,1,2,3,4] ?_
 iterate 5 refine tv ?_
 refine t_e ?_;refine dc 5 Tryz.func40 hcall ?_;rintro e w' ⟨nk,rfl,hnk,rfl⟩;refine ⟨_,rfl,fun _=>hS,?_⟩;refine dv 6 ?_ (fun _=>iT hS _ lx);refine da 7 Tryz.underlying22 Tryz.info3 ((hown.ext_ (Ext.refl _).drew').alloc _) (T:=fun _=>True) (Sl.new w.drew _ _ 1 1 rfl) D D aa af ?_;intro v5 w5 ho5 hf5 hb5;obtain ⟨A5,c5,rfl,-,-,-⟩:=Sl.of_own ho5;have R5:=(hbx.drew.alloc (.cells #[↑nk] 3)).fr hf5 hgk;have y7:=R5.cell' 7 hbk;have y7f:=R5.frozen 7;refine ⟨fun _=>y7,?_⟩;refine dv 8 ?_ (fun _=>y7);refine dq 9 ?_;refine d_E a [0,2,3,4,5,6,7,9] ?_;exact h nk A5 c5 w5 hnk ho5 hf5 hb5
theorem s26 (hG:G8 a vl g2 g3 n i k gx)(ej:Ev a (.tmp 8)=↑(j:Int))(hbx:Blk w gx 87 cs)(hbk:cs[7]?=some (.slice A7 j c7))(hgk:¬ some gx=(Value.slice A7 j c7).ownBlock)(hown:w.ownsRow B 3 1 (.slice A7 j c7) j (ks.map (Value.int .i64)))(hB:B<=w.heap.size)(hj:j<=1000)
  (hcall:Calls Tryz.prog 40 #[vl,↑i,↑j] w.drew fun e w'=>∃ n:Int,e=.returned (↑n)∧R n∧w.drew=w')
  (h:∀ nk A5 c5 w5,R nk->w5.ownsRow B 3 1 (.slice A5 (j+1) c5) (j+1) (ks.map (Value.int .i64) ++ [.int .i64 nk])->Fr (fun k=>some k=(Value.slice A7 j c7).ownBlock) (w.drew.alloc (.cells #[↑nk] 3)) w5->((Value.slice A5 (j+1) c5).ownBlock=(Value.slice A7 j c7).ownBlock∨(Value.slice A5 (j+1) c5).ownBlock=some (w.drew.alloc (.cells #[↑nk] 3)).heap.size) ->
   ∀ a',Ag [0,2,3,4,5,6,7,8] a a'->Q .normal a' (w5.setCell ⟨gx,7,none⟩ (.slice A5 (j+1) c5))):Code.wp Tryz.prog (R8 26) Q a w:=by
 obtain ⟨⟨sz,-,e0,-,-,-,e5⟩,-,e7⟩:=hG;have lx:=hbx.lt;have hS:w.drew.cell? ⟨gx,7,none⟩=some (.slice A7 j c7):=hbx.cell' 7 hbk;refine rD (fun w'=>w'.cell? ⟨gx,7,none⟩=some (.slice A7 j c7)) (fun q=>q != 9) 10 ?_;refine dt 5 [0,1,2,3,4] ?_
 iterate 5 refine tv ?_
 refine t_e ?_;refine dc 5 Tryz.func40 hcall ?_;rintro e w' ⟨nk,rfl,hnk,rfl⟩;refine ⟨_,rfl,fun _=>hS,?_⟩;refine dv 6 ?_ (fun _=>iT hS _ lx);refine da 7 Tryz.underlying22 Tryz.info3 ((hown.ext_ (Ext.refl _).drew').alloc _) (T:=fun _=>True) (Sl.new w.drew _ _ 1 1 rfl) D D aa af ?_;intro v5 w5 ho5 hf5 hb5;obtain ⟨A5,c5,rfl,-,-,-⟩:=Sl.of_own ho5;have R5:=(hbx.drew.alloc (.cells #[↑nk] 3)).fr hf5 hgk;have y7:=R5.cell' 7 hbk;have y7f:=R5.frozen 7;refine ⟨fun _=>y7,?_⟩;refine dv 8 ?_ (fun _=>y7);refine dq 9 ?_;refine d_E a [0,2,3,4,5,6,7,8] ?_;exact h nk A5 c5 w5 hnk ho5 hf5 hb5
theorem s25 (hG:G8 a vl g2 g3 n i k gx)(ej:Ev a (.tmp 8)=↑(j:Int))(hbx:Blk w gx 87 cs)(hbk:cs[4]?=some (.slice A7 j c7))(hgk:¬ some gx=(Value.slice A7 j c7).ownBlock)(hown:w.ownsRow B 3 1 (.slice A7 j c7) j (ks.map (Value.int .i64)))(hB:B<=w.heap.size)(hj:j<=1000)(hi:i<=1000)(hp:0<=p∧p<5)
  (hcall:Calls Tryz.prog 38 #[vl,.int .i64 ((i:Int)+(j:Int)),.int .i64 5] w.drew fun e w'=>e=.returned (↑p)∧w.drew=w')
  (h:∀ A5 c5 w5,w5.ownsRow B 3 1 (.slice A5 (j+1) c5) (j+1) (ks.map (Value.int .i64) ++ [.int .i64 (1+p)])->Fr (fun k=>some k=(Value.slice A7 j c7).ownBlock) (w.drew.alloc (.cells #[.int .i64 (1+p)] 3)) w5->((Value.slice A5 (j+1) c5).ownBlock=(Value.slice A7 j c7).ownBlock∨(Value.slice A5 (j+1) c5).ownBlock=some (w.drew.alloc (.cells #[.int .i64 (1+p)] 3)).heap.size) ->
   ∀ a',Ag [0,2,3,4,5,6,7,8] a a'->Q .normal a' (w5.setCell ⟨gx,4,none⟩ (.slice A5 (j+1) c5))):Code.wp Tryz.prog (R8 25) Q a w:=by
 obtain ⟨⟨sz,-,e0,-,-,-,e5⟩,-,e7⟩:=hG;have lx:=hbx.lt;have hS:w.drew.cell? ⟨gx,4,none⟩=some (.slice A7 j c7):=hbx.cell' 4 hbk;refine rD (fun w'=>w'.cell? ⟨gx,4,none⟩=some (.slice A7 j c7)) (fun q=>q != 11) 12 ?_;refine dt 6 [0,1,2,3,4,5] ?_
 iterate 6 refine tv ?_
 refine t_e ?_;refine dc 6 Tryz.func38 hcall ?_;rintro e w' ⟨rfl,rfl⟩;refine ⟨_,rfl,fun _=>hS,?_⟩;refine dv 7 ?_;refine dv 8 ?_ (fun _=>iT hS _ lx);refine da 9 Tryz.underlying22 Tryz.info3 ((hown.ext_ (Ext.refl _).drew').alloc _) (T:=fun _=>True) (Sl.new w.drew _ _ 1 1 rfl) D D aa af ?_;intro v5 w5 ho5 hf5 hb5;obtain ⟨A5,c5,rfl,-,-,-⟩:=Sl.of_own ho5;have R5:=(hbx.drew.alloc (.cells #[.int .i64 (1+p)] 3)).fr hf5 hgk;have y7:=R5.cell' 4 hbk;have y7f:=R5.frozen 4;refine ⟨fun _=>y7,?_⟩;refine dv 10 ?_ (fun _=>y7);refine dq 11 ?_;refine d_E a [0,2,3,4,5,6,7,8] ?_;exact h A5 c5 w5 ho5 hf5 hb5
theorem s28 (hG:G8 a vl g2 g3 n i k gx)(ej:Ev a (.tmp 8)=↑(j:Int))(hbx:Blk w gx 87 cs)(hbk:cs[5]?=some (.slice A7 n7 c7))(hgk:¬ some gx=(Value.slice A7 n7 c7).ownBlock)(hown:w.ownsRow B 9 1 (.slice A7 n7 c7) n7 (ls.map Value.string))(hB:B<=w.heap.size)(hj:j<=1000)(hn7:n7<=1000)(hk:0<=k∧k<1000000)
  (h:∀ z A5 c5 w5,z.size<=100->w5.ownsRow B 9 1 (.slice A5 (n7+1) c5) (n7+1) (ls.map Value.string ++ [.string z])->Fr (fun k=>some k=(Value.slice A7 n7 c7).ownBlock) ((w.drew.alloc (.cells #[.string ⟨#[97]⟩,.string ⟨#[98]⟩,.string ⟨#[99]⟩,.string ⟨#[100]⟩] 9)).alloc (.cells #[.string z] 9)) w5->((Value.slice A5 (n7+1) c5).ownBlock=(Value.slice A7 n7 c7).ownBlock∨(Value.slice A5 (n7+1) c5).ownBlock=some ((w.drew.alloc (.cells #[.string ⟨#[97]⟩,.string ⟨#[98]⟩,.string ⟨#[99]⟩,.string ⟨#[100]⟩] 9)).alloc (.cells #[.string z] 9)).heap.size) ->
   ∀ a',Ag [0,2,3,4,5,6,7,8] a a'->Q .normal a' (w5.setCell ⟨gx,5,none⟩ (.slice A5 (n7+1) c5))):Code.wp Tryz.prog (R8 28) Q a w:=by
 obtain ⟨⟨sz,-,-,-,-,-,-⟩,e6,e7⟩:=hG;have lx:=hbx.lt;have hS:w.drew.cell? ⟨gx,5,none⟩=some (.slice A7 n7 c7):=hbx.cell' 5 hbk;have q0:0<=((j:Int)+k / 96) % 4∧((j:Int)+k / 96) % 4<4:=by omega
 obtain ⟨z,hz,hz1⟩:=aWt (((j:Int)+k / 96) % 4).toNat D;refine rD (fun w'=>w'.cell? ⟨gx,5,none⟩=some (.slice A7 n7 c7)) (fun q=>q != 13) 14 ?_;refine dt 7 [0,1,3,4,5,6,7] ?_
 iterate 7 refine tv ?_
 refine t_e ?_;have hA:=iT hS (.cells #[.string ⟨#[97]⟩,.string ⟨#[98]⟩,.string ⟨#[99]⟩,.string ⟨#[100]⟩] 9) lx;refine dv 2 ?_ (fun _=>hA);have hz2:(w.drew.alloc (.cells #[.string ⟨#[97]⟩,.string ⟨#[98]⟩,.string ⟨#[99]⟩,.string ⟨#[100]⟩] 9)).cell? ⟨w.heap.size,(((j:Int)+k / 96) % 4).toNat,none⟩=some (.string z):=(Blk.new w.drew 9 _).cell' _ hz;refine dv 8 ?_ (fun _=>hA);refine dv 9 ?_ (fun _=>hA) (hrun:=aCm (.tmp 124) rfl O hz2);refine dv 10 ?_ (fun _=>iT hA _ aa);refine da 11 Tryz.underlying82 aTe (((hown.ext_ (Ext.refl _).drew').alloc _).alloc _) (T:=fun _=>True) (Sl.new _ _ _ 1 1 rfl) D D aa af ?_;intro v5 w5 ho5 hf5 hb5;obtain ⟨A5,c5,rfl,-,-,-⟩:=Sl.of_own ho5;have R5:=((hbx.drew.alloc (.cells #[.string ⟨#[97]⟩,.string ⟨#[98]⟩,.string ⟨#[99]⟩,.string ⟨#[100]⟩] 9)).alloc (.cells #[.string z] 9)).fr hf5 hgk;have y7:=R5.cell' 5 hbk;have y7f:=R5.frozen 5;refine ⟨fun _=>y7,?_⟩;refine dv 12 ?_ (fun _=>y7);refine dq 13 ?_;refine d_E a [0,2,3,4,5,6,7,8] ?_;exact h z A5 c5 w5 hz1 ho5 hf5 hb5
end
def PN (vl:Value)(g2 g3 n i:Nat)(k:Int)(gx:Nat)(Pn:Nat->Prop)(w0:World):Exit->Act->World->Prop:=fun e a w=>e=.normal∧G8 a vl g2 g3 n i k gx∧wY gx Pn w0 w
theorem mW {P:Program}{c:Code}{id:Nat}{R Q:Exit->Act->World->Prop}{a:Act}{w:World}(h:Code.wp P c R a w)(hR:∀ e a w,R e a w->e=.normal)(hq:∀ a w,R .normal a w->Q .normal a w):Code.wp P c (Exit.inBlock id Q) a w :=
 wp_mono h (fun e a w r=>by have:=hR e a w r;subst this;exact hq a w r)
section
variable {a:Act}{w:World}{l:List Int}{Ql:Nat->Prop}{vl:Value}{g2 g3 n i gx:Nat}{k:Int}{w0:World}{name:ByteArray}{Pn:Nat->Prop}
theorem aYf (hG:G8 a vl g2 g3 n i k gx)(e9:Ev a (.tmp 9)=.int .i64 ((0:Nat):Int))(hk:0<=k∧k<1000000)(hi:1<=i)(hi2:i<=1000)(hl:bM w0 Ql vl l)(hnm:name.size<=100)
  (hst:mB gx w0.heap.size 3 name (.slice none 0 0) (.slice none 0 0) (.slice none 0 0) [] [] [] w0 w)(hgx:w0.heap.size<=gx)(hP:∀ b,w0.heap.size<=b->Pn b):Code.wp Tryz.prog (.block 5 (.loop aC2)) (PN vl g2 g3 n i k gx Pn w0) a w:=by
 obtain ⟨m,hm⟩:∃ m:Nat,k / 24 % 4=(m:Int):=⟨(k / 24 % 4).toNat,D⟩;have hm3:m<=3:=by omega
 refine wp_block (wp_loop (fun a' w'=>∃ (j:Nat) (kv:Value) (ks:List Int),G8 a' vl g2 g3 n i k gx∧j<=m∧Ev a' (.tmp 9)=↑(j:Int)∧ks.length=j∧mB gx w0.heap.size 3 name (.slice none 0 0) (.slice none 0 0) kv [] [] ks w0 w') (fun a' _=>m - (intOf (Ev a' (.tmp 9))).toNat) ⟨0,_,[],hG,Nat.zero_le _,e9,rfl,hst⟩ ?_);clear hG e9 hst;rintro a w ⟨j,kv,ks,hG,hj,e9,hkl,hst⟩;obtain ⟨A7,c7,rfl,-,-,-⟩:=Sl.of_own hst.ko;rw [hkl] at hst;have hsw:=hst.ext.size;have sz:=hG.sz;have e6:=hG.e6;refine wp_seq (wp_seq (rW ?_))
 iterate 5 refine lv ?_
 refine lE a [0,2,3,4,5,6,7,9] 142 ?_;intro a1 g1 e142;have hG1:=hG.ag g1
 by_cases hjm:j<m
 ·refine wp_cond_true (e142.trans aa) (wp_skip ?_)
  refine wp_seq (wp_block (s34 (R:=fun n=>0<=n∧n<(i:Int)) hG1 (g1.get 9 e9) hst.box rfl hst.gk (hst.ko.len_cast hkl rfl) D D (tB l i j Ql _ w.drew (hl.ext (hst.ext.trans' (Ext.refl w).drew')) D D D) ?_));intro nk A5 c5 w5 hnk ho5 hf5 hb5 a2 g2;have f9:=g2.get 9 (g1.get 9 e9);have sz2:=(hG1.ag g2).sz;refine rW ?_
  iterate 3 refine lv ?_
  refine lE a2 [0,2,3,4,5,6,7] 9 ?_;intro a3 g3 f9';refine ⟨⟨j+1,_,ks ++ [nk],(hG1.ag g2).ag g3,hjm,f9',by rw [List.length_append,hkl];rfl,(hst.ext_ ((Ext.refl w).drew'.alloc' _)).kid ak hgx (ho5.len_cast (by rw [hkl]) rfl) hf5 (hb5.elim .inl (fun h=>.inr ⟨_,h,Nat.le_refl _⟩))⟩,?_⟩;rw [f9',e9];simp [intOf];omega
 ·obtain rfl:j=m:=by omega
  refine wp_cond_false (e142.trans U) (wp_exit ?_);exact ⟨rfl,hG1,hst.node hP aj hnm U U (by rw [hkl];omega) (fun _=>by rw [hkl];omega)⟩
theorem aY7 (hG:G8 a vl g2 g3 n i k gx)(e8:Ev a (.tmp 8)=.int .i64 ((0:Nat):Int))(hk:0<=k∧k<1000000)(hi:1<=i)(hi2:i<=1000)(hl:bM w0 Ql vl l)
  (hst:mB gx w0.heap.size 2 ⟨#[]⟩ (.slice none 0 0) (.slice none 0 0) (.slice none 0 0) [] [] [] w0 w)(hgx:w0.heap.size<=gx)(hP:∀ b,w0.heap.size<=b->Pn b):Code.wp Tryz.prog (.block 3 (.loop aFm)) (PN vl g2 g3 n i k gx Pn w0) a w:=by
 obtain ⟨m,hm⟩:∃ m:Nat,k / 8 % 4=(m:Int):=⟨(k / 8 % 4).toNat,D⟩;have hm3:m<=3:=by omega
 refine wp_block (wp_loop (fun a' w'=>∃ (j:Nat) (wv lv kv:Value) (ws:List Int) (ls:List ByteArray) (ks:List Int),G8 a' vl g2 g3 n i k gx∧j<=m+1∧Ev a' (.tmp 8)=↑(j:Int)∧ws.length=j∧ks.length=j∧ls.length<=j∧mB gx w0.heap.size 2 ⟨#[]⟩ wv lv kv ws ls ks w0 w') (fun a' _=>m+1 - (intOf (Ev a' (.tmp 8))).toNat) ⟨0,_,_,_,[],[],[],hG,Nat.zero_le _,e8,rfl,rfl,Nat.zero_le _,hst⟩ ?_);clear hG e8 hst;rintro a w ⟨j,wv,lv_,kv,ws,ls,ks,hG,hj,e8,hwl,hkl,hll,hst⟩;obtain ⟨A4,c4,rfl,-,-,-⟩:=Sl.of_own hst.wo;obtain ⟨A5,c5,rfl,-,-,-⟩:=Sl.of_own hst.lo;obtain ⟨A7,c7,rfl,-,-,-⟩:=Sl.of_own hst.ko;rw [hwl,hkl] at hst;have hsw:=hst.ext.size;have sz:=hG.sz;have e6:=hG.e6;refine wp_seq (wp_seq (rW ?_))
 iterate 5 refine lv ?_
 refine lE a [0,2,3,4,5,6,7,8] 89 ?_;intro a1 u1 e89;have hG1:=hG.ag u1
 by_cases hjm:j<=m
 ·refine wp_cond_true (e89.trans aa) (wp_skip ?_)
  have hpp:=jV (l:=l) (i:=(i:Int)+(j:Int)) (m:=5) D;have hpk:=jW l ((i:Int)+(j:Int)) 5 Ql _ w.drew (hl.ext (hst.ext.trans' (Ext.refl w).drew')) ak D D;generalize pick l ((i:Int)+(j:Int)) 5=p at *;refine wp_seq (wp_block (wp_seq (s25 hG1 (u1.get 8 e8) hst.box rfl hst.gw (hst.wo.len_cast hwl rfl) D D D hpp hpk ?_)));intro A8 c8 w8 ho8 hf8 hb8 a2 u2;have st1:=(hst.ext_ ((Ext.refl w).drew'.alloc' _)).weight (z:=1+p) ak hgx (ho8.len_cast (by rw [hwl]) rfl) hf8 (hb8.elim .inl (fun h=>.inr ⟨_,h,Nat.le_refl _⟩));refine wp_seq ?_;generalize w8.setCell ⟨gx,4,none⟩ (.slice A8 (j+1) c8)=wy at *;have hs1:=st1.ext.size;have hG2:=hG1.ag u2;have f8:=u2.get 8 (u1.get 8 e8);refine s26 (R:=fun n=>0<=n∧n<(i:Int)) hG2 f8 st1.box rfl st1.gk (st1.ko.len_cast hkl rfl) D D (tB l i j Ql _ wy.drew (hl.ext (st1.ext.trans' (Ext.refl wy).drew')) D D D) ?_;intro nk A9 c9 w9 hnk ho9 hf9 hb9 a3 u3;have st2:=(st1.ext_ ((Ext.refl wy).drew'.alloc' _)).kid (z:=nk) ak hgx (ho9.len_cast (by rw [hkl]) rfl) hf9 (hb9.elim .inl (fun h=>.inr ⟨_,h,Nat.le_refl _⟩));refine wp_seq (rW ?_)
  generalize w9.setCell ⟨gx,7,none⟩ (.slice A9 (j+1) c9)=wz at *;have hs2:=st2.ext.size;have hG3:=hG2.ag u3;have f6:=hG3.e6;have sz3:=hG3.sz;have q8:=u3.get 8 f8
  iterate 4 refine lv ?_
  refine lE a3 [0,2,3,4,5,6,7,8] 115 ?_;intro a4 u4 e115;have hG4:=hG3.ag u4;have r8:=u4.get 8 q8
  have fin:∀ (a5:Act) (w5:World) (lv5:Value) (ls5:List ByteArray),Ag [0,2,3,4,5,6,7,8] a4 a5->ls5.length<=j+1->mB gx w0.heap.size 2 ⟨#[]⟩ (.slice A8 (j+1) c8) lv5 (.slice A9 (j+1) c9) (ws ++ [1+p]) ls5 (ks ++ [nk]) w0 w5->Code.wp Tryz.prog (R8 24) (fun e a' w'=>e=.normal∧(∃ (j:Nat) (wv lv kv:Value) (ws:List Int) (ls:List ByteArray) (ks:List Int),G8 a' vl g2 g3 n i k gx∧j<=m+1∧Ev a' (.tmp 8)=↑(j:Int)∧ws.length=j∧ks.length=j∧ls.length<=j∧mB gx w0.heap.size 2 ⟨#[]⟩ wv lv kv ws ls ks w0 w')∧Ev a' (.tmp 8)=.int .i64 ((j+1:Nat):Int)) a5 w5:=by
   intro a5 w5 lv5 ls5 u5 hl5 h5;have f8:=u5.get 8 r8;have sz5:=(hG4.ag u5).sz;refine rW ?_
   iterate 3 refine lv ?_
   refine lE a5 [0,2,3,4,5,6,7] 8 ?_;intro a6 u6 f8';exact ⟨rfl,⟨j+1,_,_,_,_,_,_,(hG4.ag u5).ag u6,D,f8',by rw [List.length_append,hwl];rfl,by rw [List.length_append,hkl];rfl,hl5,h5⟩,f8'⟩
  by_cases hq:0<k / 32 % 3
  ·refine wp_cond_true (e115.trans aa) ?_
   refine s28 hG4 r8 st2.box rfl st2.gl st2.lo D D D hk ?_;intro z A6 c6 w6 hz ho6 hf6 hb6 a5 u5;refine wp_mono (fin a5 _ _ (ls ++ [z]) u5 (by rw [List.length_append];simp;omega) ((st2.ext_ (((Ext.refl wz).drew'.alloc' _).alloc' _)).label (z:=z) hz hgx ho6 hf6 (hb6.elim .inl (fun h=>.inr ⟨_,h,Nat.le_refl _⟩)))) ?_;rintro e a' w' ⟨rfl,h,h8⟩;refine ⟨h,?_⟩;rw [h8,e8];simp [intOf];omega
  ·refine wp_cond_false (e115.trans aa) (wp_skip ?_)
   refine wp_mono (fin a4 _ _ ls .rf D st2) ?_;rintro e a' w' ⟨rfl,h,h8⟩;refine ⟨h,?_⟩;rw [h8,e8];simp [intOf];omega
 ·obtain rfl:j=m+1:=by omega
  refine wp_cond_false (e89.trans U) (wp_exit ?_);exact ⟨rfl,hG1,hst.node hP aj ao (by rw [hwl];omega) D (by rw [hkl];omega) (fun h=>by omega)⟩
theorem qY {lo hi:Int}(h1:-10<=lo∧lo<=10)(h2:-10<=hi∧hi<=1000000000)(hb:Blk w gx 87 #[.int .i64 1,.string ⟨#[]⟩,↑lo,↑hi,.slice none 0 0,.slice none 0 0,.slice none 0 0,.slice none 0 0,.int .i64 0,.int .i64 0,.string ⟨#[]⟩,.slice none 0 0])(hE:Ext w0 w):wY gx Pn w0 w:=by
 refine ⟨⟨1,⟨#[]⟩,lo,hi,[],[],[],[],.mk 0 0 ⟨#[]⟩ []⟩,⟨none,0,none,0,none,0,none,0,none,0⟩,hb,⟨aj,bo,?_,?_,bM.nil,jT.nil,bW.nil,bM.nil,VAt.noKids aj aj ao⟩,⟨U,U,U,U,cu,U⟩,U,hE⟩
 ·simp only [I64];omega
 ·simp only [I64];omega
structure K8 (w0 w:World)(gx:Nat)(cs:Array Value):Prop where
 bx:Blk w gx 87 cs
 x0:Ext w0 w
 gx0:gx=w0.heap.size
 s0:w.heap.size=w0.heap.size+1
theorem K8.set {cs:Array Value}(h:K8 w0 w gx cs)(i:Nat)(z:Value):K8 w0 (w.setCell ⟨gx,i,none⟩ z) gx (cs.setIfInBounds i z) :=
 ⟨h.bx.set_ i z,h.x0.setCell' (p:=⟨gx,i,none⟩) (by have:=h.gx0;show w0.heap.size<=gx;omega) _,h.gx0,by have:=h.s0;simp [World.setCell];omega⟩
@[simp] def k8 (kk:Int):Array Value:=#[↑kk,.string ⟨#[]⟩,.int .i64 0,.int .i64 0,.slice none 0 0,.slice none 0 0,.slice none 0 0,.slice none 0 0,.int .i64 0,.int .i64 0,.string ⟨#[]⟩,.slice none 0 0]
theorem sw8 {kk:Int}{W0:Nat}{A3:Option Addr}{c3:Nat}{t:List GN}{xs:List Value}(hG:G8 a vl g2 g3 n i k gx)(e45:Ev a (.tmp 45)=↑kk)(hkk:0<=kk∧kk<=4)(hk2:2<=kk->2<=i)(hk:0<=k∧k<1000000)(hi2:i<=100)(hl:bM w0 Ql vl l)
  (hK:K8 w0 w gx (k8 kk))(hW0:W0<=w0.heap.size)(htl:t.length=i)(hgen:fL t)(hb3:Blk w0 g3 25 #[.slice A3 i c3])(hown:w0.ownsRow W0 87 12 (.slice A3 i c3) i xs)(hr:RL (RN w0 (aGf W0 w0 (.slice A3 i c3))) t xs) :
  Code.wp Tryz.prog aCt (PN vl g2 g3 n i k gx (fun b=>W0<=b) w0) a w:=by
 have hgl:w0.heap.size<=gx:=by have:=hK.gx0;omega
 have hs0:=hK.s0;have hbx:=hK.bx;have hx0:=hK.x0;have sz:=hG.sz;refine wp_block (wp_seq (rW ?_))
 iterate 2 refine lv ?_
 refine lE a [0,2,3,4,5,6,7,45] 51 ?_;intro a1 u1 e51
 replace hG:=hG.ag u1
 replace e45:=u1.get 45 e45
 clear sz;have e6:=hG.e6;have e7:=hG.e7;have sz:=hG.sz
 by_cases h0:kk=0
 ·subst h0
  refine wp_cond_true (e51.trans U) (rW ?_)
  iterate 2 refine lv ?_
  refine lc Tryz.func39 (zX (k / 8) w D D) ?_;rintro e w2 ⟨y,A,c,rfl,hy,hg2,hx2⟩;refine ⟨_,rfl,?_⟩;refine lv ?_;have hc:=(hbx.ext hx2).cell;have hf:=(hbx.ext hx2).frozen;refine ls (w1:=w2.setCells gx 8 [.int .i64 y.kind,.int .i64 y.n,.string y.s,.slice A y.kids.length c]) ?_ rfl rfl (by simp [execOp,go_sem,dS,hc,hf,k8,sz,World.setCells]);refine lN a1 [0,2,3,4,5,6,7] ?_;intro a2 u2;have hfin:=aO [.int .i64 y.kind,.int .i64 y.n,.string y.s,.slice A y.kids.length c] 8 (hbx.ext hx2) (by simp [k8]);have hE:Ext w0 (w2.setCells gx 8 [.int .i64 y.kind,.int .i64 y.n,.string y.s,.slice A y.kids.length c]):=((Fr.of_ext (M:=fun _=>False) (hx0.trans' hx2)).setCells _ 8 (.inr hgl)).ext;have hz:w2.heap.size<=(w2.setCells gx 8 [.int .i64 y.kind,.int .i64 y.n,.string y.s,.slice A y.kids.length c]).heap.size:=by simp [World.setCells,World.setCell]
  have hV:=hy.carry (Q:=fun b=>W0<=b∧b<(w2.setCells gx 8 [.int .i64 y.kind,.int .i64 y.n,.string y.s,.slice A y.kids.length c]).heap.size∧b ≠ gx) (aB.setCells (Q:=fun b=>w.heap.size<=b) (by show ¬ w.heap.size<=gx;have:=hbx.lt;omega) [.int .i64 y.kind,.int .i64 y.n,.string y.s,.slice A y.kids.length c] 8 (fun _ _ _=>rfl)) (fun b hb h=>⟨D,D,by have:=hbx.lt;omega⟩);exact ⟨rfl,hG.ag u2,aEp (B:=W0) hfin hE hg2 hW0 hV⟩
 refine wp_cond_false (e51.trans (by simp [h0])) (wp_seq (rW ?_))
 iterate 2 refine lv ?_
 refine lE a1 [0,2,3,4,5,6,7,45] 57 ?_;intro a2 u2 e57
 replace hG:=hG.ag u2
 replace e45:=u2.get 45 e45
 clear e6 e7 sz;have e6:=hG.e6;have e7:=hG.e7;have sz:=hG.sz
 by_cases h1:kk=1
 ·subst h1
  refine wp_cond_true (e57.trans U) (wp_seq (rW ?_));have hc:=hbx.cell;have hf:=hbx.frozen
  iterate 5 refine lv ?_
  refine ls ?_ rfl rfl (by simp [execOp,go_sem,hc,hf,k8,sz];rfl);refine lN a2 [0,2,3,4,5,6,7] ?_;intro a3 u3
  replace hG:=hG.ag u3
  have hK1:=hK.set 2 (.int .i64 (k / 8 % 7 - 3));refine wp_seq (rW ?_);generalize w.setCell ⟨gx,2,none⟩ (.int .i64 (k / 8 % 7 - 3))=w1 at *;clear e6 e7 sz hc hf;have e6:=hG.e6;have e7:=hG.e7;have sz:=hG.sz;have hc:=hK1.bx.cell;have hf:=hK1.bx.frozen
  iterate 7 refine lv ?_ rfl rfl (by (simp [execOp,go_sem,hc,hf,k8, *];try simp (disch:=omega) only [tqI,tmI,wrI]);first | exact ⟨rfl,rfl⟩ | rfl)
  refine ls ?_ rfl rfl (by simp [execOp,go_sem,hc,hf,k8,sz];rfl);refine lN a3 [0,2,3,4,5,6,7] ?_;intro a4 u4
  replace hG:=hG.ag u4
  have hK2:=hK1.set 3 (.int .i64 (k / 8 % 7 - 3+k / 56 % 5));refine wp_seq (rW ?_);generalize w1.setCell ⟨gx,3,none⟩ (.int .i64 (k / 8 % 7 - 3+k / 56 % 5))=w2 at *;clear e6 e7 sz hc hf;have e6:=hG.e6;have e7:=hG.e7;have sz:=hG.sz;have hc:=hK2.bx.cell;have hf:=hK2.bx.frozen
  iterate 4 refine lv ?_
  refine lE a4 [0,2,3,4,5,6,7] 74 ?_;intro a5 u5 e74
  replace hG:=hG.ag u5
  by_cases hz:k / 280 % 19=0
  ·refine wp_cond_true (e74.trans (by simp [hz])) (rW ?_)
   clear e6 e7 sz;have e6:=hG.e6;have e7:=hG.e7;have sz:=hG.sz
   iterate 8 refine lv ?_ rfl rfl (by (simp [execOp,go_sem,hc,hf,k8, *];try simp (disch:=omega) only [tqI,tmI,wrI]);first | exact ⟨rfl,rfl⟩ | rfl)
   refine ls ?_ rfl rfl (by simp [execOp,go_sem,hc,hf,k8,sz];rfl);refine lN a5 [0,2,3,4,5,6,7] ?_;intro a6 u6;have hK3:=hK2.set 3 (.int .i64 (k / 8 % 7 - 3+1000000*(k % 90+1)));exact ⟨rfl,hG.ag u6,qY D D hK3.bx hK3.x0⟩
  ·refine wp_cond_false (e74.trans (by simp [hz])) (wp_skip ?_)
   exact ⟨rfl,hG,qY D D hK2.bx hK2.x0⟩
 refine wp_cond_false (e57.trans (by simp [h1])) (wp_seq (rW ?_))
 iterate 2 refine lv ?_
 refine lE a2 [0,2,3,4,5,6,7,45] 83 ?_;intro a3 u3 e83
 replace hG:=hG.ag u3
 replace e45:=u3.get 45 e45
 clear e6 e7 sz;have sz:=hG.sz
 by_cases h2:kk=2
 ·subst h2
  have hi:=hk2 D;refine wp_cond_true (e83.trans U) (wp_seq (rW ?_));refine lv ?_;refine lE a3 [0,2,3,4,5,6,7] 8 ?_;intro a4 u4 e8;exact mW (aY7 (hG.ag u4) e8 hk D D hl (mB.start hbx hx0 (Nat.le_refl _)) hgl (fun b hb=>by omega)) (fun _ _ _ h=>h.1) (fun _ _ h=>h)
 refine wp_cond_false (e83.trans (by simp [h2])) (wp_seq (rW ?_))
 iterate 2 refine lv ?_
 refine lE a3 [0,2,3,4,5,6,7] 129 ?_;intro a4 u4 e129
 replace hG:=hG.ag u4
 clear sz;have e6:=hG.e6;have e7:=hG.e7;have sz:=hG.sz
 by_cases h3:kk=3
 ·subst h3
  have hi:=hk2 D;have q0:0<=k / 8 % 3∧k / 8 % 3<3:=by omega
  obtain ⟨z,hz,hz1⟩:=aWq (k / 8 % 3).toNat D;refine wp_cond_true (e129.trans U) (wp_seq (rW ?_))
  iterate 5 refine lv ?_
  have hz2:(w.alloc (.cells #[.string ⟨#[]⟩,.string ⟨#[80,97,105,114]⟩,.string ⟨#[]⟩] 9)).cell? ⟨w.heap.size,(k / 8 % 3).toNat,none⟩=some (.string z):=(Blk.new w 9 _).cell' _ hz;refine lv ?_ (hrun:=aCm (.tmp 135) rfl O hz2);have hc:=(hbx.alloc (.cells #[.string ⟨#[]⟩,.string ⟨#[80,97,105,114]⟩,.string ⟨#[]⟩] 9)).cell;have hf:=(hbx.alloc (.cells #[.string ⟨#[]⟩,.string ⟨#[80,97,105,114]⟩,.string ⟨#[]⟩] 9)).frozen;have b1:=(hbx.alloc (.cells #[.string ⟨#[]⟩,.string ⟨#[80,97,105,114]⟩,.string ⟨#[]⟩] 9)).set_ 1 (.string z);have x1:=(hx0.alloc' (.cells #[.string ⟨#[]⟩,.string ⟨#[80,97,105,114]⟩,.string ⟨#[]⟩] 9)).setCell' (p:=⟨gx,1,none⟩) hgl (.string z);generalize w.alloc (.cells #[.string ⟨#[]⟩,.string ⟨#[80,97,105,114]⟩,.string ⟨#[]⟩] 9)=w1 at *;refine lv ?_;refine ls ?_ rfl rfl (by simp [execOp,go_sem,hc,hf,k8,sz];rfl);refine lN a4 [0,2,3,4,5,6,7] ?_;intro a5 u5
  replace hG:=hG.ag u5
  refine wp_seq (rW ?_);have sz5:=hG.sz;refine lv ?_;refine lE a5 [0,2,3,4,5,6,7] 9 ?_;intro a6 u6 e9;exact mW (aYf (hG.ag u6) e9 hk D D hl hz1 (mB.start b1 x1 (Nat.le_refl _)) hgl (fun b hb=>by omega)) (fun _ _ _ h=>h.1) (fun _ _ h=>h)
 obtain rfl:kk=4:=D
 have hi:=hk2 D;have hnd:Nds w (fun b=>W0<=b∧b<w0.heap.size) (.slice A3 i c3) t:=Lst.of_own ((hown.ext_ hx0).len_cast htl.symm rfl) (hr.move pO (aB.of_ext hx0) (fun b hb h=>⟨h.1,h.2.1⟩)) (by rw [htl];omega) (fun b hb=>⟨hown.block_ge hb,hown.block_lt hb⟩);have hB:=aJe t l k (fun b=>W0<=b∧b<w0.heap.size) Ql (.slice A3 i c3) vl w hgen D D D D (fun b hb=>by omega) hnd (hl.ext hx0);rw [htl] at hB;refine wp_cond_false (e129.trans U) (rW ?_);have e0:=hG.e0;have e3:=hG.e3;have e5:=hG.e5;have c3':=(hb3.ext hx0).cell' 0 rfl
 iterate 4 refine lv ?_
 refine lc Tryz.func41 hB ?_;rintro e w2 ⟨x,na,rfl,hx1,hsm,hk3,hx2⟩;refine ⟨_,rfl,?_⟩;have hc:=(hbx.ext hx2).cell;have hf:=(hbx.ext hx2).frozen;refine ls (w1:=w2.setCells gx 0 (aE x na)) ?_ rfl rfl (by simp [execOp,go_sem,fF,aE,hc,hf,k8,sz,e7,World.setCells]);refine lN a4 [0,2,3,4,5,6,7] ?_;intro a5 u5;have hfin:=aO (aE x na) 0 (hbx.ext hx2) (by simp [aE,k8]);have hE:Ext w0 (w2.setCells gx 0 (aE x na)):=((Fr.of_ext (M:=fun _=>False) (hx0.trans' hx2)).setCells _ 0 (.inr hgl)).ext;have hz:w2.heap.size<=(w2.setCells gx 0 (aE x na)).heap.size:=by simp [World.setCells,World.setCell,aE]
 have hs2:=hx2.size;have hg0:=hK.gx0;have hnew:¬ New (fun b=>W0<=b∧b<w0.heap.size) w.heap.size gx:=by rintro (h | h) <;> omega
 have hN:NAt (w2.setCells gx 0 (aE x na)) (fun b=>W0<=b∧b<(w2.setCells gx 0 (aE x na)).heap.size∧b ≠ gx) x na:=hx1.carry (aB.setCells hnew _ 0 (fun _ _ _=>rfl)) (fun b hb h=>by
  rcases h with h | h
  ·exact ⟨h.1,D,D⟩
  ·exact ⟨D,D,D⟩)
 exact ⟨rfl,hG.ag u5,x,na,hfin,hN,hsm,fun h=>absurd h hk3,hE⟩
def PT (vl:Value)(g2 g3 n i:Nat)(W:World):Exit->Act->World->Prop:=fun e a w=>e=.normal∧F8 a vl g2 g3 n i∧kW n g3 W (.int .i64 ((i:Int)+1)) w
theorem aOr {base base':Nat}{e:TypeId}{size:Nat}{v:Value}{n:Nat}{xs:List Value}(h:w.ownsRow base e size v n xs)(hb:base'<=base):w.ownsRow base' e size v n xs:=by
 refine ⟨h.1,?_⟩;rcases h.2 with h3 | ⟨G,cap,cur,h4,h5,h6⟩
 ·exact .inl h3
 ·exact .inr ⟨G,cap,cur,h4,D,h6⟩
theorem vN (x:GN)(na:NA):∀ u ∈ aE x na,u.oneCell'=true:=by
 intro u hu;simp only [aE,List.mem_cons,List.not_mem_nil,or_false] at hu;rcases hu with rfl | rfl | rfl | rfl | rfl | rfl | rfl | rfl | rfl | rfl | rfl | rfl <;> rfl
theorem tl8 {W:World}{A3:Option Addr}{c3:Nat}{t:List GN}{xs:List Value}(hG:G8 a vl g2 g3 n i k gx)(hk:0<=k∧k<1000000)(hin:i<n)(hn:n<=14)(hg3:g3<W.heap.size)(hF:Fr (fun b=>b=g3) W w0)
  (htl:t.length=i)(hgen:fL t)(hb3:Blk w0 g3 25 #[.slice A3 i c3])(hown:w0.ownsRow W.heap.size 87 12 (.slice A3 i c3) i xs)(hr:RL (RN w0 (aGf W.heap.size w0 (.slice A3 i c3))) t xs)(hgx:w0.heap.size<=gx)
  (hst:wY gx (fun b=>W.heap.size<=b) w0 w):Code.wp Tryz.prog aCq (PT vl g2 g3 n i W) a w:=by
 obtain ⟨x,na,hbx,hN,hsm,hk3,hE⟩:=hst;have hs0:=hE.size;have hsW:=hF.size;have sz:=hG.sz;refine wp_seq (rW ?_);have B5:=Blk.new w 25 #[.slice none 0 0];have x5:Ext w (w.alloc (.cells #[.slice none 0 0] 25)):=(Ext.refl w).alloc' _;have s5:(w.alloc (.cells #[.slice none 0 0] 25)).heap.size=w.heap.size+1:=by simp
 iterate 2 refine lv ?_
 generalize w.alloc (.cells #[.slice none 0 0] 25)=w5 at *;refine ls ?_ rfl rfl (by simp [execOp,go_sem,B5.cell,B5.frozen,sz];rfl);refine lE a [0,2,3,4,5,6,7] 10 ?_;intro a1 u1 e10
 replace hG:=hG.ag u1
 have b5:=B5.set_ 0 (.slice none 0 0)
 replace x5:Ext w (w5.setCell ⟨w.heap.size,0,none⟩ (.slice none 0 0)):=x5.setCell' (p:=⟨w.heap.size,0,none⟩) (Nat.le_refl _) _
 replace s5:(w5.setCell ⟨w.heap.size,0,none⟩ (.slice none 0 0)).heap.size=w.heap.size+1:=by simpa [World.setCell] using s5
 refine wp_seq (rW ?_);generalize w5.setCell ⟨w.heap.size,0,none⟩ (.slice none 0 0)=W5 at *
 have hsl:Sl W5 (fun _=>True) 12 A3 i xs:=by
  obtain ⟨A',c',e',-,-,h3⟩:=Sl.of_own (hown.ext_ (hE.trans' x5));injection e' with e1 e2 e3;subst e1;exact h3 _ (fun _ _=>trivial)
 have e3:=hG.e3;clear sz;have sz:=hG.sz;have c10:=b5.cell' 0 rfl;have c3':=(hb3.ext (hE.trans' x5)).cell' 0 rfl
 iterate 4 refine lv ?_
 refine la Tryz.underlying23 Tryz.info87 (aT W5 W5.heap.size 87 12) hsl D D (Nat.le_refl _) (RN.one hr) ?_;rw [Nat.zero_add,List.nil_append];intro v5 w5 ho5 hf5 _;obtain ⟨A5,c5,rfl,-,-,-⟩:=Sl.of_own ho5;have hx5:Ext W5 w5:=hf5.new_ext (fun b hb=>by simp [Value.ownBlock] at hb);refine lv ?_;have b5':=b5.ext hx5;refine ls ?_ rfl rfl (by simp [execOp,go_sem,b5'.cell,b5'.frozen,sz];rfl);refine lE a1 [0,2,3,4,5,6,7] 10 ?_;intro a2 u2 f10
 replace hG:=hG.ag u2
 have ne5:some w.heap.size ≠ (Value.slice A5 i c5).ownBlock:=fun e=>by have:=ho5.block_ge e.symm;omega
 have b6:=b5'.set_ 0 (.slice A5 i c5);have x6:Ext w (w5.setCell ⟨w.heap.size,0,none⟩ (.slice A5 i c5)):=(x5.trans' hx5).setCell' (p:=⟨w.heap.size,0,none⟩) (Nat.le_refl _) _;have o6:=eV ho5 (p:=⟨w.heap.size,0,none⟩) ne5 (.slice A5 i c5);have s6:W5.heap.size<=(w5.setCell ⟨w.heap.size,0,none⟩ (.slice A5 i c5)).heap.size:=by have:=hx5.size;simp [World.setCell];omega
 refine wp_seq (rW ?_);generalize w5.setCell ⟨w.heap.size,0,none⟩ (.slice A5 i c5)=W6 at *;clear e3 c10 c3' sz e10;have e7:=hG.e7;have sz:=hG.sz;have d10:=b6.cell' 0 rfl;have hcx:=(hbx.ext x6).cell
 iterate 2 refine lv ?_
 refine lv (v:=fF x na) (w1:=W6) ?_ rfl rfl (by simp [execOp,go_sem,hcx,aE,fF, *]);refine lv (w1:=W6.alloc (.cells (aE x na).toArray 87)) (v:=.slice (some ⟨W6.heap.size,0,none⟩) 1 1) ?_ rfl rfl (by simp [execOp,go_sem,aE,fF, *]);refine la Tryz.underlying23 Tryz.info87 (o6.alloc _) (T:=fun _=>True) (Sl.new _ _ _ 1 12 rfl) D D aa (vN x na) ?_;intro v6 w6 ho6 hf6 _;obtain ⟨A6,c6,rfl,-,-,-⟩:=Sl.of_own ho6;have ne6:some w.heap.size ≠ (Value.slice A6 (i+1) c6).ownBlock:=fun e=>by have:=ho6.block_ge e.symm;omega
 have b7':=(b6.alloc (.cells (aE x na).toArray 87)).fr hf6 (fun e=>ne5 e);refine lv ?_;refine ls ?_ rfl rfl (by simp [execOp,go_sem,b7'.cell,b7'.frozen,sz];rfl);refine lE a2 [0,2,3,4,5,6,7] 10 ?_;intro a3 u3 g10
 replace hG:=hG.ag u3
 have x7':Ext w w6:=Fr.new_ext ((Fr.of_ext (x6.alloc' _)).trans hf6) (fun b hb=>by have:=o6.block_ge hb.symm;omega);have b7:=b7'.set_ 0 (.slice A6 (i+1) c6);have x7:Ext w (w6.setCell ⟨w.heap.size,0,none⟩ (.slice A6 (i+1) c6)):=x7'.setCell' (p:=⟨w.heap.size,0,none⟩) (Nat.le_refl _) _;have o7:=eV ho6 (p:=⟨w.heap.size,0,none⟩) ne6 (.slice A6 (i+1) c6);have s7:W5.heap.size<=(w6.setCell ⟨w.heap.size,0,none⟩ (.slice A6 (i+1) c6)).heap.size:=by have:=hf6.size;simp at this;simp [World.setCell];omega
 refine wp_seq (rW ?_);generalize w6.setCell ⟨w.heap.size,0,none⟩ (.slice A6 (i+1) c6)=W7 at *;have E7:=hE.trans' x7;have r7:RL (RN W7 (fun _=>True)) (t ++ [x]) (xs ++ aE x na):=(hr.move pO (aB.of_ext E7) (fun _ _ _=>trivial)).append (RL.one ⟨na,rfl,hN.carry (aB.of_ext x7) (fun _ _ _=>trivial)⟩);have hlen:(t ++ [x]).length=i+1:=by rw [List.length_append,htl];rfl
 have nd7:Nds W7 (fun _=>True) (.slice A6 (i+1) c6) (t ++ [x]):=Lst.of_own (o7.len_cast hlen.symm rfl) r7 (by rw [hlen];omega) (fun _ _=>trivial);clear e7 sz d10 hcx f10;have sz:=hG.sz;have d10:=b7.cell' 0 rfl;refine lv ?_
 refine lc Tryz.func22 (gS (t ++ [x]) (fun _=>True) _ W7 nd7 (fun y hy=>by
  rcases List.mem_append.1 hy with hy | hy
  ·exact (hgen.small y hy).2.2.1
  ·simp only [List.mem_singleton] at hy;subst hy;exact hsm.2.2.1)) ?_
 rintro e w8 ⟨rfl,hx8⟩;refine ⟨_,rfl,?_⟩;refine lv ?_;refine lE a3 [0,2,3,4,5,6,7,10] 169 ?_;intro a4 u4 e169
 replace hG:=hG.ag u4
 have E8:=E7.trans' hx8;have s8:=hx8.size;have h10:=u4.get 10 g10;clear sz d10;have sz:=hG.sz;have e3:=hG.e3;have e6:=hG.e6;have B3:=hb3.ext E8
 by_cases hv:bY (t ++ [x])=0
 ·refine wp_cond_true (e169.trans (by simp [hv])) (rW ?_)
  have d10:=(b7.ext hx8).cell' 0 rfl;refine lv ?_;refine ls ?_ rfl rfl (by simp [execOp,go_sem,B3.cell,B3.frozen,sz,e3];rfl);refine lN a4 [0,2,3,4,5,6,7] ?_;intro a5 u5;refine ⟨rfl,hG.toF8.ag u5,?_⟩;exact aBb (m:=W5.heap.size) hin htl hg3 hF E8 B3 (aOr (o7.ext_ hx8) D) (fun b hb=>o7.block_ge hb) hr D D (hN.carry (aB.of_ext (x7.trans' hx8)) (fun b hb h=>⟨h.1,D⟩)) (hgen.add hv hk3 hsm)
 ·refine wp_cond_false (e169.trans (by simp [hv])) (rW ?_)
  have d3:=B3.cell' 0 rfl
  iterate 5 refine lv ?_
  refine lv (v:=fF (bK (k % 5)) ⟨none,0,none,0,none,0,none,0,none,0⟩) (w1:=w8) ?_ rfl rfl (by simp [execOp,go_sem,fF,bK, *];exact ⟨rfl,rfl,rfl,rfl,rfl⟩);refine lv (w1:=w8.alloc (.cells (aE (bK (k % 5)) ⟨none,0,none,0,none,0,none,0,none,0⟩).toArray 87)) (v:=.slice (some ⟨w8.heap.size,0,none⟩) 1 1) ?_ rfl rfl (by simp [execOp,go_sem,aE,fF,bK, *]);refine la Tryz.underlying23 Tryz.info87 ((hown.ext_ E8).alloc _) (T:=fun _=>True) (Sl.new _ _ _ 1 12 rfl) D D aa (vN _ _) ?_;intro v9 w9 ho9 hf9 hb9;obtain ⟨A9,c9,rfl,-,-,-⟩:=Sl.of_own ho9;have b9:=(B3.alloc (.cells (aE (bK (k % 5)) ⟨none,0,none,0,none,0,none,0,none,0⟩).toArray 87)).fr hf9 (fun e=>by have:=hown.block_ge e.symm;omega);refine lv ?_;refine ls ?_ rfl rfl (by simp [execOp,go_sem,b9.cell,b9.frozen,sz,e3];rfl);refine lN a4 [0,2,3,4,5,6,7] ?_;intro a5 u5;refine ⟨rfl,hG.toF8.ag u5,?_⟩;exact aCp (z:=k % 5) D hin hn htl hg3 hF (E8.alloc' _) (B3.alloc _) hown ho9 hf9 (hb9.elim .inl (fun h=>.inr ⟨_,h,Nat.le_refl _⟩)) hr hgen
section
variable {W:World}{kk:Int}{A3:Option Addr}{c3:Nat}{t:List GN}{xs:List Value}
theorem r10 (hG:G8 a vl g2 g3 n i k gx)(hkk:0<=kk∧kk<8)(hk5:kk ≠ 5)(hk2:2<=kk->2<=i)(hk:0<=k∧k<1000000)(hin:i<n)(hn:n<=14)(hl:bM w0 Ql vl l)(hK:K8 w0 w gx (k8 kk))(hg3:g3<W.heap.size)(hF:Fr (fun b=>b=g3) W w0)
  (htl:t.length=i)(hgen:fL t)(hb3:Blk w0 g3 25 #[.slice A3 i c3])(hown:w0.ownsRow W.heap.size 87 12 (.slice A3 i c3) i xs)(hr:RL (RN w0 (aGf W.heap.size w0 (.slice A3 i c3))) t xs):Code.wp Tryz.prog c10 (PT vl g2 g3 n i W) a w:=by
 have hs:=hF.size
 have fin:∀ (z:Int) (a2:Act) (w2:World),G8 a2 vl g2 g3 n i k gx->K8 w0 w2 gx (k8 z)->0<=z∧z<=4->(2<=z->2<=i)->Code.wp Tryz.prog (.seq (.seq (R8 12) aCt) aCq) (PT vl g2 g3 n i W) a2 w2:=by
  intro z a2 w2 hG hK hz hz2;have hc:=hK.bx.cell;have e7:=hG.e7;have sz:=hG.sz;refine wp_seq (wp_seq (rW ?_))
  iterate 2 refine lv ?_
  refine lE a2 [0,2,3,4,5,6,7] 45 ?_;intro a3 u3 e45;refine wp_mono (sw8 (hG.ag u3) e45 hz hz2 hk D hl hK D htl hgen hb3 hown hr) ?_;rintro e a' w' ⟨rfl,hG',hst⟩
  exact wp_mono (tl8 hG' hk hin hn hg3 hF htl hgen hb3 hown hr (by rw [hK.gx0];exact Nat.le_refl _) hst) (fun e a w h=>by
   obtain ⟨rfl,h⟩:=h;exact ⟨rfl,h⟩)
 have hc:=hK.bx.cell;have hf:=hK.bx.frozen;have e7:=hG.e7;have sz:=hG.sz;refine wp_seq (wp_seq (rW ?_))
 iterate 3 refine lv ?_
 refine lE a [0,2,3,4,5,6,7] 39 ?_;intro a1 u1 e39
 replace hG:=hG.ag u1
 clear e7 sz;have e7:=hG.e7;have sz:=hG.sz
 by_cases h5:5<kk
 ·refine wp_cond_true (e39.trans (by simp [h5])) (rW ?_)
  iterate 4 refine lv ?_
  refine ls ?_ rfl rfl (by simp [execOp,go_sem, *];rfl);refine lN a1 [0,2,3,4,5,6,7] ?_;intro a2 u2;exact fin (kk - 4) a2 _ (hG.ag u2) (hK.set 0 _) D (fun h=>hk2 D)
 ·refine wp_cond_false (e39.trans aa) (wp_skip ?_)
  exact fin kk a1 _ hG hK D hk2
theorem r6 (hG:F8 a vl g2 g3 n i)(hin:i<n)(hn:n<=14)(hl:bM w Ql vl l)(hg3:g3<W.heap.size)(hF:Fr (fun b=>b=g3) W w)
  (htl:t.length=i)(hgen:fL t)(hb3:Blk w g3 25 #[.slice A3 i c3])(hown:w.ownsRow W.heap.size 87 12 (.slice A3 i c3) i xs)(hr:RL (RN w (aGf W.heap.size w (.slice A3 i c3))) t xs) :
  Code.wp Tryz.prog (.seq (R8 6) (.seq (R8 7) (.seq (.seq (R8 8) (.cond (.tmp 32) (R8 9) .skip)) c10))) (PT vl g2 g3 n i W) a w:=by
 have hk:=jV (l:=l) (i:=1+(i:Int)) (m:=1000000) D;have hpk:=jW l (1+(i:Int)) 1000000 Ql _ w hl ak D D;generalize pick l (1+(i:Int)) 1000000=k at *;have sz:=hG.sz;have e0:=hG.e0;have e5:=hG.e5;refine wp_seq (rW ?_)
 iterate 3 refine lv ?_
 refine lc Tryz.func38 hpk ?_;rintro e w' ⟨rfl,rfl⟩;refine ⟨_,rfl,?_⟩;refine lv ?_;refine lE a [0,2,3,4,5] 6 ?_;intro a1 u1 e6
 replace hG:=hG.ag u1
 clear sz e0 e5 hpk;have sz:=hG.sz;refine wp_seq (rW ?_)
 iterate 3 refine lv ?_
 have B0:=Blk.new w 87 (k8 0);have hx0:Ext w (w.alloc (.cells (k8 0) 87)):=(Ext.refl w).alloc' _;have s0:(w.alloc (.cells (k8 0) 87)).heap.size=w.heap.size+1:=by simp
 refine lv (w1:=w.alloc (.cells (k8 0) 87)) (v:=.pointer (some ⟨w.heap.size,0,none⟩)) ?_ rfl rfl (by simp [execOp,go_sem]);generalize w.alloc (.cells (k8 0) 87)=w1 at *;refine ls (w1:=w1.setCells w.heap.size 0 (k8 (k % 8)).toList) ?_ rfl rfl (by simp [execOp,go_sem,B0.cell,B0.frozen,sz,e6,World.setCells]);refine lE a1 [0,2,3,4,5,6] 7 ?_;intro a2 u2 e7;have hK:K8 w (w1.setCells w.heap.size 0 (k8 (k % 8)).toList) w.heap.size (k8 (k % 8)):=⟨aO (k8 (k % 8)).toList 0 B0 U,((Fr.of_ext (M:=fun _=>False) hx0).setCells _ 0 (.inr (Nat.le_refl _))).ext,rfl,by simpa [World.setCells,World.setCell] using s0⟩;have hG2:G8 a2 vl g2 g3 n i k w.heap.size:=⟨hG.ag u2,u2.get 6 e6,e7⟩;clear sz e6 e7 hx0 s0;refine wp_seq (wp_seq (rW ?_));generalize w1.setCells w.heap.size 0 (k8 (k % 8)).toList=w2 at *;have e5:=hG2.e5;have e6:=hG2.e6;have e7:=hG2.e7;have sz:=hG2.sz;have hc:=hK.bx.cell;have hf:=hK.bx.frozen
 have go9:∀ a3,Ag [0,2,3,4,5,6,7] a2 a3->Code.wp Tryz.prog (R8 9) (Exit.then (Code.wp Tryz.prog c10 (PT vl g2 g3 n i W)) (PT vl g2 g3 n i W)) a3 w2:=by
  intro a3 u3;have hG3:=hG2.ag u3;clear e5 e6 e7 sz;have e6:=hG3.e6;have e7:=hG3.e7;have sz:=hG3.sz;refine rW ?_
  iterate 4 refine lv ?_
  refine ls ?_ rfl rfl (by simp [execOp,go_sem, *];rfl);refine lN a3 [0,2,3,4,5,6,7] ?_;intro a4 u4;exact r10 (kk:=k / 8 % 2) (hG3.ag u4) D D D hk hin hn hl (hK.set 0 _) hg3 hF htl hgen hb3 hown hr
 by_cases h2:(i:Int)<2
 ·iterate 3 refine lv ?_
  iterate 3 refine ln ?_
  refine lv ?_;refine lE a2 [0,2,3,4,5,6,7] 32 ?_;intro a3 u3 e32;exact wp_cond_true e32 (go9 a3 u3)
 ·iterate 3 refine lv ?_
  iterate 3 refine ly ?_
  refine lv ?_;refine lE a2 [0,2,3,4,5,6,7] 32 ?_;intro a3 u3 e32
  by_cases h5:k % 8=5
  ·exact wp_cond_true (e32.trans (by simp [h5])) (go9 a3 u3)
  ·refine wp_cond_false (e32.trans (by simp [h5])) (wp_skip ?_)
   exact r10 (kk:=k % 8) (hG2.ag u3) D h5 (fun _=>by omega) hk hin hn hl hK hg3 hF htl hgen hb3 hown hr
def PL (vl:Value)(g2 g3 n:Nat)(W:World):Act->World->Prop:=fun a w=>∃ i:Nat,F8 a vl g2 g3 n i∧i<=n∧kW n g3 W (↑(i:Int)) w
theorem zB {iv:Value}{W:World}(h:kW n g3 W iv w){j:Nat}(e:iv=↑(j:Int)):∃ (t:List GN)(v:Value)(xs:List Value),t.length=j∧fL t∧Blk w g3 25 #[v]∧w.ownsRow W.heap.size 87 12 v j xs∧RL (RN w (aGf W.heap.size w v)) t xs∧Fr (fun b=>b=g3) W w:=by
 obtain ⟨i,t,v,xs,h1,h2,h3,h4,h5,h6,h7,h8⟩:=h;rw [e] at h2;injection h2 with _ h2;have:i=j:=by omega
 subst this;exact ⟨t,v,xs,h3,h4,h5,h6,h7,h8⟩
variable {R:Exit->Act->World->Prop}{ws:World}
theorem aWr (hn:n<=14)(hl:bM ws Ql vl l)(hx:Ext ws W)(hg3:g3<W.heap.size)(hg3':ws.heap.size<=g3)(h0:PL vl g2 g3 n W a w)
  (hR:∀ a' w',F8 a' vl g2 g3 n n->kW n g3 W (↑(n:Int)) w'->R .normal a' w'):Code.wp Tryz.prog (.block 0 (.loop aJo)) R a w:=by
 refine wp_block (wp_loop (PL vl g2 g3 n W) (fun a' _=>n - (intOf (Ev a' (.tmp 5))).toNat) h0 ?_);clear h0;rintro a wr ⟨i,hG,hin,hinv⟩;obtain ⟨t,v,xs,htl,hgen,hB,hown,hr,hF⟩:=zB hinv rfl;obtain ⟨A3,c3,rfl,-,-,-⟩:=Sl.of_own hown;have sz:=hG.sz;have e4:=hG.e4;have e5:=hG.e5;refine wp_seq (wp_seq (rW ?_))
 iterate 3 refine lv ?_
 refine lE a [0,2,3,4,5] 16 ?_;intro a1 u1 e16;have hEW:Ext ws wr:=Fr.new_ext ((Fr.of_ext hx).trans hF) (fun b hb=>by omega)
 by_cases hlt:i<n
 ·refine wp_cond_true (e16.trans aa) (wp_skip (wp_seq (wp_block (wp_mono (r6 (hG.ag u1) hlt hn (hl.ext hEW) hg3 hF htl hgen hB hown hr) ?_))))
  rintro e a' w' ⟨rfl,hF',hinv'⟩;have f5:=hF'.e5;have sz:=hF'.sz;refine rW ?_
  iterate 3 refine lv ?_
  refine lE a' [0,2,3,4] 5 ?_;intro a2 u2 f5';refine ⟨⟨i+1,⟨u2.sz.trans sz,u2.df.trans hF'.df,u2.get 0 hF'.e0,u2.get 2 hF'.e2,u2.get 3 hF'.e3,u2.get 4 hF'.e4,f5'⟩,hlt,by simpa using hinv'⟩,?_⟩;rw [f5',e5];simp [intOf];omega
 ·obtain rfl:i=n:=by omega
  exact wp_cond_false (e16.trans U) (wp_exit (hR _ _ (hG.ag u1) hinv))
theorem aY6 (hn:n<=14)(hx:Ext ws W)(hg3:g3<W.heap.size)(hg3':ws.heap.size<g3)(hb2:Blk W ws.heap.size 25 #[.slice none 0 0])(hG:F8 a vl ws.heap.size g3 n n)(hinv:kW n g3 W (↑(n:Int)) w)
  (hQ:∀ a' w' A m c,a'.defers=[]->Ev a' (.tmp 2)=.pointer (some ⟨ws.heap.size,0,none⟩)->w'.cell? ⟨ws.heap.size,0,none⟩=some (.slice A m c)->uA ws (.returned (.agg #[.slice A m c])) w'->R .ret a' w'):Code.wp Tryz.prog (.seq (R8 41) .ret) R a w:=by
 obtain ⟨t,v,xs,htl,hgen,hB,hown,hr,hF⟩:=zB hinv rfl;obtain ⟨A3,c3,rfl,-,-,-⟩:=Sl.of_own hown;have hEW:Ext ws w:=Fr.new_ext ((Fr.of_ext hx).trans hF) (fun b hb=>by omega);have b2r:=hb2.fr hF D;have c3':=hB.cell' 0 rfl;have sz:=hG.sz;have e2:=hG.e2;have e3:=hG.e3;refine wp_seq (rW ?_);refine lv ?_;refine ls ?_ rfl rfl (by simp [execOp,go_sem,b2r.cell,b2r.frozen,sz,e2];rfl);refine lE a [] 2 ?_;intro a1 u1 f2;refine wp_ret ?_;have hz:(w.setCell ⟨ws.heap.size,0,none⟩ (.slice A3 n c3)).heap.size=w.heap.size:=by simp [World.setCell]
 have hnd:Nds (w.setCell ⟨ws.heap.size,0,none⟩ (.slice A3 n c3)) (fun b=>ws.heap.size<=b∧b<(w.setCell ⟨ws.heap.size,0,none⟩ (.slice A3 n c3)).heap.size) (.slice A3 n c3) t:=by
  have hkp:aB (fun b=>W.heap.size<=b) w (w.setCell ⟨ws.heap.size,0,none⟩ (.slice A3 n c3)):=aB.set (p:=⟨ws.heap.size,0,none⟩) (fun _ _ _=>rfl) _ (by show ¬ W.heap.size<=ws.heap.size;omega);have h1:Nds w (fun b=>W.heap.size<=b) (.slice A3 n c3) t:=Lst.of_own (hown.len_cast htl.symm rfl) (hr.move pO (fun _ _ _=>rfl) (fun b hb h=>h.1)) (by rw [htl];omega) (fun b hb=>hown.block_ge hb);exact h1.carry hkp (fun b hb h=>⟨D,D⟩)
 exact hQ _ _ _ _ _ (u1.df.trans hG.df) f2 ((b2r.set_ 0 (.slice A3 n c3)).cell' 0 rfl) ⟨A3,c3,t,by rw [htl],by rw [htl];exact hnd,hgen,D,hEW.setCell' (p:=⟨ws.heap.size,0,none⟩) (Nat.le_refl _) _⟩
theorem aLw (hl:bM w Ql vl l)(sz:a.tmps.size=181)(e0:Ev a (.tmp 0)=vl)(hdf:a.defers=[])
  (hQ:∀ a' w' A n c,a'.defers=[]->Ev a' (.tmp 2)=.pointer (some ⟨w.heap.size,0,none⟩)->w'.cell? ⟨w.heap.size,0,none⟩=some (.slice A n c)->uA w (.returned (.agg #[.slice A n c])) w'->R .ret a' w'):Code.wp Tryz.prog aTn R a w:=by
 have b2:=Blk.new w 25 #[.slice none 0 0];have x1:Ext w (w.alloc (.cells #[.slice none 0 0] 25)):=(Ext.refl w).alloc' _;have s1:(w.alloc (.cells #[.slice none 0 0] 25)).heap.size=w.heap.size+1:=by simp
 refine wp_seq (rW ?_);refine lv ?_;refine lE a [0] 2 ?_;intro a1 u1 e2;generalize w.alloc (.cells #[.slice none 0 0] 25)=w1 at *;have b3:=Blk.new' w1 25 #[.slice none 0 0] s1.symm
 replace b2:=b2.alloc (.cells #[.slice none 0 0] 25)
 replace x1:=x1.alloc' (.cells #[.slice none 0 0] 25)
 have s2:(w1.alloc (.cells #[.slice none 0 0] 25)).heap.size=w.heap.size+2:=by simp [s1]
 have sz1:=u1.sz.trans sz;refine wp_seq (rW ?_)
 iterate 2 refine lv ?_
 generalize w1.alloc (.cells #[.slice none 0 0] 25)=w2 at *;refine ls ?_ rfl rfl (by simp [execOp,go_sem,b3.cell,b3.frozen,sz1];rfl);refine lE a1 [0,2] 3 ?_;intro a2 u2 e3
 replace b2:=b2.far (p:=⟨w.heap.size+1,0,none⟩) U (.slice none 0 0)
 replace b3:=b3.set_ 0 (.slice none 0 0)
 replace x1:Ext w (w2.setCell ⟨w.heap.size+1,0,none⟩ (.slice none 0 0)):=x1.setCell' (p:=⟨w.heap.size+1,0,none⟩) U _
 replace s2:(w2.setCell ⟨w.heap.size+1,0,none⟩ (.slice none 0 0)).heap.size=w.heap.size+2:=by simpa [World.setCell] using s2
 have hn:=jV (l:=l) (i:=0) (m:=15) D;refine wp_seq (rW ?_);generalize w2.setCell ⟨w.heap.size+1,0,none⟩ (.slice none 0 0)=W at *;have hpk:=jW l 0 15 Ql _ W (hl.ext x1) ak D D;obtain ⟨n,hnn⟩:∃ n:Nat,pick l 0 15=(n:Int):=⟨(pick l 0 15).toNat,D⟩;rw [hnn] at hpk hn;have sz2:=u2.sz.trans sz1;have f0:=u2.get 0 (u1.get 0 e0);refine lv ?_;refine lc Tryz.func38 hpk ?_;rintro e w' ⟨rfl,rfl⟩;refine ⟨_,rfl,?_⟩;refine lv ?_;refine lE a2 [0,2,3] 4 ?_;intro a3 u3 e4;have sz3:=u3.sz.trans sz2;refine wp_seq (wp_seq (rW ?_));refine lv ?_;refine lE a3 [0,2,3,4] 5 ?_;intro a4 u4 e5;refine aWr (W:=W) (g2:=w.heap.size) (g3:=w.heap.size+1) (n:=n) D hl x1 D D ⟨0,⟨u4.sz.trans sz3,u4.df.trans (u3.df.trans (u2.df.trans (u1.df.trans hdf))),u4.get 0 (u3.get 0 f0),u4.get 2 (u3.get 2 (u2.get 2 e2)),u4.get 3 (u3.get 3 e3),u4.get 4 e4,e5⟩,Nat.zero_le _,⟨0,[],.slice none 0 0,[],Nat.zero_le _,rfl,rfl,fL.nil,b3,aT _ _ _ _,fc,Fr.refl _ _⟩⟩ ?_;intro a' w' hF hinv;exact aY6 D x1 D D b2 hF hinv hQ
end
end
theorem aGk (l:List Int)(Q:Nat->Prop)(vl:Value)(w:World)(hl:bM w Q vl l):Calls Tryz.prog 8 #[vl] w (uA w):=by
 refine calls_of_wp Tryz.func8 aW0 (aLw hl ?_ ?_ rfl ?_)
 ·simp [Tryz.ntmps8]
 ·simp [Ev,Act.eval]
 ·intro a' w' A n c h1 h2 h3 h4
  refine bodyPost_ret (v:=.agg #[.slice A n c]) ?_ h1 h4;have h5:a'.tmps[2]?.getD undef=.pointer (some ⟨w.heap.size,0,none⟩):=by rw [<- h2];simp [Ev,Act.eval]
  simp [results,Tryz.results8,go_sem,h5,h3]
end Go.Proofs.YtkoeecdjijfjnaaGreat
