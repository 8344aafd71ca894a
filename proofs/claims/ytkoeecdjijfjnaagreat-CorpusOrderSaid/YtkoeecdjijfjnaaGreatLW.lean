/- The regions of the generator Tree, against a frame that is a variable. Conditions: none. (printed by gen/lw.py) -/
import Derived.Test.YtkoeecdjijfjnaaGreatAW
import Derived.Test.YtkoeecdjijfjnaaGreatLT
namespace Go.Proofs.YtkoeecdjijfjnaaGreat
open Go.RowKit
section
variable {ρ:Operand→Value}{o:Oper}{w:World}
theorem y_lssb {a b:Int}{c:Bool}(hd:decide (a<b)=c)(x y:Operand)(ho:o.op=.binOp .lss 3 x y 3)(hx:ρ x=.int .i64 a)(hy:ρ y=.int .i64 b):(execOp ρ o).run Tryz.prog w=.ok (.value (.bool c)) w:=by
 subst hd
 exact y_lss x y ho hx hy
theorem y_pickt {u:Value}(x y z:Operand)(ho:o.op=.pick x y z)(hx:ρ x=.bool true)(hy:ρ y=u):(execOp ρ o).run Tryz.prog w=.ok (.value u) w:=by
 simp [execOp,ho,hx,hy,go_sem]
theorem y_pickf {u:Value}(x y z:Operand)(ho:o.op=.pick x y z)(hx:ρ x=.bool false)(hz:ρ z=u):(execOp ρ o).run Tryz.prog w=.ok (.value u) w:=by
 simp [execOp,ho,hx,hz,go_sem]
theorem r_store87 {g:Nat}{k:Int}{cs:Array Value}(x y:Operand)(ho:o.op=.store 87 x y)(hx:ρ x=.pointer (some ⟨g,0,none⟩))(hy:ρ y=.agg #[.int .i64 k,.string ⟨#[]⟩,.int .i64 0,.int .i64 0,.slice none 0 0,.slice none 0 0,.slice none 0 0,.slice none 0 0,.int .i64 0,.int .i64 0,.string ⟨#[]⟩,.slice none 0 0])(hb:Blk w g 87 cs)(hs:cs.size=12):(execOp ρ o).run Tryz.prog w=.ok .skip (w.setCells g 0 [.int .i64 k,.string ⟨#[]⟩,.int .i64 0,.int .i64 0,.slice none 0 0,.slice none 0 0,.slice none 0 0,.slice none 0 0,.int .i64 0,.int .i64 0,.string ⟨#[]⟩,.slice none 0 0]):=by
 obtain ⟨v0,c0⟩:∃ v,w.cell? ⟨g,0,none⟩=some v:=⟨cs[0],hb.cell' 0 (by simp [hs])⟩
 have f0:=hb.frozen 0
 obtain ⟨v1,c1⟩:∃ v,w.cell? ⟨g,1,none⟩=some v:=⟨cs[1],hb.cell' 1 (by simp [hs])⟩
 have f1:=hb.frozen 1
 obtain ⟨v2,c2⟩:∃ v,w.cell? ⟨g,2,none⟩=some v:=⟨cs[2],hb.cell' 2 (by simp [hs])⟩
 have f2:=hb.frozen 2
 obtain ⟨v3,c3⟩:∃ v,w.cell? ⟨g,3,none⟩=some v:=⟨cs[3],hb.cell' 3 (by simp [hs])⟩
 have f3:=hb.frozen 3
 obtain ⟨v4,c4⟩:∃ v,w.cell? ⟨g,4,none⟩=some v:=⟨cs[4],hb.cell' 4 (by simp [hs])⟩
 have f4:=hb.frozen 4
 obtain ⟨v5,c5⟩:∃ v,w.cell? ⟨g,5,none⟩=some v:=⟨cs[5],hb.cell' 5 (by simp [hs])⟩
 have f5:=hb.frozen 5
 obtain ⟨v6,c6⟩:∃ v,w.cell? ⟨g,6,none⟩=some v:=⟨cs[6],hb.cell' 6 (by simp [hs])⟩
 have f6:=hb.frozen 6
 obtain ⟨v7,c7⟩:∃ v,w.cell? ⟨g,7,none⟩=some v:=⟨cs[7],hb.cell' 7 (by simp [hs])⟩
 have f7:=hb.frozen 7
 obtain ⟨v8,c8⟩:∃ v,w.cell? ⟨g,8,none⟩=some v:=⟨cs[8],hb.cell' 8 (by simp [hs])⟩
 have f8:=hb.frozen 8
 obtain ⟨v9,c9⟩:∃ v,w.cell? ⟨g,9,none⟩=some v:=⟨cs[9],hb.cell' 9 (by simp [hs])⟩
 have f9:=hb.frozen 9
 obtain ⟨v10,c10⟩:∃ v,w.cell? ⟨g,10,none⟩=some v:=⟨cs[10],hb.cell' 10 (by simp [hs])⟩
 have f10:=hb.frozen 10
 obtain ⟨v11,c11⟩:∃ v,w.cell? ⟨g,11,none⟩=some v:=⟨cs[11],hb.cell' 11 (by simp [hs])⟩
 have f11:=hb.frozen 11
 simp [execOp,ho,hx,hy,go_sem,c0,f0,c1,f1,c2,f2,c3,f3,c4,f4,c5,f5,c6,f6,c7,f7,c8,f8,c9,f9,c10,f10,c11,f11,World.setCells]
theorem r_store87n {g:Nat}{x:GN}{na:NA}{cs:Array Value}(p q:Operand)(ho:o.op=.store 87 p q)(hx:ρ p=.pointer (some ⟨g,0,none⟩))(hy:ρ q=nagg x na)(hb:Blk w g 87 cs)(hs:cs.size=12):(execOp ρ o).run Tryz.prog w=.ok .skip (w.setCells g 0 (ncells x na)):=by
 have hy':ρ q=.agg #[.int .i64 x.kind,.string x.name,.int .i64 x.lo,.int .i64 x.hi,.slice na.wA x.weights.length na.wc,.slice na.lA x.labels.length na.lc,.slice na.vA x.values.length na.vc,.slice na.kA x.kids.length na.kc,.int .i64 x.value.kind,.int .i64 x.value.n,.string x.value.s,.slice na.xA x.value.kids.length na.xc]:=hy
 obtain ⟨v0,c0⟩:∃ v,w.cell? ⟨g,0,none⟩=some v:=⟨cs[0],hb.cell' 0 (by simp [hs])⟩
 have f0:=hb.frozen 0
 obtain ⟨v1,c1⟩:∃ v,w.cell? ⟨g,1,none⟩=some v:=⟨cs[1],hb.cell' 1 (by simp [hs])⟩
 have f1:=hb.frozen 1
 obtain ⟨v2,c2⟩:∃ v,w.cell? ⟨g,2,none⟩=some v:=⟨cs[2],hb.cell' 2 (by simp [hs])⟩
 have f2:=hb.frozen 2
 obtain ⟨v3,c3⟩:∃ v,w.cell? ⟨g,3,none⟩=some v:=⟨cs[3],hb.cell' 3 (by simp [hs])⟩
 have f3:=hb.frozen 3
 obtain ⟨v4,c4⟩:∃ v,w.cell? ⟨g,4,none⟩=some v:=⟨cs[4],hb.cell' 4 (by simp [hs])⟩
 have f4:=hb.frozen 4
 obtain ⟨v5,c5⟩:∃ v,w.cell? ⟨g,5,none⟩=some v:=⟨cs[5],hb.cell' 5 (by simp [hs])⟩
 have f5:=hb.frozen 5
 obtain ⟨v6,c6⟩:∃ v,w.cell? ⟨g,6,none⟩=some v:=⟨cs[6],hb.cell' 6 (by simp [hs])⟩
 have f6:=hb.frozen 6
 obtain ⟨v7,c7⟩:∃ v,w.cell? ⟨g,7,none⟩=some v:=⟨cs[7],hb.cell' 7 (by simp [hs])⟩
 have f7:=hb.frozen 7
 obtain ⟨v8,c8⟩:∃ v,w.cell? ⟨g,8,none⟩=some v:=⟨cs[8],hb.cell' 8 (by simp [hs])⟩
 have f8:=hb.frozen 8
 obtain ⟨v9,c9⟩:∃ v,w.cell? ⟨g,9,none⟩=some v:=⟨cs[9],hb.cell' 9 (by simp [hs])⟩
 have f9:=hb.frozen 9
 obtain ⟨v10,c10⟩:∃ v,w.cell? ⟨g,10,none⟩=some v:=⟨cs[10],hb.cell' 10 (by simp [hs])⟩
 have f10:=hb.frozen 10
 obtain ⟨v11,c11⟩:∃ v,w.cell? ⟨g,11,none⟩=some v:=⟨cs[11],hb.cell' 11 (by simp [hs])⟩
 have f11:=hb.frozen 11
 simp [execOp,ho,hx,hy',go_sem,c0,f0,c1,f1,c2,f2,c3,f3,c4,f4,c5,f5,c6,f6,c7,f7,c8,f8,c9,f9,c10,f10,c11,f11,World.setCells]
theorem r_store85 {g:Nat}{x:GV}{A:Option Addr}{c:Nat}{cs:Array Value}(p q:Operand)(ho:o.op=.store 85 p q)(hx:ρ p=.pointer (some ⟨g,8,none⟩))(hy:ρ q=vagg x A c)(hb:Blk w g 87 cs)(hs:cs.size=12):(execOp ρ o).run Tryz.prog w=.ok .skip (w.setCells g 8 [.int .i64 x.kind,.int .i64 x.n,.string x.s,.slice A x.kids.length c]):=by
 have hy':ρ q=.agg #[.int .i64 x.kind,.int .i64 x.n,.string x.s,.slice A x.kids.length c]:=hy
 obtain ⟨v8,c8⟩:∃ v,w.cell? ⟨g,8,none⟩=some v:=⟨cs[8],hb.cell' 8 (by simp [hs])⟩
 have f8:=hb.frozen 8
 obtain ⟨v9,c9⟩:∃ v,w.cell? ⟨g,9,none⟩=some v:=⟨cs[9],hb.cell' 9 (by simp [hs])⟩
 have f9:=hb.frozen 9
 obtain ⟨v10,c10⟩:∃ v,w.cell? ⟨g,10,none⟩=some v:=⟨cs[10],hb.cell' 10 (by simp [hs])⟩
 have f10:=hb.frozen 10
 obtain ⟨v11,c11⟩:∃ v,w.cell? ⟨g,11,none⟩=some v:=⟨cs[11],hb.cell' 11 (by simp [hs])⟩
 have f11:=hb.frozen 11
 simp [execOp,ho,hx,hy',go_sem,c8,f8,c9,f9,c10,f10,c11,f11,World.setCells]
theorem r_build23 {x:GN}{na:NA}(p:Operand)(ho:o.op=.buildSlice 23 1 #[(0,p)])(hx:ρ p=nagg x na):(execOp ρ o).run Tryz.prog w=.ok (.value (.slice (some ⟨w.heap.size,0,none⟩) 1 1)) (w.alloc (.cells (ncells x na).toArray 87)):=by
 have hx':ρ p=.agg #[.int .i64 x.kind,.string x.name,.int .i64 x.lo,.int .i64 x.hi,.slice na.wA x.weights.length na.wc,.slice na.lA x.labels.length na.lc,.slice na.vA x.values.length na.vc,.slice na.kA x.kids.length na.kc,.int .i64 x.value.kind,.int .i64 x.value.n,.string x.value.s,.slice na.xA x.value.kids.length na.xc]:=hx
 simp [execOp,ho,hx',go_sem,ncells]
theorem r_build82e (ho:o.op=.buildSlice 82 3 #[(0,.const (.string ⟨#[]⟩)),(1,.const (.string ⟨#[80,97,105,114]⟩)),(2,.const (.string ⟨#[]⟩))])(hc:∀ v,ρ (.const v)=v):(execOp ρ o).run Tryz.prog w=.ok (.value (.slice (some ⟨w.heap.size,0,none⟩) 3 3)) (w.alloc (.cells #[.string ⟨#[]⟩,.string ⟨#[80,97,105,114]⟩,.string ⟨#[]⟩] 9)):=by
 simp [execOp,ho,hc,go_sem]
theorem y_index82e {b:Nat}{n:Int}(x y:Operand)(ho:o.op=.indexAddr 82 x y)(hx:ρ x=.slice (some ⟨b,0,none⟩) 3 3)(hy:ρ y=.int .i64 n)(h0:0≤n)(h1:n<3):(execOp ρ o).run Tryz.prog w=.ok (.value (.pointer (some ⟨b,n.toNat,none⟩))) w:=by
 simp [execOp,ho,hx,hy,go_sem,h0,h1]
end
theorem nam3 (m:Nat)(h:m<3):∃ z:ByteArray,(#[.string ⟨#[]⟩,.string ⟨#[80,97,105,114]⟩,.string ⟨#[]⟩]:Array Value)[m]?=some (.string z)∧z.size≤100:=by
 rcases m with _ | _ | _ | m
 ·exact ⟨⟨#[]⟩,rfl,by decide⟩
 ·exact ⟨⟨#[80,97,105,114]⟩,rfl,by decide⟩
 ·exact ⟨⟨#[]⟩,rfl,by decide⟩
 ·omega
noncomputable def r8_0:Code:=((Tryz.f8.body.bind (regIn 0)).getD .skip)
theorem reg8_0 {Q:Exit→Act→World→Prop}{a:Act}{w:World}    (_:a.tmps.size=181)
  (h:Q .normal (a.put (some 2) (.pointer (some ⟨w.heap.size,0,none⟩))) (w.alloc (.cells #[.slice none 0 0] 25))):Code.wp Tryz.prog r8_0 Q a w:=by
 conv=>arg 2;whnf
 refine wp_region_W ?_
 refine l_value 2 (.pointer (some ⟨w.heap.size,0,none⟩)) rfl rfl (r_alloc25 rfl) ?_
 refine l_nil ?_
 exact h
noncomputable def r8_1:Code:=((Tryz.f8.body.bind (regIn 1)).getD .skip)
theorem reg8_1 {Q:Exit→Act→World→Prop}{a:Act}{w:World}    (hsz:a.tmps.size=181)
  (h:Q .normal ((a.put (some 11) (.agg #[.slice none 0 0])).put (some 3) (.pointer (some ⟨w.heap.size,0,none⟩))) ((w.alloc (.cells #[.slice none 0 0] 25)).setCell ⟨w.heap.size,0,none⟩ (.slice none 0 0))):Code.wp Tryz.prog r8_1 Q a w:=by
 conv=>arg 2;whnf
 refine wp_region_W ?_
 refine l_value 11 (.agg #[.slice none 0 0]) rfl rfl (y_build25 rfl) ?_
 refine l_value 3 (.pointer (some ⟨w.heap.size,0,none⟩)) rfl rfl (r_alloc25 rfl) ?_
 refine l_skip rfl rfl (r_store25 (A:=none) (n:=0) (c:=0) (.tmp 3) (.tmp 11) rfl (by simp [vp,zp,hsz]) (by simp [vp,hsz]) ((Blk.new w 25 #[.slice none 0 0]).cell' 0 rfl) ((Blk.new w 25 #[.slice none 0 0]).frozen 0)) ?_
 refine l_nil ?_
 exact h
noncomputable def r8_2:Code:=((Tryz.f8.body.bind (regIn 2)).getD .skip)
theorem reg8_2 {Q:Exit→Act→World→Prop}{a:Act}{w:World}{Al:Option Addr}{ll cl:Nat}(e0:a.eval (.tmp 0)=.slice Al ll cl){p:Int}(hcall:Calls Tryz.prog 38 #[.slice Al ll cl,.int .i64 0,.int .i64 15] w fun e w'=>e=.returned (.int .i64 p)∧w=w')(hsz:a.tmps.size=181)
  (h:Q .normal (((a.put (some 12) (.slice Al ll cl)).put (some 13) (.int .i64 p)).put (some 4) (.int .i64 p)) w):Code.wp Tryz.prog r8_2 Q a w:=by
 conv=>arg 2;whnf
 refine wp_region_W ?_
 refine l_value 12 (.slice Al ll cl) rfl rfl (y_move (.tmp 0) rfl (by simp [e0])) ?_
 refine l_call 13 rfl rfl 38 #[(.tmp 12),(.const (.int .i64 0)),(.const (.int .i64 15))] #[22,3,3] rfl _ Tryz.func38 (by rfl) (by rfl) #[.slice Al ll cl,.int .i64 0,.int .i64 15] (by simp [vp,hsz,vc]) ?_
 refine hcall.mono ?_
 rintro e w' ⟨rfl,rfl⟩
 refine ⟨_,rfl,?_⟩
 refine l_value 4 (.int .i64 p) rfl rfl (y_assign (.tmp 13) rfl (by simp [vp,zp,hsz])) ?_
 refine l_nil ?_
 exact h
noncomputable def r8_3:Code:=((Tryz.f8.body.bind (regIn 3)).getD .skip)
theorem reg8_3 {Q:Exit→Act→World→Prop}{a:Act}{w:World}    (_:a.tmps.size=181)
  (h:Q .normal (a.put (some 5) ((.int .i64 0))) w):Code.wp Tryz.prog r8_3 Q a w:=by
 conv=>arg 2;whnf
 refine wp_region_W ?_
 refine l_value 5 ((.int .i64 0)) rfl rfl (y_assign (.const (.int .i64 0)) rfl rfl) ?_
 refine l_nil ?_
 exact h
noncomputable def r8_4:Code:=((Tryz.f8.body.bind (regIn 4)).getD .skip)
theorem reg8_4 {Q:Exit→Act→World→Prop}{a:Act}{w:World}{n:Nat}{i:Nat}(e4:a.eval (.tmp 4)=.int .i64 (n:Int))(e5:a.eval (.tmp 5)=.int .i64 (i:Int))  (hsz:a.tmps.size=181)
  (h:Q .normal (((a.put (some 14) (.int .i64 (i:Int))).put (some 15) (.int .i64 (n:Int))).put (some 16) (.bool (decide ((i:Int)<(n:Int))))) w):Code.wp Tryz.prog r8_4 Q a w:=by
 conv=>arg 2;whnf
 refine wp_region_W ?_
 refine l_value 14 (.int .i64 (i:Int)) rfl rfl (y_move (.tmp 5) rfl (by simp [e5])) ?_
 refine l_value 15 (.int .i64 (n:Int)) rfl rfl (y_move (.tmp 4) rfl (by simp [vp,e4])) ?_
 refine l_value 16 (.bool (decide ((i:Int)<(n:Int)))) rfl rfl (y_lss (.tmp 14) (.tmp 15) rfl (by simp [vp,hsz]) (by simp [vp,zp,hsz])) ?_
 refine l_nil ?_
 exact h
noncomputable def r8_6:Code:=((Tryz.f8.body.bind (regIn 6)).getD .skip)
theorem reg8_6 {Q:Exit→Act→World→Prop}{a:Act}{w:World}{Al:Option Addr}{ll cl:Nat}{i:Nat}(e0:a.eval (.tmp 0)=.slice Al ll cl)(e5:a.eval (.tmp 5)=.int .i64 (i:Int)){p:Int}(hi:i≤1000)(hcall:Calls Tryz.prog 38 #[.slice Al ll cl,.int .i64 (1+(i:Int)),.int .i64 1000000] w fun e w'=>e=.returned (.int .i64 p)∧w=w')(hsz:a.tmps.size=181)
  (h:Q .normal (((((a.put (some 19) (.slice Al ll cl)).put (some 20) (.int .i64 (i:Int))).put (some 21) (.int .i64 (1+(i:Int)))).put (some 22) (.int .i64 p)).put (some 6) (.int .i64 p)) w):Code.wp Tryz.prog r8_6 Q a w:=by
 conv=>arg 2;whnf
 refine wp_region_W ?_
 refine l_value 19 (.slice Al ll cl) rfl rfl (y_move (.tmp 0) rfl (by simp [e0])) ?_
 refine l_value 20 (.int .i64 (i:Int)) rfl rfl (y_move (.tmp 5) rfl (by simp [vp,e5])) ?_
 refine l_value 21 (.int .i64 (1+(i:Int))) rfl rfl (y_add (.const (.int .i64 1)) (.tmp 20) rfl rfl (by simp [vp,zp,hsz]) (by unfold I64;omega)) ?_
 refine l_call 22 rfl rfl 38 #[(.tmp 19),(.tmp 21),(.const (.int .i64 1000000))] #[22,3,3] rfl _ Tryz.func38 (by rfl) (by rfl) #[.slice Al ll cl,.int .i64 (1+(i:Int)),.int .i64 1000000] (by simp [vp,zp,hsz,vc]) ?_
 refine hcall.mono ?_
 rintro e w' ⟨rfl,rfl⟩
 refine ⟨_,rfl,?_⟩
 refine l_value 6 (.int .i64 p) rfl rfl (y_assign (.tmp 22) rfl (by simp [vp,zp,hsz])) ?_
 refine l_nil ?_
 exact h
noncomputable def r8_7:Code:=((Tryz.f8.body.bind (regIn 7)).getD .skip)
theorem reg8_7 {Q:Exit→Act→World→Prop}{a:Act}{w:World}{k:Int}(e6:a.eval (.tmp 6)=.int .i64 k)(hk:0≤k∧k<1000000)(hsz:a.tmps.size=181)
  (h:Q .normal ((((a.put (some 23) (.int .i64 k)).put (some 24) (.int .i64 (k % 8))).put (some 25) (.agg #[.int .i64 (k % 8),.string ⟨#[]⟩,.int .i64 0,.int .i64 0,.slice none 0 0,.slice none 0 0,.slice none 0 0,.slice none 0 0,.int .i64 0,.int .i64 0,.string ⟨#[]⟩,.slice none 0 0])).put (some 7) (.pointer (some ⟨w.heap.size,0,none⟩))) ((w.alloc (.cells #[.int .i64 0,.string ⟨#[]⟩,.int .i64 0,.int .i64 0,.slice none 0 0,.slice none 0 0,.slice none 0 0,.slice none 0 0,.int .i64 0,.int .i64 0,.string ⟨#[]⟩,.slice none 0 0] 87)).setCells w.heap.size 0 [.int .i64 (k % 8),.string ⟨#[]⟩,.int .i64 0,.int .i64 0,.slice none 0 0,.slice none 0 0,.slice none 0 0,.slice none 0 0,.int .i64 0,.int .i64 0,.string ⟨#[]⟩,.slice none 0 0])):Code.wp Tryz.prog r8_7 Q a w:=by
 conv=>arg 2;whnf
 refine wp_region_W ?_
 refine l_value 23 (.int .i64 k) rfl rfl (y_move (.tmp 6) rfl (by simp [e6])) ?_
 refine l_value 24 (.int .i64 (k % 8)) rfl rfl (y_rem (.tmp 23) (.const (.int .i64 8)) rfl (by simp [vp,hsz]) rfl (by omega) (by omega)) ?_
 refine l_value 25 (.agg #[.int .i64 (k % 8),.string ⟨#[]⟩,.int .i64 0,.int .i64 0,.slice none 0 0,.slice none 0 0,.slice none 0 0,.slice none 0 0,.int .i64 0,.int .i64 0,.string ⟨#[]⟩,.slice none 0 0]) rfl rfl (y_build87 (.tmp 24) rfl (by simp [vp,zp,hsz])) ?_
 refine l_value 7 (.pointer (some ⟨w.heap.size,0,none⟩)) rfl rfl (r_alloc87 rfl) ?_
 refine l_skip rfl rfl (r_store87 (k:=k % 8) (.tmp 7) (.tmp 25) rfl (by simp [vp,zp,hsz]) (by simp [vp,zp,hsz]) (Blk.new w 87 #[.int .i64 0,.string ⟨#[]⟩,.int .i64 0,.int .i64 0,.slice none 0 0,.slice none 0 0,.slice none 0 0,.slice none 0 0,.int .i64 0,.int .i64 0,.string ⟨#[]⟩,.slice none 0 0]) rfl) ?_
 refine l_nil ?_
 exact h
noncomputable def r8_8:Code:=((Tryz.f8.body.bind (regIn 8)).getD .skip)
theorem reg8_8t {Q:Exit→Act→World→Prop}{a:Act}{w:World}{i:Nat}{gx:Nat}(e5:a.eval (.tmp 5)=.int .i64 (i:Int))(_:a.eval (.tmp 7)=.pointer (some ⟨gx,0,none⟩)){z:Int}{cs:Array Value}(_:Blk w gx 87 cs)(_:cs[0]?=some (.int .i64 z))(h2:decide ((i:Int)<2)=true)(hsz:a.tmps.size=181)
  (h:Q .normal (((((((a.put (some 26) (.int .i64 (i:Int))).put (some 27) (.bool true)).put (some 28) (.bool true)).put (some 29) (undef)).put (some 30) (undef)).put (some 31) (undef)).put (some 32) ((.bool true))) w):Code.wp Tryz.prog r8_8 Q a w:=by
 conv=>arg 2;whnf
 refine wp_region_W ?_
 refine l_value 26 (.int .i64 (i:Int)) rfl rfl (y_move (.tmp 5) rfl (by simp [e5])) ?_
 refine l_value 27 (.bool true) rfl rfl (y_lssb h2 (.tmp 26) (.const (.int .i64 2)) rfl (by simp [vp,hsz]) (by simp [vc])) ?_
 refine l_value 28 (.bool true) rfl rfl (y_move (.tmp 27) rfl (by simp [vp,zp,hsz])) ?_
 refine l_off 29 28 (j:=2) (want:=false) (b:=true) rfl rfl (by simp [zp,hsz]) (by simp [vp,zp,hsz]) rfl rfl ?_
 refine l_off 30 28 (j:=2) (want:=false) (b:=true) rfl rfl (by simp [zp,hsz]) (by simp [vp,zp,hsz]) rfl rfl ?_
 refine l_off 31 28 (j:=2) (want:=false) (b:=true) rfl rfl (by simp [zp,hsz]) (by simp [vp,zp,hsz]) rfl rfl ?_
 refine l_value 32 ((.bool true)) rfl rfl (y_pickt (.tmp 28) (.const (.bool true)) (.tmp 31) rfl (by simp [vp,zp,hsz]) rfl) ?_
 refine l_nil ?_
 exact h
theorem reg8_8f {Q:Exit→Act→World→Prop}{a:Act}{w:World}{i:Nat}{gx:Nat}(e5:a.eval (.tmp 5)=.int .i64 (i:Int))(e7:a.eval (.tmp 7)=.pointer (some ⟨gx,0,none⟩)){z:Int}{cs:Array Value}(hb:Blk w gx 87 cs)(hc:cs[0]?=some (.int .i64 z))(h2:decide ((i:Int)<2)=false)(hsz:a.tmps.size=181)
  (h:Q .normal (((((((a.put (some 26) (.int .i64 (i:Int))).put (some 27) (.bool false)).put (some 28) (.bool false)).put (some 29) (.pointer (some ⟨gx,0,none⟩))).put (some 30) (.int .i64 z)).put (some 31) (.bool (z == 5))).put (some 32) (.bool (z == 5))) w):Code.wp Tryz.prog r8_8 Q a w:=by
 conv=>arg 2;whnf
 refine wp_region_W ?_
 refine l_value 26 (.int .i64 (i:Int)) rfl rfl (y_move (.tmp 5) rfl (by simp [e5])) ?_
 refine l_value 27 (.bool false) rfl rfl (y_lssb h2 (.tmp 26) (.const (.int .i64 2)) rfl (by simp [vp,hsz]) (by simp [vc])) ?_
 refine l_value 28 (.bool false) rfl rfl (y_move (.tmp 27) rfl (by simp [vp,zp,hsz])) ?_
 refine l_onG 29 (.pointer (some ⟨gx,0,none⟩)) 28 (j:=2) (want:=false) (b:=false) rfl rfl (by simp [zp,hsz]) (by simp [vp,zp,hsz]) rfl rfl (y_f87_0 (.tmp 7) rfl (by simp [vp,e7])) ?_
 refine l_onG 30 (.int .i64 z) 28 (j:=2) (want:=false) (b:=false) rfl rfl (by simp [zp,hsz]) (by simp [vp,zp,hsz]) rfl rfl (y_load3 (.tmp 29) rfl (by simp [vp,zp,hsz]) (hb.cell' 0 hc)) ?_
 refine l_onG 31 (.bool (z == 5)) 28 (j:=2) (want:=false) (b:=false) rfl rfl (by simp [zp,hsz]) (by simp [vp,zp,hsz]) rfl rfl (y_eql 3 (by simp) (.tmp 30) (.const (.int .i64 5)) rfl (by simp [vp,zp,hsz]) rfl) ?_
 refine l_value 32 (.bool (z == 5)) rfl rfl (y_pickf (.tmp 28) (.const (.bool true)) (.tmp 31) rfl (by simp [vp,zp,hsz]) (by simp [vp,zp,hsz])) ?_
 refine l_nil ?_
 exact h
noncomputable def r8_9:Code:=((Tryz.f8.body.bind (regIn 9)).getD .skip)
theorem reg8_9 {Q:Exit→Act→World→Prop}{a:Act}{w:World}{k:Int}{gx:Nat}(e6:a.eval (.tmp 6)=.int .i64 k)(e7:a.eval (.tmp 7)=.pointer (some ⟨gx,0,none⟩)){z:Int}{cs:Array Value}(hb:Blk w gx 87 cs)(hc:cs[0]?=some (.int .i64 z))(hk:0≤k∧k<1000000)(hsz:a.tmps.size=181)
  (h:Q .normal ((((a.put (some 33) (.int .i64 k)).put (some 34) (.int .i64 (k / 8))).put (some 35) (.int .i64 ((k / 8) % 2))).put (some 36) (.pointer (some ⟨gx,0,none⟩))) (w.setCell ⟨gx,0,none⟩ (.int .i64 (k / 8 % 2)))):Code.wp Tryz.prog r8_9 Q a w:=by
 conv=>arg 2;whnf
 refine wp_region_W ?_
 refine l_value 33 (.int .i64 k) rfl rfl (y_move (.tmp 6) rfl (by simp [e6])) ?_
 refine l_value 34 (.int .i64 (k / 8)) rfl rfl (y_quo (.tmp 33) (.const (.int .i64 8)) rfl (by simp [vp,hsz]) rfl (by omega) (by omega) (by omega)) ?_
 refine l_value 35 (.int .i64 ((k / 8) % 2)) rfl rfl (y_rem (.tmp 34) (.const (.int .i64 2)) rfl (by simp [vp,zp,hsz]) rfl (by omega) (by omega)) ?_
 refine l_value 36 (.pointer (some ⟨gx,0,none⟩)) rfl rfl (y_f87_0 (.tmp 7) rfl (by simp [vp,e7])) ?_
 refine l_skip rfl rfl (r_store3 (z:=k / 8 % 2) (.tmp 36) (.tmp 35) rfl (by simp [vp,zp,hsz]) (by simp [vp,zp,hsz]) (hb.cell' 0 hc) (hb.frozen 0)) ?_
 refine l_nil ?_
 exact h
noncomputable def r8_10:Code:=((Tryz.f8.body.bind (regIn 10)).getD .skip)
theorem reg8_10 {Q:Exit→Act→World→Prop}{a:Act}{w:World}{gx:Nat}(e7:a.eval (.tmp 7)=.pointer (some ⟨gx,0,none⟩)){z:Int}{cs:Array Value}(hb:Blk w gx 87 cs)(hc:cs[0]?=some (.int .i64 z))(hsz:a.tmps.size=181)
  (h:Q .normal (((a.put (some 37) (.pointer (some ⟨gx,0,none⟩))).put (some 38) (.int .i64 z)).put (some 39) (.bool (decide (5<z)))) w):Code.wp Tryz.prog r8_10 Q a w:=by
 conv=>arg 2;whnf
 refine wp_region_W ?_
 refine l_value 37 (.pointer (some ⟨gx,0,none⟩)) rfl rfl (y_f87_0 (.tmp 7) rfl (by simp [e7])) ?_
 refine l_value 38 (.int .i64 z) rfl rfl (y_load3 (.tmp 37) rfl (by simp [vp,hsz]) (hb.cell' 0 hc)) ?_
 refine l_value 39 (.bool (decide (5<z))) rfl rfl (y_gtr (.tmp 38) (.const (.int .i64 5)) rfl (by simp [vp,zp,hsz]) rfl) ?_
 refine l_nil ?_
 exact h
noncomputable def r8_11:Code:=((Tryz.f8.body.bind (regIn 11)).getD .skip)
theorem reg8_11 {Q:Exit→Act→World→Prop}{a:Act}{w:World}{gx:Nat}(e7:a.eval (.tmp 7)=.pointer (some ⟨gx,0,none⟩)){z:Int}{cs:Array Value}(hb:Blk w gx 87 cs)(hc:cs[0]?=some (.int .i64 z))(hz:0≤z∧z<100)(hsz:a.tmps.size=181)
  (h:Q .normal ((((a.put (some 40) (.pointer (some ⟨gx,0,none⟩))).put (some 41) (.int .i64 z)).put (some 42) (.int .i64 (z - 4))).put (some 43) (.pointer (some ⟨gx,0,none⟩))) (w.setCell ⟨gx,0,none⟩ (.int .i64 (z - 4)))):Code.wp Tryz.prog r8_11 Q a w:=by
 conv=>arg 2;whnf
 refine wp_region_W ?_
 refine l_value 40 (.pointer (some ⟨gx,0,none⟩)) rfl rfl (y_f87_0 (.tmp 7) rfl (by simp [e7])) ?_
 refine l_value 41 (.int .i64 z) rfl rfl (y_load3 (.tmp 40) rfl (by simp [vp,hsz]) (hb.cell' 0 hc)) ?_
 refine l_value 42 (.int .i64 (z - 4)) rfl rfl (y_sub (.tmp 41) (.const (.int .i64 4)) rfl (by simp [vp,zp,hsz]) rfl (by unfold I64;omega)) ?_
 refine l_value 43 (.pointer (some ⟨gx,0,none⟩)) rfl rfl (y_f87_0 (.tmp 7) rfl (by simp [vp,e7])) ?_
 refine l_skip rfl rfl (r_store3 (z:=z - 4) (.tmp 43) (.tmp 42) rfl (by simp [vp,zp,hsz]) (by simp [vp,zp,hsz]) (hb.cell' 0 hc) (hb.frozen 0)) ?_
 refine l_nil ?_
 exact h
noncomputable def r8_12:Code:=((Tryz.f8.body.bind (regIn 12)).getD .skip)
theorem reg8_12 {Q:Exit→Act→World→Prop}{a:Act}{w:World}{gx:Nat}(e7:a.eval (.tmp 7)=.pointer (some ⟨gx,0,none⟩)){z:Int}{cs:Array Value}(hb:Blk w gx 87 cs)(hc:cs[0]?=some (.int .i64 z))(hsz:a.tmps.size=181)
  (h:Q .normal ((a.put (some 44) (.pointer (some ⟨gx,0,none⟩))).put (some 45) (.int .i64 z)) w):Code.wp Tryz.prog r8_12 Q a w:=by
 conv=>arg 2;whnf
 refine wp_region_W ?_
 refine l_value 44 (.pointer (some ⟨gx,0,none⟩)) rfl rfl (y_f87_0 (.tmp 7) rfl (by simp [e7])) ?_
 refine l_value 45 (.int .i64 z) rfl rfl (y_load3 (.tmp 44) rfl (by simp [vp,hsz]) (hb.cell' 0 hc)) ?_
 refine l_nil ?_
 exact h
noncomputable def r8_14:Code:=((Tryz.f8.body.bind (regIn 14)).getD .skip)
theorem reg8_14 {Q:Exit→Act→World→Prop}{a:Act}{w:World}{kk:Int}(e45:a.eval (.tmp 45)=.int .i64 kk)  (hsz:a.tmps.size=181)
  (h:Q .normal ((a.put (some 52) (.bool (kk == 0))).put (some 51) (.bool (kk == 0))) w):Code.wp Tryz.prog r8_14 Q a w:=by
 conv=>arg 2;whnf
 refine wp_region_W ?_
 refine l_value 52 (.bool (kk == 0)) rfl rfl (y_eql 3 (by simp) (.tmp 45) (.const (.int .i64 0)) rfl (by simp [e45]) rfl) ?_
 refine l_value 51 (.bool (kk == 0)) rfl rfl (y_assign (.tmp 52) rfl (by simp [vp,hsz])) ?_
 refine l_nil ?_
 exact h
noncomputable def r8_16:Code:=((Tryz.f8.body.bind (regIn 16)).getD .skip)
theorem reg8_16 {Q:Exit→Act→World→Prop}{a:Act}{w:World}{kk:Int}(e45:a.eval (.tmp 45)=.int .i64 kk)  (hsz:a.tmps.size=181)
  (h:Q .normal ((a.put (some 58) (.bool (kk == 1))).put (some 57) (.bool (kk == 1))) w):Code.wp Tryz.prog r8_16 Q a w:=by
 conv=>arg 2;whnf
 refine wp_region_W ?_
 refine l_value 58 (.bool (kk == 1)) rfl rfl (y_eql 3 (by simp) (.tmp 45) (.const (.int .i64 1)) rfl (by simp [e45]) rfl) ?_
 refine l_value 57 (.bool (kk == 1)) rfl rfl (y_assign (.tmp 58) rfl (by simp [vp,hsz])) ?_
 refine l_nil ?_
 exact h
noncomputable def r8_21:Code:=((Tryz.f8.body.bind (regIn 21)).getD .skip)
theorem reg8_21 {Q:Exit→Act→World→Prop}{a:Act}{w:World}{kk:Int}(e45:a.eval (.tmp 45)=.int .i64 kk)  (hsz:a.tmps.size=181)
  (h:Q .normal ((a.put (some 84) (.bool (kk == 2))).put (some 83) (.bool (kk == 2))) w):Code.wp Tryz.prog r8_21 Q a w:=by
 conv=>arg 2;whnf
 refine wp_region_W ?_
 refine l_value 84 (.bool (kk == 2)) rfl rfl (y_eql 3 (by simp) (.tmp 45) (.const (.int .i64 2)) rfl (by simp [e45]) rfl) ?_
 refine l_value 83 (.bool (kk == 2)) rfl rfl (y_assign (.tmp 84) rfl (by simp [vp,hsz])) ?_
 refine l_nil ?_
 exact h
noncomputable def r8_29:Code:=((Tryz.f8.body.bind (regIn 29)).getD .skip)
theorem reg8_29 {Q:Exit→Act→World→Prop}{a:Act}{w:World}{kk:Int}(e45:a.eval (.tmp 45)=.int .i64 kk)  (hsz:a.tmps.size=181)
  (h:Q .normal ((a.put (some 130) (.bool (kk == 3))).put (some 129) (.bool (kk == 3))) w):Code.wp Tryz.prog r8_29 Q a w:=by
 conv=>arg 2;whnf
 refine wp_region_W ?_
 refine l_value 130 (.bool (kk == 3)) rfl rfl (y_eql 3 (by simp) (.tmp 45) (.const (.int .i64 3)) rfl (by simp [e45]) rfl) ?_
 refine l_value 129 (.bool (kk == 3)) rfl rfl (y_assign (.tmp 130) rfl (by simp [vp,hsz])) ?_
 refine l_nil ?_
 exact h
noncomputable def r8_15:Code:=((Tryz.f8.body.bind (regIn 15)).getD .skip)
theorem reg8_15 {Q:Exit→Act→World→Prop}{a:Act}{w:World}{k:Int}{gx:Nat}(e6:a.eval (.tmp 6)=.int .i64 k)(e7:a.eval (.tmp 7)=.pointer (some ⟨gx,0,none⟩))(hk:0≤k∧k<1000000){cs:Array Value}(hb:Blk w gx 87 cs)(hs:cs.size=12)(hcall:Calls Tryz.prog 39 #[.int .i64 (k / 8)] w (RetLeaf w))(hsz:a.tmps.size=181)
  (h:∀ y A c w2,VAt w2 (fun b=>w.heap.size≤b) y A c→gsz y≤2→Ext w w2→Q .normal ((((a.put (some 53) (.int .i64 k)).put (some 54) (.int .i64 (k / 8))).put (some 55) (vagg y A c)).put (some 56) (.pointer (some ⟨gx,8,none⟩))) (w2.setCells gx 8 [.int .i64 y.kind,.int .i64 y.n,.string y.s,.slice A y.kids.length c])):Code.wp Tryz.prog r8_15 Q a w:=by
 conv=>arg 2;whnf
 refine wp_region_W ?_
 refine l_value 53 (.int .i64 k) rfl rfl (y_move (.tmp 6) rfl (by simp [e6])) ?_
 refine l_value 54 (.int .i64 (k / 8)) rfl rfl (y_quo (.tmp 53) (.const (.int .i64 8)) rfl (by simp [vp,hsz]) rfl (by omega) (by omega) (by omega)) ?_
 refine l_call 55 rfl rfl 39 #[(.tmp 54)] #[3] rfl _ Tryz.func39 (by rfl) (by rfl) #[.int .i64 (k / 8)] (by simp [vp,zp,hsz]) ?_
 refine hcall.mono ?_
 rintro e w2 ⟨y,A,c,rfl,hy,hg,hx⟩
 refine ⟨_,rfl,?_⟩
 refine l_value 56 (.pointer (some ⟨gx,8,none⟩)) rfl rfl (y_f87_8 (.tmp 7) rfl (by simp [vp,e7])) ?_
 refine l_skip rfl rfl (r_store85 (x:=y) (A:=A) (c:=c) (.tmp 56) (.tmp 55) rfl (by simp [vp,zp,hsz]) (by simp [vp,zp,hsz]) (hb.ext hx) hs) ?_
 refine l_nil ?_
 exact h y A c w2 hy hg hx
noncomputable def r8_17:Code:=((Tryz.f8.body.bind (regIn 17)).getD .skip)
theorem reg8_17 {Q:Exit→Act→World→Prop}{a:Act}{w:World}{k:Int}{gx:Nat}(e6:a.eval (.tmp 6)=.int .i64 k)(e7:a.eval (.tmp 7)=.pointer (some ⟨gx,0,none⟩)){cs:Array Value}(hb:Blk w gx 87 cs){u2:Value}(hc2:cs[2]?=some u2)(hk:0≤k∧k<1000000)(hsz:a.tmps.size=181)
  (h:Q .normal (((((a.put (some 59) (.int .i64 k)).put (some 60) (.int .i64 (k / 8))).put (some 61) (.int .i64 ((k / 8) % 7))).put (some 62) (.int .i64 (((k / 8) % 7) - 3))).put (some 63) (.pointer (some ⟨gx,2,none⟩))) (w.setCell ⟨gx,2,none⟩ (.int .i64 (k / 8 % 7 - 3)))):Code.wp Tryz.prog r8_17 Q a w:=by
 conv=>arg 2;whnf
 refine wp_region_W ?_
 refine l_value 59 (.int .i64 k) rfl rfl (y_move (.tmp 6) rfl (by simp [e6])) ?_
 refine l_value 60 (.int .i64 (k / 8)) rfl rfl (y_quo (.tmp 59) (.const (.int .i64 8)) rfl (by simp [vp,hsz]) rfl (by omega) (by omega) (by omega)) ?_
 refine l_value 61 (.int .i64 ((k / 8) % 7)) rfl rfl (y_rem (.tmp 60) (.const (.int .i64 7)) rfl (by simp [vp,zp,hsz]) rfl (by omega) (by omega)) ?_
 refine l_value 62 (.int .i64 (((k / 8) % 7) - 3)) rfl rfl (y_sub (.tmp 61) (.const (.int .i64 3)) rfl (by simp [vp,zp,hsz]) rfl (by unfold I64;omega)) ?_
 refine l_value 63 (.pointer (some ⟨gx,2,none⟩)) rfl rfl (y_f87_2 (.tmp 7) rfl (by simp [vp,e7])) ?_
 refine l_skip rfl rfl (r_store3 (z:=k / 8 % 7 - 3) (.tmp 63) (.tmp 62) rfl (by simp [vp,zp,hsz]) (by simp [vp,zp,hsz]) (hb.cell' 2 hc2) (hb.frozen 2)) ?_
 refine l_nil ?_
 exact h
noncomputable def r8_18:Code:=((Tryz.f8.body.bind (regIn 18)).getD .skip)
theorem reg8_18 {Q:Exit→Act→World→Prop}{a:Act}{w:World}{k:Int}{gx:Nat}(e6:a.eval (.tmp 6)=.int .i64 k)(e7:a.eval (.tmp 7)=.pointer (some ⟨gx,0,none⟩)){z:Int}{cs:Array Value}(hb:Blk w gx 87 cs)(hc2:cs[2]?=some (.int .i64 z)){u3:Value}(hc3:cs[3]?=some u3)(hz:-10≤z∧z≤10)(hk:0≤k∧k<1000000)(hsz:a.tmps.size=181)
  (h:Q .normal (((((((a.put (some 64) (.pointer (some ⟨gx,2,none⟩))).put (some 65) (.int .i64 z)).put (some 66) (.int .i64 k)).put (some 67) (.int .i64 (k / 56))).put (some 68) (.int .i64 ((k / 56) % 5))).put (some 69) (.int .i64 (z+((k / 56) % 5)))).put (some 70) (.pointer (some ⟨gx,3,none⟩))) (w.setCell ⟨gx,3,none⟩ (.int .i64 (z+k / 56 % 5)))):Code.wp Tryz.prog r8_18 Q a w:=by
 conv=>arg 2;whnf
 refine wp_region_W ?_
 refine l_value 64 (.pointer (some ⟨gx,2,none⟩)) rfl rfl (y_f87_2 (.tmp 7) rfl (by simp [e7])) ?_
 refine l_value 65 (.int .i64 z) rfl rfl (y_load3 (.tmp 64) rfl (by simp [vp,hsz]) (hb.cell' 2 hc2)) ?_
 refine l_value 66 (.int .i64 k) rfl rfl (y_move (.tmp 6) rfl (by simp [vp,e6])) ?_
 refine l_value 67 (.int .i64 (k / 56)) rfl rfl (y_quo (.tmp 66) (.const (.int .i64 56)) rfl (by simp [vp,zp,hsz]) rfl (by omega) (by omega) (by omega)) ?_
 refine l_value 68 (.int .i64 ((k / 56) % 5)) rfl rfl (y_rem (.tmp 67) (.const (.int .i64 5)) rfl (by simp [vp,zp,hsz]) rfl (by omega) (by omega)) ?_
 refine l_value 69 (.int .i64 (z+((k / 56) % 5))) rfl rfl (y_add (.tmp 65) (.tmp 68) rfl (by simp [vp,zp,hsz]) (by simp [vp,zp,hsz]) (by unfold I64;omega)) ?_
 refine l_value 70 (.pointer (some ⟨gx,3,none⟩)) rfl rfl (y_f87_3 (.tmp 7) rfl (by simp [vp,e7])) ?_
 refine l_skip rfl rfl (r_store3 (z:=z+k / 56 % 5) (.tmp 70) (.tmp 69) rfl (by simp [vp,zp,hsz]) (by simp [vp,zp,hsz]) (hb.cell' 3 hc3) (hb.frozen 3)) ?_
 refine l_nil ?_
 exact h
noncomputable def r8_20:Code:=((Tryz.f8.body.bind (regIn 20)).getD .skip)
theorem reg8_20 {Q:Exit→Act→World→Prop}{a:Act}{w:World}{k:Int}{gx:Nat}(e6:a.eval (.tmp 6)=.int .i64 k)(e7:a.eval (.tmp 7)=.pointer (some ⟨gx,0,none⟩)){z:Int}{cs:Array Value}(hb:Blk w gx 87 cs)(hc2:cs[2]?=some (.int .i64 z)){u3:Value}(hc3:cs[3]?=some u3)(hz:-10≤z∧z≤10)(hk:0≤k∧k<1000000)(hsz:a.tmps.size=181)
  (h:Q .normal ((((((((a.put (some 75) (.pointer (some ⟨gx,2,none⟩))).put (some 76) (.int .i64 z)).put (some 77) (.int .i64 k)).put (some 78) (.int .i64 (k % 90))).put (some 79) (.int .i64 ((k % 90)+1))).put (some 80) (.int .i64 (1000000*((k % 90)+1)))).put (some 81) (.int .i64 (z+(1000000*((k % 90)+1))))).put (some 82) (.pointer (some ⟨gx,3,none⟩))) (w.setCell ⟨gx,3,none⟩ (.int .i64 (z+1000000*(k % 90+1))))):Code.wp Tryz.prog r8_20 Q a w:=by
 conv=>arg 2;whnf
 refine wp_region_W ?_
 refine l_value 75 (.pointer (some ⟨gx,2,none⟩)) rfl rfl (y_f87_2 (.tmp 7) rfl (by simp [e7])) ?_
 refine l_value 76 (.int .i64 z) rfl rfl (y_load3 (.tmp 75) rfl (by simp [vp,hsz]) (hb.cell' 2 hc2)) ?_
 refine l_value 77 (.int .i64 k) rfl rfl (y_move (.tmp 6) rfl (by simp [vp,e6])) ?_
 refine l_value 78 (.int .i64 (k % 90)) rfl rfl (y_rem (.tmp 77) (.const (.int .i64 90)) rfl (by simp [vp,zp,hsz]) rfl (by omega) (by omega)) ?_
 refine l_value 79 (.int .i64 ((k % 90)+1)) rfl rfl (y_add (.tmp 78) (.const (.int .i64 1)) rfl (by simp [vp,zp,hsz]) rfl (by unfold I64;omega)) ?_
 refine l_value 80 (.int .i64 (1000000*((k % 90)+1))) rfl rfl (y_mul (.const (.int .i64 1000000)) (.tmp 79) rfl rfl (by simp [vp,zp,hsz]) (by unfold I64;omega)) ?_
 refine l_value 81 (.int .i64 (z+(1000000*((k % 90)+1)))) rfl rfl (y_add (.tmp 76) (.tmp 80) rfl (by simp [vp,zp,hsz]) (by simp [vp,zp,hsz]) (by unfold I64;omega)) ?_
 refine l_value 82 (.pointer (some ⟨gx,3,none⟩)) rfl rfl (y_f87_3 (.tmp 7) rfl (by simp [vp,e7])) ?_
 refine l_skip rfl rfl (r_store3 (z:=z+1000000*(k % 90+1)) (.tmp 82) (.tmp 81) rfl (by simp [vp,zp,hsz]) (by simp [vp,zp,hsz]) (hb.cell' 3 hc3) (hb.frozen 3)) ?_
 refine l_nil ?_
 exact h
noncomputable def r8_19:Code:=((Tryz.f8.body.bind (regIn 19)).getD .skip)
theorem reg8_19 {Q:Exit→Act→World→Prop}{a:Act}{w:World}{k:Int}(e6:a.eval (.tmp 6)=.int .i64 k)(hk:0≤k∧k<1000000)(hsz:a.tmps.size=181)
  (h:Q .normal ((((a.put (some 71) (.int .i64 k)).put (some 72) (.int .i64 (k / 280))).put (some 73) (.int .i64 ((k / 280) % 19))).put (some 74) (.bool (((k / 280) % 19) == 0))) w):Code.wp Tryz.prog r8_19 Q a w:=by
 conv=>arg 2;whnf
 refine wp_region_W ?_
 refine l_value 71 (.int .i64 k) rfl rfl (y_move (.tmp 6) rfl (by simp [e6])) ?_
 refine l_value 72 (.int .i64 (k / 280)) rfl rfl (y_quo (.tmp 71) (.const (.int .i64 280)) rfl (by simp [vp,hsz]) rfl (by omega) (by omega) (by omega)) ?_
 refine l_value 73 (.int .i64 ((k / 280) % 19)) rfl rfl (y_rem (.tmp 72) (.const (.int .i64 19)) rfl (by simp [vp,zp,hsz]) rfl (by omega) (by omega)) ?_
 refine l_value 74 (.bool (((k / 280) % 19) == 0)) rfl rfl (y_eql 3 (by simp) (.tmp 73) (.const (.int .i64 0)) rfl (by simp [vp,zp,hsz]) rfl) ?_
 refine l_nil ?_
 exact h
noncomputable def r8_22:Code:=((Tryz.f8.body.bind (regIn 22)).getD .skip)
theorem reg8_22 {Q:Exit→Act→World→Prop}{a:Act}{w:World}    (_:a.tmps.size=181)
  (h:Q .normal (a.put (some 8) ((.int .i64 0))) w):Code.wp Tryz.prog r8_22 Q a w:=by
 conv=>arg 2;whnf
 refine wp_region_W ?_
 refine l_value 8 ((.int .i64 0)) rfl rfl (y_assign (.const (.int .i64 0)) rfl rfl) ?_
 refine l_nil ?_
 exact h
noncomputable def r8_31:Code:=((Tryz.f8.body.bind (regIn 31)).getD .skip)
theorem reg8_31 {Q:Exit→Act→World→Prop}{a:Act}{w:World}    (_:a.tmps.size=181)
  (h:Q .normal (a.put (some 9) ((.int .i64 0))) w):Code.wp Tryz.prog r8_31 Q a w:=by
 conv=>arg 2;whnf
 refine wp_region_W ?_
 refine l_value 9 ((.int .i64 0)) rfl rfl (y_assign (.const (.int .i64 0)) rfl rfl) ?_
 refine l_nil ?_
 exact h
noncomputable def r8_23:Code:=((Tryz.f8.body.bind (regIn 23)).getD .skip)
theorem reg8_23 {Q:Exit→Act→World→Prop}{a:Act}{w:World}{k:Int}{j:Nat}(e6:a.eval (.tmp 6)=.int .i64 k)(e8:a.eval (.tmp 8)=.int .i64 (j:Int))(hk:0≤k∧k<1000000)(hsz:a.tmps.size=181)
  (h:Q .normal (((((a.put (some 85) (.int .i64 (j:Int))).put (some 86) (.int .i64 k)).put (some 87) (.int .i64 (k / 8))).put (some 88) (.int .i64 ((k / 8) % 4))).put (some 89) (.bool (decide ((j:Int)≤((k / 8) % 4))))) w):Code.wp Tryz.prog r8_23 Q a w:=by
 conv=>arg 2;whnf
 refine wp_region_W ?_
 refine l_value 85 (.int .i64 (j:Int)) rfl rfl (y_move (.tmp 8) rfl (by simp [e8])) ?_
 refine l_value 86 (.int .i64 k) rfl rfl (y_move (.tmp 6) rfl (by simp [vp,e6])) ?_
 refine l_value 87 (.int .i64 (k / 8)) rfl rfl (y_quo (.tmp 86) (.const (.int .i64 8)) rfl (by simp [vp,zp,hsz]) rfl (by omega) (by omega) (by omega)) ?_
 refine l_value 88 (.int .i64 ((k / 8) % 4)) rfl rfl (y_rem (.tmp 87) (.const (.int .i64 4)) rfl (by simp [vp,zp,hsz]) rfl (by omega) (by omega)) ?_
 refine l_value 89 (.bool (decide ((j:Int)≤((k / 8) % 4)))) rfl rfl (y_leq (.tmp 85) (.tmp 88) rfl (by simp [vp,hsz]) (by simp [vp,zp,hsz])) ?_
 refine l_nil ?_
 exact h
noncomputable def r8_32:Code:=((Tryz.f8.body.bind (regIn 32)).getD .skip)
theorem reg8_32 {Q:Exit→Act→World→Prop}{a:Act}{w:World}{k:Int}{j:Nat}(e6:a.eval (.tmp 6)=.int .i64 k)(e9:a.eval (.tmp 9)=.int .i64 (j:Int))(hk:0≤k∧k<1000000)(hsz:a.tmps.size=181)
  (h:Q .normal (((((a.put (some 138) (.int .i64 (j:Int))).put (some 139) (.int .i64 k)).put (some 140) (.int .i64 (k / 24))).put (some 141) (.int .i64 ((k / 24) % 4))).put (some 142) (.bool (decide ((j:Int)<((k / 24) % 4))))) w):Code.wp Tryz.prog r8_32 Q a w:=by
 conv=>arg 2;whnf
 refine wp_region_W ?_
 refine l_value 138 (.int .i64 (j:Int)) rfl rfl (y_move (.tmp 9) rfl (by simp [e9])) ?_
 refine l_value 139 (.int .i64 k) rfl rfl (y_move (.tmp 6) rfl (by simp [vp,e6])) ?_
 refine l_value 140 (.int .i64 (k / 24)) rfl rfl (y_quo (.tmp 139) (.const (.int .i64 24)) rfl (by simp [vp,zp,hsz]) rfl (by omega) (by omega) (by omega)) ?_
 refine l_value 141 (.int .i64 ((k / 24) % 4)) rfl rfl (y_rem (.tmp 140) (.const (.int .i64 4)) rfl (by simp [vp,zp,hsz]) rfl (by omega) (by omega)) ?_
 refine l_value 142 (.bool (decide ((j:Int)<((k / 24) % 4)))) rfl rfl (y_lss (.tmp 138) (.tmp 141) rfl (by simp [vp,hsz]) (by simp [vp,zp,hsz])) ?_
 refine l_nil ?_
 exact h
noncomputable def r8_27:Code:=((Tryz.f8.body.bind (regIn 27)).getD .skip)
theorem reg8_27 {Q:Exit→Act→World→Prop}{a:Act}{w:World}{k:Int}(e6:a.eval (.tmp 6)=.int .i64 k)(hk:0≤k∧k<1000000)(hsz:a.tmps.size=181)
  (h:Q .normal ((((a.put (some 112) (.int .i64 k)).put (some 113) (.int .i64 (k / 32))).put (some 114) (.int .i64 ((k / 32) % 3))).put (some 115) (.bool (decide (0<((k / 32) % 3))))) w):Code.wp Tryz.prog r8_27 Q a w:=by
 conv=>arg 2;whnf
 refine wp_region_W ?_
 refine l_value 112 (.int .i64 k) rfl rfl (y_move (.tmp 6) rfl (by simp [e6])) ?_
 refine l_value 113 (.int .i64 (k / 32)) rfl rfl (y_quo (.tmp 112) (.const (.int .i64 32)) rfl (by simp [vp,hsz]) rfl (by omega) (by omega) (by omega)) ?_
 refine l_value 114 (.int .i64 ((k / 32) % 3)) rfl rfl (y_rem (.tmp 113) (.const (.int .i64 3)) rfl (by simp [vp,zp,hsz]) rfl (by omega) (by omega)) ?_
 refine l_value 115 (.bool (decide (0<((k / 32) % 3)))) rfl rfl (y_gtr (.tmp 114) (.const (.int .i64 0)) rfl (by simp [vp,zp,hsz]) rfl) ?_
 refine l_nil ?_
 exact h
noncomputable def r8_24:Code:=((Tryz.f8.body.bind (regIn 24)).getD .skip)
theorem reg8_24 {Q:Exit→Act→World→Prop}{a:Act}{w:World}{j:Nat}(e8:a.eval (.tmp 8)=.int .i64 (j:Int))(hj:j≤1000)(hsz:a.tmps.size=181)
  (h:Q .normal (((a.put (some 90) (.int .i64 (j:Int))).put (some 91) (.int .i64 ((j:Int)+1))).put (some 8) (.int .i64 ((j:Int)+1))) w):Code.wp Tryz.prog r8_24 Q a w:=by
 conv=>arg 2;whnf
 refine wp_region_W ?_
 refine l_value 90 (.int .i64 (j:Int)) rfl rfl (y_move (.tmp 8) rfl (by simp [e8])) ?_
 refine l_value 91 (.int .i64 ((j:Int)+1)) rfl rfl (y_add (.tmp 90) (.const (.int .i64 1)) rfl (by simp [vp,hsz]) rfl (by unfold I64;omega)) ?_
 refine l_value 8 (.int .i64 ((j:Int)+1)) rfl rfl (y_assign (.tmp 91) rfl (by simp [vp,zp,hsz])) ?_
 refine l_nil ?_
 exact h
noncomputable def r8_33:Code:=((Tryz.f8.body.bind (regIn 33)).getD .skip)
theorem reg8_33 {Q:Exit→Act→World→Prop}{a:Act}{w:World}{j:Nat}(e9:a.eval (.tmp 9)=.int .i64 (j:Int))(hj:j≤1000)(hsz:a.tmps.size=181)
  (h:Q .normal (((a.put (some 143) (.int .i64 (j:Int))).put (some 144) (.int .i64 ((j:Int)+1))).put (some 9) (.int .i64 ((j:Int)+1))) w):Code.wp Tryz.prog r8_33 Q a w:=by
 conv=>arg 2;whnf
 refine wp_region_W ?_
 refine l_value 143 (.int .i64 (j:Int)) rfl rfl (y_move (.tmp 9) rfl (by simp [e9])) ?_
 refine l_value 144 (.int .i64 ((j:Int)+1)) rfl rfl (y_add (.tmp 143) (.const (.int .i64 1)) rfl (by simp [vp,hsz]) rfl (by unfold I64;omega)) ?_
 refine l_value 9 (.int .i64 ((j:Int)+1)) rfl rfl (y_assign (.tmp 144) rfl (by simp [vp,zp,hsz])) ?_
 refine l_nil ?_
 exact h
noncomputable def r8_5:Code:=((Tryz.f8.body.bind (regIn 5)).getD .skip)
theorem reg8_5 {Q:Exit→Act→World→Prop}{a:Act}{w:World}{i:Nat}(e5:a.eval (.tmp 5)=.int .i64 (i:Int))(hi:i≤1000)(hsz:a.tmps.size=181)
  (h:Q .normal (((a.put (some 17) (.int .i64 (i:Int))).put (some 18) (.int .i64 ((i:Int)+1))).put (some 5) (.int .i64 ((i:Int)+1))) w):Code.wp Tryz.prog r8_5 Q a w:=by
 conv=>arg 2;whnf
 refine wp_region_W ?_
 refine l_value 17 (.int .i64 (i:Int)) rfl rfl (y_move (.tmp 5) rfl (by simp [e5])) ?_
 refine l_value 18 (.int .i64 ((i:Int)+1)) rfl rfl (y_add (.tmp 17) (.const (.int .i64 1)) rfl (by simp [vp,hsz]) rfl (by unfold I64;omega)) ?_
 refine l_value 5 (.int .i64 ((i:Int)+1)) rfl rfl (y_assign (.tmp 18) rfl (by simp [vp,zp,hsz])) ?_
 refine l_nil ?_
 exact h
noncomputable def r8_30:Code:=((Tryz.f8.body.bind (regIn 30)).getD .skip)
theorem reg8_30 {Q:Exit→Act→World→Prop}{a:Act}{w:World}{k:Int}{gx:Nat}(e6:a.eval (.tmp 6)=.int .i64 k)(e7:a.eval (.tmp 7)=.pointer (some ⟨gx,0,none⟩))(hk:0≤k∧k<1000000){cs:Array Value}{u1:Value}(hb:Blk w gx 87 cs)(hc1:cs[1]?=some u1)(hsz:a.tmps.size=181)
  (h:∀ z,z.size≤100→Q .normal (((((((a.put (some 131) (.slice (some ⟨w.heap.size,0,none⟩) 3 3)).put (some 132) (.int .i64 k)).put (some 133) (.int .i64 (k / 8))).put (some 134) (.int .i64 ((k / 8) % 3))).put (some 135) (.pointer (some ⟨w.heap.size,(k / 8 % 3).toNat,none⟩))).put (some 136) (.string z)).put (some 137) (.pointer (some ⟨gx,1,none⟩))) ((w.alloc (.cells #[.string ⟨#[]⟩,.string ⟨#[80,97,105,114]⟩,.string ⟨#[]⟩] 9)).setCell ⟨gx,1,none⟩ (.string z))):Code.wp Tryz.prog r8_30 Q a w:=by
 conv=>arg 2;whnf
 obtain ⟨z,hz,hz1⟩:=nam3 (k / 8 % 3).toNat (by omega)
 refine wp_region_W ?_
 refine l_value 131 (.slice (some ⟨w.heap.size,0,none⟩) 3 3) rfl rfl (r_build82e rfl (fun _=>rfl)) ?_
 refine l_value 132 (.int .i64 k) rfl rfl (y_move (.tmp 6) rfl (by simp [vp,e6])) ?_
 refine l_value 133 (.int .i64 (k / 8)) rfl rfl (y_quo (.tmp 132) (.const (.int .i64 8)) rfl (by simp [vp,zp,hsz]) rfl (by omega) (by omega) (by omega)) ?_
 refine l_value 134 (.int .i64 ((k / 8) % 3)) rfl rfl (y_rem (.tmp 133) (.const (.int .i64 3)) rfl (by simp [vp,zp,hsz]) rfl (by omega) (by omega)) ?_
 refine l_value 135 (.pointer (some ⟨w.heap.size,(k / 8 % 3).toNat,none⟩)) rfl rfl (y_index82e (b:=w.heap.size) (n:=k / 8 % 3) (.tmp 131) (.tmp 134) rfl (by simp [vp,hsz]) (by simp [vp,zp,hsz]) (by omega) (by omega)) ?_
 refine l_value 136 (.string z) rfl rfl (y_load9 (.tmp 135) rfl (by simp [vp,zp,hsz]) (cell_new' w _ 9 _ _ _ rfl hz)) ?_
 refine l_value 137 (.pointer (some ⟨gx,1,none⟩)) rfl rfl (y_f87_1 (.tmp 7) rfl (by simp [vp,e7])) ?_
 refine l_skip rfl rfl (r_store9 (z:=z) (.tmp 137) (.tmp 136) rfl (by simp [vp,zp,hsz]) (by simp [vp,zp,hsz]) ((hb.alloc (.cells #[.string ⟨#[]⟩,.string ⟨#[80,97,105,114]⟩,.string ⟨#[]⟩] 9)).cell' 1 hc1) ((hb.alloc (.cells #[.string ⟨#[]⟩,.string ⟨#[80,97,105,114]⟩,.string ⟨#[]⟩] 9)).frozen 1)) ?_
 refine l_nil ?_
 exact h z hz1
noncomputable def r8_13:Code:=((Tryz.f8.body.bind (regIn 13)).getD .skip)
theorem reg8_13 {Q:Exit→Act→World→Prop}{a:Act}{w:World}{Al:Option Addr}{ll cl:Nat}{g3:Nat}{i:Nat}{k:Int}{gx:Nat}(e0:a.eval (.tmp 0)=.slice Al ll cl)(e3:a.eval (.tmp 3)=.pointer (some ⟨g3,0,none⟩))(e5:a.eval (.tmp 5)=.int .i64 (i:Int))(e6:a.eval (.tmp 6)=.int .i64 k)(e7:a.eval (.tmp 7)=.pointer (some ⟨gx,0,none⟩)){A3:Option Addr}{c3:Nat}{P:Nat→Prop}{cs:Array Value}(hb:Blk w gx 87 cs)(hs:cs.size=12)(hb3:Blk w g3 25 #[.slice A3 i c3])(hcall:Calls Tryz.prog 41 #[.agg #[.slice A3 i c3],.slice Al ll cl,.int .i64 i,.int .i64 k] w (RetBind P w))(hsz:a.tmps.size=181)
  (h:∀ x na w2,NAt w2 (New P w.heap.size) x na→SmallN x→x.kind ≠ 3→Ext w w2→Q .normal (((((a.put (some 46) (.agg #[.slice A3 i c3])).put (some 47) (.slice Al ll cl)).put (some 48) (.int .i64 (i:Int))).put (some 49) (.int .i64 k)).put (some 50) (nagg x na)) (w2.setCells gx 0 (ncells x na))):Code.wp Tryz.prog r8_13 Q a w:=by
 conv=>arg 2;whnf
 refine wp_region_W ?_
 refine l_value 46 (.agg #[.slice A3 i c3]) rfl rfl (y_load25 (.tmp 3) rfl (by simp [e3]) (hb3.cell' 0 rfl)) ?_
 refine l_value 47 (.slice Al ll cl) rfl rfl (y_move (.tmp 0) rfl (by simp [vp,e0])) ?_
 refine l_value 48 (.int .i64 (i:Int)) rfl rfl (y_move (.tmp 5) rfl (by simp [vp,e5])) ?_
 refine l_value 49 (.int .i64 k) rfl rfl (y_move (.tmp 6) rfl (by simp [vp,e6])) ?_
 refine l_call 50 rfl rfl 41 #[(.tmp 46),(.tmp 47),(.tmp 48),(.tmp 49)] #[25,22,3,3] rfl _ Tryz.func41 (by rfl) (by rfl) #[.agg #[.slice A3 i c3],.slice Al ll cl,.int .i64 i,.int .i64 k] (by simp [vp,zp,hsz]) ?_
 refine hcall.mono ?_
 rintro e w2 ⟨x,na,rfl,hx1,hx2,hx3,hx4⟩
 refine ⟨_,rfl,?_⟩
 refine l_skip rfl rfl (r_store87n (x:=x) (na:=na) (.tmp 7) (.tmp 50) rfl (by simp [vp,e7]) (by simp [vp,zp,hsz]) (hb.ext hx4) hs) ?_
 refine l_nil ?_
 exact h x na w2 hx1 hx2 hx3 hx4
noncomputable def r8_35:Code:=((Tryz.f8.body.bind (regIn 35)).getD .skip)
theorem reg8_35 {Q:Exit→Act→World→Prop}{a:Act}{w:World}    (hsz:a.tmps.size=181)
  (h:Q .normal ((a.put (some 154) (.agg #[.slice none 0 0])).put (some 10) (.pointer (some ⟨w.heap.size,0,none⟩))) ((w.alloc (.cells #[.slice none 0 0] 25)).setCell ⟨w.heap.size,0,none⟩ (.slice none 0 0))):Code.wp Tryz.prog r8_35 Q a w:=by
 conv=>arg 2;whnf
 refine wp_region_W ?_
 refine l_value 154 (.agg #[.slice none 0 0]) rfl rfl (y_build25 rfl) ?_
 refine l_value 10 (.pointer (some ⟨w.heap.size,0,none⟩)) rfl rfl (r_alloc25 rfl) ?_
 refine l_skip rfl rfl (r_store25 (A:=none) (n:=0) (c:=0) (.tmp 10) (.tmp 154) rfl (by simp [vp,zp,hsz]) (by simp [vp,hsz]) ((Blk.new w 25 #[.slice none 0 0]).cell' 0 rfl) ((Blk.new w 25 #[.slice none 0 0]).frozen 0)) ?_
 refine l_nil ?_
 exact h
noncomputable def r8_36:Code:=((Tryz.f8.body.bind (regIn 36)).getD .skip)
theorem reg8_36 {Q:Exit→Act→World→Prop}{a:Act}{w:World}{g3:Nat}{g10:Nat}(e3:a.eval (.tmp 3)=.pointer (some ⟨g3,0,none⟩))(e10:a.eval (.tmp 10)=.pointer (some ⟨g10,0,none⟩)){B i c3:Nat}{A3:Option Addr}{xs:List Value}(hb10:Blk w g10 25 #[.slice none 0 0])(hb3:Blk w g3 25 #[.slice A3 i c3])(hsl:Sl w (fun _=>True) 12 A3 i xs)(h1:∀ u ∈ xs,u.oneCell'=true)(hi:i≤1000)(hB:B≤w.heap.size)(hsz:a.tmps.size=181)
  (h:∀ A5 c5 w5,w5.ownsRow B 87 12 (.slice A5 i c5) i xs→Ext w w5→Q .normal ((((((a.put (some 155) (.pointer (some ⟨g10,0,none⟩))).put (some 156) (.slice none 0 0)).put (some 157) (.pointer (some ⟨g3,0,none⟩))).put (some 158) (.slice A3 i c3)).put (some 159) (.slice A5 i c5)).put (some 160) (.pointer (some ⟨g10,0,none⟩))) (w5.setCell ⟨g10,0,none⟩ (.slice A5 i c5))):Code.wp Tryz.prog r8_36 Q a w:=by
 conv=>arg 2;whnf
 obtain ⟨i3,hi3,hz30,hz31,hz32⟩:=info_parts Tryz.info87
 refine wp_region_W ?_
 refine l_value 155 (.pointer (some ⟨g10,0,none⟩)) rfl rfl (y_f25_0 (.tmp 10) rfl (by simp [e10])) ?_
 refine l_value 156 (.slice none 0 0) rfl rfl (y_load23 (.tmp 155) rfl (by simp [vp,hsz]) (hb10.cell' 0 rfl)) ?_
 refine l_value 157 (.pointer (some ⟨g3,0,none⟩)) rfl rfl (y_f25_0 (.tmp 3) rfl (by simp [vp,e3])) ?_
 refine l_value 158 (.slice A3 i c3) rfl rfl (y_load23 (.tmp 157) rfl (by simp [vp,zp,hsz]) (hb3.cell' 0 rfl)) ?_
 refine l_append (.tmp 156) (.tmp 158) 23 159 rfl rfl rfl B 87 i3 _ 12 192 Tryz.underlying23 hi3 hz30 hz31 hz32 rfl (by omega) (.slice none 0 0) 0 [] (by simp [vp,zp,hsz]) (own_none _ _ _ _) (fun _=>True) A3 i c3 xs (by simp [vp,zp,hsz]) hsl h1 (by omega) (by omega) hB ?_
 intro v5 w5 ho5 hf5 hb5
 obtain ⟨A5,c5,ev5,-,-,-⟩:=Sl.of_own ho5
 subst ev5
 have hx5:Ext w w5:=Fr.new_ext hf5 (fun b hb=>by simp [Value.ownBlock] at hb)
 rw [Nat.zero_add] at ho5 hb5 ⊢
 refine l_value 160 (.pointer (some ⟨g10,0,none⟩)) rfl rfl (y_f25_0 (.tmp 10) rfl (by simp [vp,e10])) ?_
 refine l_skip rfl rfl (r_store23 (A:=A5) (n:=i) (c:=c5) (.tmp 160) (.tmp 159) rfl (by simp [vp,zp,hsz]) (by simp [vp,zp,hsz]) ((hb10.ext hx5).cell' 0 rfl) ((hb10.ext hx5).frozen 0)) ?_
 refine l_nil ?_
 exact h A5 c5 w5 ho5 hx5
noncomputable def r8_37:Code:=((Tryz.f8.body.bind (regIn 37)).getD .skip)
theorem reg8_37 {Q:Exit→Act→World→Prop}{a:Act}{w:World}{gx:Nat}{g10:Nat}(e7:a.eval (.tmp 7)=.pointer (some ⟨gx,0,none⟩))(e10:a.eval (.tmp 10)=.pointer (some ⟨g10,0,none⟩)){B i c5:Nat}{A5:Option Addr}{xs:List Value}{x:GN}{na:NA}(hb10:Blk w g10 25 #[.slice A5 i c5])(hbx:Blk w gx 87 (ncells x na).toArray)(hown:w.ownsRow B 87 12 (.slice A5 i c5) i xs)(hg:¬ some g10=(Value.slice A5 i c5).ownBlock)(hi:i≤1000)(hB:B≤w.heap.size)(hsz:a.tmps.size=181)
  (h:∀ A6 c6 w6,w6.ownsRow B 87 12 (.slice A6 (i+1) c6) (i+1) (xs ++ ncells x na)→Fr (fun b=>some b=(Value.slice A5 i c5).ownBlock) (w.alloc (.cells (ncells x na).toArray 87)) w6→Q .normal ((((((a.put (some 161) (.pointer (some ⟨g10,0,none⟩))).put (some 162) (.slice A5 i c5)).put (some 163) (nagg x na)).put (some 164) (.slice (some ⟨w.heap.size,0,none⟩) 1 1)).put (some 165) (.slice A6 (i+1) c6)).put (some 166) (.pointer (some ⟨g10,0,none⟩))) (w6.setCell ⟨g10,0,none⟩ (.slice A6 (i+1) c6))):Code.wp Tryz.prog r8_37 Q a w:=by
 conv=>arg 2;whnf
 obtain ⟨i3,hi3,hz30,hz31,hz32⟩:=info_parts Tryz.info87
 refine wp_region_W ?_
 refine l_value 161 (.pointer (some ⟨g10,0,none⟩)) rfl rfl (y_f25_0 (.tmp 10) rfl (by simp [e10])) ?_
 refine l_value 162 (.slice A5 i c5) rfl rfl (y_load23 (.tmp 161) rfl (by simp [vp,hsz]) (hb10.cell' 0 rfl)) ?_
 refine l_value 163 (nagg x na) rfl rfl (y_load87 (.tmp 7) rfl (by simp [vp,e7]) (hbx.cell' 0 rfl) (hbx.cell' 1 rfl) (hbx.cell' 2 rfl) (hbx.cell' 3 rfl) (hbx.cell' 4 rfl) (hbx.cell' 5 rfl) (hbx.cell' 6 rfl) (hbx.cell' 7 rfl) (hbx.cell' 8 rfl) (hbx.cell' 9 rfl) (hbx.cell' 10 rfl) (hbx.cell' 11 rfl)) ?_
 refine l_value 164 (.slice (some ⟨w.heap.size,0,none⟩) 1 1) rfl rfl (r_build23 (x:=x) (na:=na) (.tmp 163) rfl (by simp [vp,zp,hsz])) ?_
 refine l_append (.tmp 162) (.tmp 164) 23 165 rfl rfl rfl B 87 i3 _ 12 192 Tryz.underlying23 hi3 hz30 hz31 hz32 rfl (by omega) (.slice A5 i c5) i xs (by simp [vp,zp,hsz]) (hown.alloc _) (fun _=>True) (some ⟨w.heap.size,0,none⟩) 1 1 (ncells x na) (by simp [vp,zp,hsz]) (Sl.new w _ _ _ _ rfl) (by simp [ncells,Value.oneCell']) (by omega) (by omega) (by simp;omega) ?_
 intro v6 w6 ho6 hf6 hb6
 obtain ⟨A6,c6,ev6,-,-,-⟩:=Sl.of_own ho6
 subst ev6
 have R6:=(hb10.alloc (.cells (ncells x na).toArray 87)).fr hf6 hg
 refine l_value 166 (.pointer (some ⟨g10,0,none⟩)) rfl rfl (y_f25_0 (.tmp 10) rfl (by simp [vp,e10])) ?_
 refine l_skip rfl rfl (r_store23 (A:=A6) (n:=i+1) (c:=c6) (.tmp 166) (.tmp 165) rfl (by simp [vp,zp,hsz]) (by simp [vp,zp,hsz]) (R6.cell' 0 rfl) (R6.frozen 0)) ?_
 refine l_nil ?_
 exact h A6 c6 w6 ho6 hf6
noncomputable def r8_38:Code:=((Tryz.f8.body.bind (regIn 38)).getD .skip)
theorem reg8_38 {Q:Exit→Act→World→Prop}{a:Act}{w:World}{g10:Nat}(e10:a.eval (.tmp 10)=.pointer (some ⟨g10,0,none⟩)){v:Int}{A6:Option Addr}{n6 c6:Nat}(hb10:Blk w g10 25 #[.slice A6 n6 c6])(hcall:Calls Tryz.prog 22 #[.agg #[.slice A6 n6 c6]] w (RetE (.int .i64 v) w))(hsz:a.tmps.size=181)
  (h:∀ w',Ext w w'→Q .normal (((a.put (some 167) (.agg #[.slice A6 n6 c6])).put (some 168) (.int .i64 v)).put (some 169) (.bool (v == 0))) w'):Code.wp Tryz.prog r8_38 Q a w:=by
 conv=>arg 2;whnf
 refine wp_region_W ?_
 refine l_value 167 (.agg #[.slice A6 n6 c6]) rfl rfl (y_load25 (.tmp 10) rfl (by simp [e10]) (hb10.cell' 0 rfl)) ?_
 refine l_call 168 rfl rfl 22 #[(.tmp 167)] #[25] rfl _ Tryz.func22 (by rfl) (by rfl) #[.agg #[.slice A6 n6 c6]] (by simp [vp,hsz]) ?_
 refine hcall.mono ?_
 rintro e w' ⟨rfl,hx⟩
 refine ⟨_,rfl,?_⟩
 refine l_value 169 (.bool (v == 0)) rfl rfl (y_eql 29 (by simp) (.tmp 168) (.const (.int .i64 0)) rfl (by simp [vp,zp,hsz]) rfl) ?_
 refine l_nil ?_
 exact h w' hx
noncomputable def r8_39:Code:=((Tryz.f8.body.bind (regIn 39)).getD .skip)
theorem reg8_39 {Q:Exit→Act→World→Prop}{a:Act}{w:World}{g10:Nat}{g3:Nat}(e10:a.eval (.tmp 10)=.pointer (some ⟨g10,0,none⟩))(e3:a.eval (.tmp 3)=.pointer (some ⟨g3,0,none⟩)){A6:Option Addr}{n6 c6:Nat}{old:Value}(hbf:Blk w g10 25 #[.slice A6 n6 c6])(hbt:Blk w g3 25 #[old])(hsz:a.tmps.size=181)
  (h:Q .normal (a.put (some 170) (.agg #[.slice A6 n6 c6])) (w.setCell ⟨g3,0,none⟩ (.slice A6 n6 c6))):Code.wp Tryz.prog r8_39 Q a w:=by
 conv=>arg 2;whnf
 refine wp_region_W ?_
 refine l_value 170 (.agg #[.slice A6 n6 c6]) rfl rfl (y_load25 (.tmp 10) rfl (by simp [e10]) (hbf.cell' 0 rfl)) ?_
 refine l_skip rfl rfl (r_store25 (A:=A6) (n:=n6) (c:=c6) (.tmp 3) (.tmp 170) rfl (by simp [vp,e3]) (by simp [vp,hsz]) (hbt.cell' 0 rfl) (hbt.frozen 0)) ?_
 refine l_nil ?_
 exact h
noncomputable def r8_41:Code:=((Tryz.f8.body.bind (regIn 41)).getD .skip)
theorem reg8_41 {Q:Exit→Act→World→Prop}{a:Act}{w:World}{g3:Nat}{g2:Nat}(e3:a.eval (.tmp 3)=.pointer (some ⟨g3,0,none⟩))(e2:a.eval (.tmp 2)=.pointer (some ⟨g2,0,none⟩)){A6:Option Addr}{n6 c6:Nat}{old:Value}(hbf:Blk w g3 25 #[.slice A6 n6 c6])(hbt:Blk w g2 25 #[old])(hsz:a.tmps.size=181)
  (h:Q .normal (a.put (some 180) (.agg #[.slice A6 n6 c6])) (w.setCell ⟨g2,0,none⟩ (.slice A6 n6 c6))):Code.wp Tryz.prog r8_41 Q a w:=by
 conv=>arg 2;whnf
 refine wp_region_W ?_
 refine l_value 180 (.agg #[.slice A6 n6 c6]) rfl rfl (y_load25 (.tmp 3) rfl (by simp [e3]) (hbf.cell' 0 rfl)) ?_
 refine l_skip rfl rfl (r_store25 (A:=A6) (n:=n6) (c:=c6) (.tmp 2) (.tmp 180) rfl (by simp [vp,e2]) (by simp [vp,hsz]) (hbt.cell' 0 rfl) (hbt.frozen 0)) ?_
 refine l_nil ?_
 exact h
noncomputable def r8_40:Code:=((Tryz.f8.body.bind (regIn 40)).getD .skip)
theorem reg8_40 {Q:Exit→Act→World→Prop}{a:Act}{w:World}{g3:Nat}{k:Int}(e3:a.eval (.tmp 3)=.pointer (some ⟨g3,0,none⟩))(e6:a.eval (.tmp 6)=.int .i64 k){B i c3:Nat}{A3:Option Addr}{xs:List Value}(hk:0≤k∧k<1000000)(hb3:Blk w g3 25 #[.slice A3 i c3])(hown:w.ownsRow B 87 12 (.slice A3 i c3) i xs)(hg:¬ some g3=(Value.slice A3 i c3).ownBlock)(hi:i≤1000)(hB:B≤w.heap.size)(hsz:a.tmps.size=181)
  (h:∀ A6 c6 w6,w6.ownsRow B 87 12 (.slice A6 (i+1) c6) (i+1) (xs ++ (ncells (numLeaf (k % 5)) ⟨none,0,none,0,none,0,none,0,none,0⟩))→Fr (fun b=>some b=(Value.slice A3 i c3).ownBlock) (w.alloc (.cells (ncells (numLeaf (k % 5)) ⟨none,0,none,0,none,0,none,0,none,0⟩).toArray 87)) w6→((Value.slice A6 (i+1) c6).ownBlock=(Value.slice A3 i c3).ownBlock∨(Value.slice A6 (i+1) c6).ownBlock=some (w.alloc (.cells (ncells (numLeaf (k % 5)) ⟨none,0,none,0,none,0,none,0,none,0⟩).toArray 87)).heap.size)→Q .normal (((((((((a.put (some 171) (.pointer (some ⟨g3,0,none⟩))).put (some 172) (.slice A3 i c3)).put (some 173) (.int .i64 k)).put (some 174) (.int .i64 (k % 5))).put (some 175) (.agg #[.int .i64 0,.int .i64 (k % 5),.string ⟨#[]⟩,.slice none 0 0])).put (some 176) (nagg (numLeaf (k % 5)) ⟨none,0,none,0,none,0,none,0,none,0⟩)).put (some 177) (.slice (some ⟨w.heap.size,0,none⟩) 1 1)).put (some 178) (.slice A6 (i+1) c6)).put (some 179) (.pointer (some ⟨g3,0,none⟩))) (w6.setCell ⟨g3,0,none⟩ (.slice A6 (i+1) c6))):Code.wp Tryz.prog r8_40 Q a w:=by
 conv=>arg 2;whnf
 obtain ⟨i3,hi3,hz30,hz31,hz32⟩:=info_parts Tryz.info87
 refine wp_region_W ?_
 refine l_value 171 (.pointer (some ⟨g3,0,none⟩)) rfl rfl (y_f25_0 (.tmp 3) rfl (by simp [e3])) ?_
 refine l_value 172 (.slice A3 i c3) rfl rfl (y_load23 (.tmp 171) rfl (by simp [vp,hsz]) (hb3.cell' 0 rfl)) ?_
 refine l_value 173 (.int .i64 k) rfl rfl (y_move (.tmp 6) rfl (by simp [vp,e6])) ?_
 refine l_value 174 (.int .i64 (k % 5)) rfl rfl (y_rem (.tmp 173) (.const (.int .i64 5)) rfl (by simp [vp,zp,hsz]) rfl (by omega) (by omega)) ?_
 refine l_value 175 (.agg #[.int .i64 0,.int .i64 (k % 5),.string ⟨#[]⟩,.slice none 0 0]) rfl rfl (y_build85 (.tmp 174) rfl (by simp [vp,zp,hsz])) ?_
 refine l_value 176 (nagg (numLeaf (k % 5)) ⟨none,0,none,0,none,0,none,0,none,0⟩) rfl rfl (y_build87v (z:=k % 5) (.tmp 175) rfl (by simp [vp,zp,hsz])) ?_
 refine l_value 177 (.slice (some ⟨w.heap.size,0,none⟩) 1 1) rfl rfl (r_build23 (x:=numLeaf (k % 5)) (na:=⟨none,0,none,0,none,0,none,0,none,0⟩) (.tmp 176) rfl (by simp [vp,zp,hsz])) ?_
 refine l_append (.tmp 172) (.tmp 177) 23 178 rfl rfl rfl B 87 i3 _ 12 192 Tryz.underlying23 hi3 hz30 hz31 hz32 rfl (by omega) (.slice A3 i c3) i xs (by simp [vp,zp,hsz]) (hown.alloc _) (fun _=>True) (some ⟨w.heap.size,0,none⟩) 1 1 (ncells (numLeaf (k % 5)) ⟨none,0,none,0,none,0,none,0,none,0⟩) (by simp [vp,zp,hsz]) (Sl.new w _ _ _ _ rfl) (by simp [ncells,Value.oneCell']) (by omega) (by omega) (by simp;omega) ?_
 intro v6 w6 ho6 hf6 hb6
 obtain ⟨A6,c6,ev6,-,-,-⟩:=Sl.of_own ho6
 subst ev6
 have R6:=(hb3.alloc (.cells (ncells (numLeaf (k % 5)) ⟨none,0,none,0,none,0,none,0,none,0⟩).toArray 87)).fr hf6 hg
 refine l_value 179 (.pointer (some ⟨g3,0,none⟩)) rfl rfl (y_f25_0 (.tmp 3) rfl (by simp [vp,e3])) ?_
 refine l_skip rfl rfl (r_store23 (A:=A6) (n:=i+1) (c:=c6) (.tmp 179) (.tmp 178) rfl (by simp [vp,zp,hsz]) (by simp [vp,zp,hsz]) (R6.cell' 0 rfl) (R6.frozen 0)) ?_
 refine l_nil ?_
 exact h A6 c6 w6 ho6 hf6 hb6
end Go.Proofs.YtkoeecdjijfjnaaGreat
