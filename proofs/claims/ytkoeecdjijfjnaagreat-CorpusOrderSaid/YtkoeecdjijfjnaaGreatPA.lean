/- The regions of lives, against a frame that is a variable. Conditions: none. (printed by gen/lv.py) -/
import Derived.Test.YtkoeecdjijfjnaaGreatAX
namespace Go.Proofs.YtkoeecdjijfjnaaGreat
open Go.RowKit
theorem put_df (a:Act)(d:Nat)(v:Value):(a.put (some d) v).defers=a.defers:=rfl
theorem ints_one (w:World)(z:Int)(hz:I64 z):Ints (w.alloc (.cells #[.int .i64 z] 3)) (fun _=>True) (.slice (some ⟨w.heap.size,0,none⟩) 1 1) [z] :=
 ⟨some ⟨w.heap.size,0,none⟩,1,rfl,Nat.le_refl _,by simp,by simpa using hz,Sl.new w _ _ 1 1 rfl⟩
noncomputable def r23_0:Code:=((Tryz.f23.body.bind (regIn 0)).getD .skip)
theorem reg23_0 {Q:Exit→Act→World→Prop}{a:Act}{w:World}    (_:a.tmps.size=125)
  (h:Q .normal (a.put (some 0) ((.bool false))) w):Code.wp Tryz.prog r23_0 Q a w:=by
 conv=>arg 2;whnf
 refine wp_region_W ?_
 refine l_value 0 ((.bool false)) rfl rfl (y_assign (.const (.bool false)) rfl rfl) ?_
 refine l_nil ?_
 exact h
noncomputable def r23_1:Code:=((Tryz.f23.body.bind (regIn 1)).getD .skip)
theorem reg23_1 {Q:Exit→Act→World→Prop}{a:Act}{w:World}    (hsz:a.tmps.size=125)
  (h:Q .normal ((((a.put (some 13) (nagg (⟨1,⟨#[]⟩,0,9,[],[],[],[],.mk 0 0 ⟨#[]⟩ []⟩:GN) ⟨none,0,none,0,none,0,none,0,none,0⟩)).put (some 14) (.slice (some ⟨w.heap.size,0,none⟩) 1 1)).put (some 15) (.agg #[.slice (some ⟨w.heap.size,0,none⟩) 1 1])).put (some 1) (.pointer (some ⟨(w.alloc (.cells (ncells (⟨1,⟨#[]⟩,0,9,[],[],[],[],.mk 0 0 ⟨#[]⟩ []⟩:GN) ⟨none,0,none,0,none,0,none,0,none,0⟩).toArray 87)).heap.size,0,none⟩))) (((w.alloc (.cells (ncells (⟨1,⟨#[]⟩,0,9,[],[],[],[],.mk 0 0 ⟨#[]⟩ []⟩:GN) ⟨none,0,none,0,none,0,none,0,none,0⟩).toArray 87)).alloc (.cells #[.slice none 0 0] 25)).setCell ⟨(w.alloc (.cells (ncells (⟨1,⟨#[]⟩,0,9,[],[],[],[],.mk 0 0 ⟨#[]⟩ []⟩:GN) ⟨none,0,none,0,none,0,none,0,none,0⟩).toArray 87)).heap.size,0,none⟩ (.slice (some ⟨w.heap.size,0,none⟩) 1 1))):Code.wp Tryz.prog r23_1 Q a w:=by
 conv=>arg 2;whnf
 refine wp_region_W ?_
 refine l_value 13 (nagg (⟨1,⟨#[]⟩,0,9,[],[],[],[],.mk 0 0 ⟨#[]⟩ []⟩:GN) ⟨none,0,none,0,none,0,none,0,none,0⟩) rfl rfl (y_build87r (x:=1) (y:=9) rfl (fun _=>rfl)) ?_
 refine l_value 14 (.slice (some ⟨w.heap.size,0,none⟩) 1 1) rfl rfl (r_build23 (x:=(⟨1,⟨#[]⟩,0,9,[],[],[],[],.mk 0 0 ⟨#[]⟩ []⟩:GN)) (na:=⟨none,0,none,0,none,0,none,0,none,0⟩) (.tmp 13) rfl (by simp [vp,hsz])) ?_
 refine l_value 15 (.agg #[.slice (some ⟨w.heap.size,0,none⟩) 1 1]) rfl rfl (y_build25s (.tmp 14) rfl (by simp [vp,zp,hsz])) ?_
 refine l_value 1 (.pointer (some ⟨(w.alloc (.cells (ncells (⟨1,⟨#[]⟩,0,9,[],[],[],[],.mk 0 0 ⟨#[]⟩ []⟩:GN) ⟨none,0,none,0,none,0,none,0,none,0⟩).toArray 87)).heap.size,0,none⟩)) rfl rfl (r_alloc25 rfl) ?_
 refine l_skip rfl rfl (r_store25 (A:=some ⟨w.heap.size,0,none⟩) (n:=1) (c:=1) (.tmp 1) (.tmp 15) rfl (by simp [vp,zp,hsz]) (by simp [vp,zp,hsz]) ((Blk.new (w.alloc (.cells (ncells (⟨1,⟨#[]⟩,0,9,[],[],[],[],.mk 0 0 ⟨#[]⟩ []⟩:GN) ⟨none,0,none,0,none,0,none,0,none,0⟩).toArray 87)) 25 #[.slice none 0 0]).cell' 0 rfl) ((Blk.new (w.alloc (.cells (ncells (⟨1,⟨#[]⟩,0,9,[],[],[],[],.mk 0 0 ⟨#[]⟩ []⟩:GN) ⟨none,0,none,0,none,0,none,0,none,0⟩).toArray 87)) 25 #[.slice none 0 0]).frozen 0)) ?_
 refine l_nil ?_
 exact h
noncomputable def r23_2:Code:=((Tryz.f23.body.bind (regIn 2)).getD .skip)
theorem reg23_2 {Q:Exit→Act→World→Prop}{a:Act}{w:World}{gt:Nat}(e1:a.eval (.tmp 1)=.pointer (some ⟨gt,0,none⟩)){A:Option Addr}{m c:Nat}{t:List GN}(hb:Blk w gt 25 #[.slice A m c])(hcall:Calls Tryz.prog 10 #[.agg #[.slice A m c],.int .i64 7] w (RetNewC t 7 w))(hsz:a.tmps.size=125)
  (h:∀ g P vn w',Mine t vn 7 [] g P (.slice none 0 0) w.heap.size w'→Ext w w'→Q .normal (((((((a.put (some 17) (.agg #[.slice A m c])).put (some 18) (.tuple #[.pointer (some ⟨g.c,0,none⟩),.int .i64 0])).put (some 16) (.tuple #[.pointer (some ⟨g.c,0,none⟩),.int .i64 0])).put (some 19) (.pointer (some ⟨g.c,0,none⟩))).put (some 20) (.int .i64 0)).put (some 2) (.pointer (some ⟨g.c,0,none⟩))).put (some 3) (.int .i64 0)) w'):Code.wp Tryz.prog r23_2 Q a w:=by
 conv=>arg 2;whnf
 refine wp_region_W ?_
 refine l_value 17 (.agg #[.slice A m c]) rfl rfl (y_load25 (.tmp 1) rfl (by simp [e1]) (hb.cell' 0 rfl)) ?_
 refine l_call 18 rfl rfl 10 #[(.tmp 17),(.const (.int .i64 7))] #[25,3] rfl _ Tryz.func10 (by rfl) (by rfl) #[.agg #[.slice A m c],(.int .i64 7)] (by simp [vp,hsz,vc]) ?_
 refine (hcall).mono ?_
 rintro e w' ⟨g,P,vn,rfl,hm,hx⟩
 refine ⟨_,rfl,?_⟩
 refine l_value 16 (.tuple #[.pointer (some ⟨g.c,0,none⟩),.int .i64 0]) rfl rfl (y_move (.tmp 18) rfl (by simp [vp,zp,hsz])) ?_
 refine l_value 19 (.pointer (some ⟨g.c,0,none⟩)) rfl rfl (y_ext0 (u:=.pointer (some ⟨g.c,0,none⟩)) (v:=.int .i64 0) (.tmp 16) rfl (by simp [vp,zp,hsz])) ?_
 refine l_value 20 (.int .i64 0) rfl rfl (y_ext1 (u:=.pointer (some ⟨g.c,0,none⟩)) (v:=.int .i64 0) (.tmp 16) rfl (by simp [vp,zp,hsz])) ?_
 refine l_value 2 (.pointer (some ⟨g.c,0,none⟩)) rfl rfl (y_assign (.tmp 19) rfl (by simp [vp,zp,hsz])) ?_
 refine l_value 3 (.int .i64 0) rfl rfl (y_assign (.tmp 20) rfl (by simp [vp,zp,hsz])) ?_
 refine l_nil ?_
 exact h g P vn w' hm hx
noncomputable def r23_3:Code:=((Tryz.f23.body.bind (regIn 3)).getD .skip)
theorem reg23_3 {Q:Exit→Act→World→Prop}{a:Act}{w:World}{gt:Nat}(e1:a.eval (.tmp 1)=.pointer (some ⟨gt,0,none⟩)){A:Option Addr}{m c:Nat}{t:List GN}(hb:Blk w gt 25 #[.slice A m c])(hcall:Calls Tryz.prog 10 #[.agg #[.slice A m c],.int .i64 7] w (RetNewC t 7 w))(hsz:a.tmps.size=125)
  (h:∀ g P vn w',Mine t vn 7 [] g P (.slice none 0 0) w.heap.size w'→Ext w w'→Q .normal (((((((a.put (some 22) (.agg #[.slice A m c])).put (some 23) (.tuple #[.pointer (some ⟨g.c,0,none⟩),.int .i64 0])).put (some 21) (.tuple #[.pointer (some ⟨g.c,0,none⟩),.int .i64 0])).put (some 24) (.pointer (some ⟨g.c,0,none⟩))).put (some 25) (.int .i64 0)).put (some 4) (.pointer (some ⟨g.c,0,none⟩))).put (some 5) (.int .i64 0)) w'):Code.wp Tryz.prog r23_3 Q a w:=by
 conv=>arg 2;whnf
 refine wp_region_W ?_
 refine l_value 22 (.agg #[.slice A m c]) rfl rfl (y_load25 (.tmp 1) rfl (by simp [e1]) (hb.cell' 0 rfl)) ?_
 refine l_call 23 rfl rfl 10 #[(.tmp 22),(.const (.int .i64 7))] #[25,3] rfl _ Tryz.func10 (by rfl) (by rfl) #[.agg #[.slice A m c],(.int .i64 7)] (by simp [vp,hsz,vc]) ?_
 refine (hcall).mono ?_
 rintro e w' ⟨g,P,vn,rfl,hm,hx⟩
 refine ⟨_,rfl,?_⟩
 refine l_value 21 (.tuple #[.pointer (some ⟨g.c,0,none⟩),.int .i64 0]) rfl rfl (y_move (.tmp 23) rfl (by simp [vp,zp,hsz])) ?_
 refine l_value 24 (.pointer (some ⟨g.c,0,none⟩)) rfl rfl (y_ext0 (u:=.pointer (some ⟨g.c,0,none⟩)) (v:=.int .i64 0) (.tmp 21) rfl (by simp [vp,zp,hsz])) ?_
 refine l_value 25 (.int .i64 0) rfl rfl (y_ext1 (u:=.pointer (some ⟨g.c,0,none⟩)) (v:=.int .i64 0) (.tmp 21) rfl (by simp [vp,zp,hsz])) ?_
 refine l_value 4 (.pointer (some ⟨g.c,0,none⟩)) rfl rfl (y_assign (.tmp 24) rfl (by simp [vp,zp,hsz])) ?_
 refine l_value 5 (.int .i64 0) rfl rfl (y_assign (.tmp 25) rfl (by simp [vp,zp,hsz])) ?_
 refine l_nil ?_
 exact h g P vn w' hm hx
noncomputable def r23_4:Code:=((Tryz.f23.body.bind (regIn 4)).getD .skip)
theorem reg23_4 {Q:Exit→Act→World→Prop}{a:Act}{w:World}{g1:CA}  {g2:CA}  (e2:a.eval (.tmp 2)=.pointer (some ⟨g1.c,0,none⟩))(e3:a.eval (.tmp 3)=.int .i64 0)(e4:a.eval (.tmp 4)=.pointer (some ⟨g2.c,0,none⟩))(e5:a.eval (.tmp 5)=.int .i64 0)  (hsz:a.tmps.size=125)
  (h:Q .normal ((((((((((((((a.put (some 26) (.pointer (some ⟨g1.c,0,none⟩))).put (some 27) (.bool false)).put (some 28) (.bool false)).put (some 29) (.pointer (some ⟨g2.c,0,none⟩))).put (some 30) (.bool false)).put (some 31) (.bool false)).put (some 32) (.bool false)).put (some 33) (.int .i64 0)).put (some 34) (.bool false)).put (some 35) (.bool false)).put (some 36) (.bool false)).put (some 37) (.int .i64 0)).put (some 38) (.bool false)).put (some 39) (.bool false)) w):Code.wp Tryz.prog r23_4 Q a w:=by
 conv=>arg 2;whnf
 refine wp_region_W ?_
 refine l_value 26 (.pointer (some ⟨g1.c,0,none⟩)) rfl rfl (y_move (.tmp 2) rfl (by simp [e2])) ?_
 refine l_value 27 (.bool false) rfl rfl (y_nil28 (A:=⟨g1.c,0,none⟩) (.tmp 26) rfl (by simp [vp,hsz]) (fun _=>rfl)) ?_
 refine l_value 28 (.bool false) rfl rfl (y_move (.tmp 27) rfl (by simp [vp,zp,hsz])) ?_
 refine l_onG 29 (.pointer (some ⟨g2.c,0,none⟩)) 28 (j:=2) (want:=false) (b:=false) rfl rfl (by simp [zp,hsz]) (by simp [vp,zp,hsz]) rfl rfl (y_move (.tmp 4) rfl (by simp [vp,e4])) ?_
 refine l_onG 30 (.bool false) 28 (j:=2) (want:=false) (b:=false) rfl rfl (by simp [zp,hsz]) (by simp [vp,zp,hsz]) rfl rfl (y_nil28 (A:=⟨g2.c,0,none⟩) (.tmp 29) rfl (by simp [vp,zp,hsz]) (fun _=>rfl)) ?_
 refine l_value 31 (.bool false) rfl rfl (y_pickf (.tmp 28) (.const (.bool true)) (.tmp 30) rfl (by simp [vp,zp,hsz]) (by simp [vp,zp,hsz])) ?_
 refine l_value 32 (.bool false) rfl rfl (y_move (.tmp 31) rfl (by simp [vp,zp,hsz])) ?_
 refine l_onG 33 (.int .i64 0) 32 (j:=6) (want:=false) (b:=false) rfl rfl (by simp [zp,hsz]) (by simp [vp,zp,hsz]) rfl rfl (y_move (.tmp 3) rfl (by simp [vp,e3])) ?_
 refine l_onG 34 (.bool false) 32 (j:=6) (want:=false) (b:=false) rfl rfl (by simp [zp,hsz]) (by simp [vp,zp,hsz]) rfl rfl (y_neqb (a:=0) (b:=0) rfl 29 (by simp) (.tmp 33) (.const (.int .i64 0)) rfl (by simp [vp,zp,hsz]) rfl) ?_
 refine l_value 35 (.bool false) rfl rfl (y_pickf (.tmp 32) (.const (.bool true)) (.tmp 34) rfl (by simp [vp,zp,hsz]) (by simp [vp,zp,hsz])) ?_
 refine l_value 36 (.bool false) rfl rfl (y_move (.tmp 35) rfl (by simp [vp,zp,hsz])) ?_
 refine l_onG 37 (.int .i64 0) 36 (j:=10) (want:=false) (b:=false) rfl rfl (by simp [zp,hsz]) (by simp [vp,zp,hsz]) rfl rfl (y_move (.tmp 5) rfl (by simp [vp,e5])) ?_
 refine l_onG 38 (.bool false) 36 (j:=10) (want:=false) (b:=false) rfl rfl (by simp [zp,hsz]) (by simp [vp,zp,hsz]) rfl rfl (y_neqb (a:=0) (b:=0) rfl 29 (by simp) (.tmp 37) (.const (.int .i64 0)) rfl (by simp [vp,zp,hsz]) rfl) ?_
 refine l_value 39 (.bool false) rfl rfl (y_pickf (.tmp 36) (.const (.bool true)) (.tmp 38) rfl (by simp [vp,zp,hsz]) (by simp [vp,zp,hsz])) ?_
 refine l_nil ?_
 exact h
noncomputable def r23_6:Code:=((Tryz.f23.body.bind (regIn 6)).getD .skip)
theorem reg23_6 {Q:Exit→Act→World→Prop}{a:Act}{w:World}{g1:CA}(e2:a.eval (.tmp 2)=.pointer (some ⟨g1.c,0,none⟩)){r:Bool}{R:World→Prop}(hcall:Calls Tryz.prog 12 #[.pointer (some ⟨g1.c,0,none⟩),.slice (some ⟨w.heap.size,0,none⟩) 1 1,ragg 0 0 0,.bool false] (w.alloc (.cells #[.int .i64 5] 3)) fun e w'=>e=.returned (.tuple #[.bool r,.int .i64 0])∧R w')(hsz:a.tmps.size=125)
  (h:∀ w',R w'→Q .normal ((((a.put (some 40) (.pointer (some ⟨g1.c,0,none⟩))).put (some 41) (.slice (some ⟨w.heap.size,0,none⟩) 1 1)).put (some 42) (ragg 0 0 0)).put (some 43) (.tuple #[.bool r,.int .i64 0])) w'):Code.wp Tryz.prog r23_6 Q a w:=by
 conv=>arg 2;whnf
 refine wp_region_W ?_
 refine l_value 40 (.pointer (some ⟨g1.c,0,none⟩)) rfl rfl (y_move (.tmp 2) rfl (by simp [e2])) ?_
 refine l_value 41 (.slice (some ⟨w.heap.size,0,none⟩) 1 1) rfl rfl (r_build22 (z:=5) (.const (.int .i64 5)) rfl rfl) ?_
 refine l_value 42 (ragg 0 0 0) rfl rfl (y_build46 rfl) ?_
 refine l_call 43 rfl rfl 12 #[(.tmp 40),(.tmp 41),(.tmp 42),(.const (.bool false))] #[28,22,46,4] rfl _ Tryz.func12 (by rfl) (by rfl) #[.pointer (some ⟨g1.c,0,none⟩),.slice (some ⟨w.heap.size,0,none⟩) 1 1,ragg 0 0 0,(.bool false)] (by simp [vp,zp,hsz,vc]) ?_
 refine (hcall).mono ?_
 rintro e w' ⟨rfl,hR⟩
 refine ⟨_,rfl,?_⟩
 refine l_nil ?_
 exact h w' hR
noncomputable def r23_7:Code:=((Tryz.f23.body.bind (regIn 7)).getD .skip)
theorem reg23_7 {Q:Exit→Act→World→Prop}{a:Act}{w:World}{g1:CA}(e2:a.eval (.tmp 2)=.pointer (some ⟨g1.c,0,none⟩)){r:Bool}{R:World→Prop}(hcall:Calls Tryz.prog 12 #[.pointer (some ⟨g1.c,0,none⟩),.slice (some ⟨w.heap.size,0,none⟩) 1 1,ragg 0 0 0,.bool false] (w.alloc (.cells #[.int .i64 3] 3)) fun e w'=>e=.returned (.tuple #[.bool r,.int .i64 0])∧R w')(hsz:a.tmps.size=125)
  (h:∀ w',R w'→Q .normal ((((a.put (some 44) (.pointer (some ⟨g1.c,0,none⟩))).put (some 45) (.slice (some ⟨w.heap.size,0,none⟩) 1 1)).put (some 46) (ragg 0 0 0)).put (some 47) (.tuple #[.bool r,.int .i64 0])) w'):Code.wp Tryz.prog r23_7 Q a w:=by
 conv=>arg 2;whnf
 refine wp_region_W ?_
 refine l_value 44 (.pointer (some ⟨g1.c,0,none⟩)) rfl rfl (y_move (.tmp 2) rfl (by simp [e2])) ?_
 refine l_value 45 (.slice (some ⟨w.heap.size,0,none⟩) 1 1) rfl rfl (r_build22 (z:=3) (.const (.int .i64 3)) rfl rfl) ?_
 refine l_value 46 (ragg 0 0 0) rfl rfl (y_build46 rfl) ?_
 refine l_call 47 rfl rfl 12 #[(.tmp 44),(.tmp 45),(.tmp 46),(.const (.bool false))] #[28,22,46,4] rfl _ Tryz.func12 (by rfl) (by rfl) #[.pointer (some ⟨g1.c,0,none⟩),.slice (some ⟨w.heap.size,0,none⟩) 1 1,ragg 0 0 0,(.bool false)] (by simp [vp,zp,hsz,vc]) ?_
 refine (hcall).mono ?_
 rintro e w' ⟨rfl,hR⟩
 refine ⟨_,rfl,?_⟩
 refine l_nil ?_
 exact h w' hR
noncomputable def r23_8:Code:=((Tryz.f23.body.bind (regIn 8)).getD .skip)
theorem reg23_8 {Q:Exit→Act→World→Prop}{a:Act}{w:World}{g1:CA}(e2:a.eval (.tmp 2)=.pointer (some ⟨g1.c,0,none⟩)){R:World→Prop}(hcall:Calls Tryz.prog 12 #[.pointer (some ⟨g1.c,0,none⟩),.slice (some ⟨w.heap.size,0,none⟩) 1 1,ragg 0 0 0,.bool false] (w.alloc (.cells #[.int .i64 8] 3)) fun e w'=>e=.returned (.tuple #[.bool false,.int .i64 0])∧R w')(hsz:a.tmps.size=125)
  (h:∀ w',R w'→Q .normal (((((((((a.put (some 49) (.pointer (some ⟨g1.c,0,none⟩))).put (some 50) (.slice (some ⟨w.heap.size,0,none⟩) 1 1)).put (some 51) (ragg 0 0 0)).put (some 52) (.tuple #[.bool false,.int .i64 0])).put (some 48) (.tuple #[.bool false,.int .i64 0])).put (some 53) (.bool false)).put (some 54) (.int .i64 0)).put (some 6) (.bool false)).put (some 7) (.int .i64 0)) w'):Code.wp Tryz.prog r23_8 Q a w:=by
 conv=>arg 2;whnf
 refine wp_region_W ?_
 refine l_value 49 (.pointer (some ⟨g1.c,0,none⟩)) rfl rfl (y_move (.tmp 2) rfl (by simp [e2])) ?_
 refine l_value 50 (.slice (some ⟨w.heap.size,0,none⟩) 1 1) rfl rfl (r_build22 (z:=8) (.const (.int .i64 8)) rfl rfl) ?_
 refine l_value 51 (ragg 0 0 0) rfl rfl (y_build46 rfl) ?_
 refine l_call 52 rfl rfl 12 #[(.tmp 49),(.tmp 50),(.tmp 51),(.const (.bool false))] #[28,22,46,4] rfl _ Tryz.func12 (by rfl) (by rfl) #[.pointer (some ⟨g1.c,0,none⟩),.slice (some ⟨w.heap.size,0,none⟩) 1 1,ragg 0 0 0,(.bool false)] (by simp [vp,zp,hsz,vc]) ?_
 refine (hcall).mono ?_
 rintro e w' ⟨rfl,hR⟩
 refine ⟨_,rfl,?_⟩
 refine l_value 48 (.tuple #[.bool false,.int .i64 0]) rfl rfl (y_move (.tmp 52) rfl (by simp [vp,zp,hsz])) ?_
 refine l_value 53 (.bool false) rfl rfl (y_ext0 (u:=.bool false) (v:=.int .i64 0) (.tmp 48) rfl (by simp [vp,zp,hsz])) ?_
 refine l_value 54 (.int .i64 0) rfl rfl (y_ext1 (u:=.bool false) (v:=.int .i64 0) (.tmp 48) rfl (by simp [vp,zp,hsz])) ?_
 refine l_value 6 (.bool false) rfl rfl (y_assign (.tmp 53) rfl (by simp [vp,zp,hsz])) ?_
 refine l_value 7 (.int .i64 0) rfl rfl (y_assign (.tmp 54) rfl (by simp [vp,zp,hsz])) ?_
 refine l_nil ?_
 exact h w' hR
noncomputable def r23_9:Code:=((Tryz.f23.body.bind (regIn 9)).getD .skip)
theorem reg23_9 {Q:Exit→Act→World→Prop}{a:Act}{w:World}{g2:CA}(e4:a.eval (.tmp 4)=.pointer (some ⟨g2.c,0,none⟩)){r:Bool}{R:World→Prop}(hcall:Calls Tryz.prog 12 #[.pointer (some ⟨g2.c,0,none⟩),.slice (some ⟨w.heap.size,0,none⟩) 1 1,ragg 0 0 0,.bool false] (w.alloc (.cells #[.int .i64 5] 3)) fun e w'=>e=.returned (.tuple #[.bool r,.int .i64 0])∧R w')(hsz:a.tmps.size=125)
  (h:∀ w',R w'→Q .normal ((((a.put (some 55) (.pointer (some ⟨g2.c,0,none⟩))).put (some 56) (.slice (some ⟨w.heap.size,0,none⟩) 1 1)).put (some 57) (ragg 0 0 0)).put (some 58) (.tuple #[.bool r,.int .i64 0])) w'):Code.wp Tryz.prog r23_9 Q a w:=by
 conv=>arg 2;whnf
 refine wp_region_W ?_
 refine l_value 55 (.pointer (some ⟨g2.c,0,none⟩)) rfl rfl (y_move (.tmp 4) rfl (by simp [e4])) ?_
 refine l_value 56 (.slice (some ⟨w.heap.size,0,none⟩) 1 1) rfl rfl (r_build22 (z:=5) (.const (.int .i64 5)) rfl rfl) ?_
 refine l_value 57 (ragg 0 0 0) rfl rfl (y_build46 rfl) ?_
 refine l_call 58 rfl rfl 12 #[(.tmp 55),(.tmp 56),(.tmp 57),(.const (.bool false))] #[28,22,46,4] rfl _ Tryz.func12 (by rfl) (by rfl) #[.pointer (some ⟨g2.c,0,none⟩),.slice (some ⟨w.heap.size,0,none⟩) 1 1,ragg 0 0 0,(.bool false)] (by simp [vp,zp,hsz,vc]) ?_
 refine (hcall).mono ?_
 rintro e w' ⟨rfl,hR⟩
 refine ⟨_,rfl,?_⟩
 refine l_nil ?_
 exact h w' hR
noncomputable def r23_10:Code:=((Tryz.f23.body.bind (regIn 10)).getD .skip)
theorem reg23_10 {Q:Exit→Act→World→Prop}{a:Act}{w:World}{g2:CA}(e4:a.eval (.tmp 4)=.pointer (some ⟨g2.c,0,none⟩)){r:Bool}{R:World→Prop}(hcall:Calls Tryz.prog 12 #[.pointer (some ⟨g2.c,0,none⟩),.slice (some ⟨w.heap.size,0,none⟩) 1 1,ragg 0 0 0,.bool false] (w.alloc (.cells #[.int .i64 3] 3)) fun e w'=>e=.returned (.tuple #[.bool r,.int .i64 0])∧R w')(hsz:a.tmps.size=125)
  (h:∀ w',R w'→Q .normal ((((a.put (some 59) (.pointer (some ⟨g2.c,0,none⟩))).put (some 60) (.slice (some ⟨w.heap.size,0,none⟩) 1 1)).put (some 61) (ragg 0 0 0)).put (some 62) (.tuple #[.bool r,.int .i64 0])) w'):Code.wp Tryz.prog r23_10 Q a w:=by
 conv=>arg 2;whnf
 refine wp_region_W ?_
 refine l_value 59 (.pointer (some ⟨g2.c,0,none⟩)) rfl rfl (y_move (.tmp 4) rfl (by simp [e4])) ?_
 refine l_value 60 (.slice (some ⟨w.heap.size,0,none⟩) 1 1) rfl rfl (r_build22 (z:=3) (.const (.int .i64 3)) rfl rfl) ?_
 refine l_value 61 (ragg 0 0 0) rfl rfl (y_build46 rfl) ?_
 refine l_call 62 rfl rfl 12 #[(.tmp 59),(.tmp 60),(.tmp 61),(.const (.bool false))] #[28,22,46,4] rfl _ Tryz.func12 (by rfl) (by rfl) #[.pointer (some ⟨g2.c,0,none⟩),.slice (some ⟨w.heap.size,0,none⟩) 1 1,ragg 0 0 0,(.bool false)] (by simp [vp,zp,hsz,vc]) ?_
 refine (hcall).mono ?_
 rintro e w' ⟨rfl,hR⟩
 refine ⟨_,rfl,?_⟩
 refine l_nil ?_
 exact h w' hR
noncomputable def r23_11:Code:=((Tryz.f23.body.bind (regIn 11)).getD .skip)
theorem reg23_11 {Q:Exit→Act→World→Prop}{a:Act}{w:World}{g2:CA}(e4:a.eval (.tmp 4)=.pointer (some ⟨g2.c,0,none⟩)){R:World→Prop}(hcall:Calls Tryz.prog 12 #[.pointer (some ⟨g2.c,0,none⟩),.slice (some ⟨w.heap.size,0,none⟩) 1 1,ragg 0 0 0,.bool true] (w.alloc (.cells #[.int .i64 8] 3)) fun e w'=>e=.returned (.tuple #[.bool true,.int .i64 0])∧R w')(hsz:a.tmps.size=125)
  (h:∀ w',R w'→Q .normal (((((((((a.put (some 64) (.pointer (some ⟨g2.c,0,none⟩))).put (some 65) (.slice (some ⟨w.heap.size,0,none⟩) 1 1)).put (some 66) (ragg 0 0 0)).put (some 67) (.tuple #[.bool true,.int .i64 0])).put (some 63) (.tuple #[.bool true,.int .i64 0])).put (some 68) (.bool true)).put (some 69) (.int .i64 0)).put (some 8) (.bool true)).put (some 9) (.int .i64 0)) w'):Code.wp Tryz.prog r23_11 Q a w:=by
 conv=>arg 2;whnf
 refine wp_region_W ?_
 refine l_value 64 (.pointer (some ⟨g2.c,0,none⟩)) rfl rfl (y_move (.tmp 4) rfl (by simp [e4])) ?_
 refine l_value 65 (.slice (some ⟨w.heap.size,0,none⟩) 1 1) rfl rfl (r_build22 (z:=8) (.const (.int .i64 8)) rfl rfl) ?_
 refine l_value 66 (ragg 0 0 0) rfl rfl (y_build46 rfl) ?_
 refine l_call 67 rfl rfl 12 #[(.tmp 64),(.tmp 65),(.tmp 66),(.const (.bool true))] #[28,22,46,4] rfl _ Tryz.func12 (by rfl) (by rfl) #[.pointer (some ⟨g2.c,0,none⟩),.slice (some ⟨w.heap.size,0,none⟩) 1 1,ragg 0 0 0,(.bool true)] (by simp [vp,zp,hsz,vc]) ?_
 refine (hcall).mono ?_
 rintro e w' ⟨rfl,hR⟩
 refine ⟨_,rfl,?_⟩
 refine l_value 63 (.tuple #[.bool true,.int .i64 0]) rfl rfl (y_move (.tmp 67) rfl (by simp [vp,zp,hsz])) ?_
 refine l_value 68 (.bool true) rfl rfl (y_ext0 (u:=.bool true) (v:=.int .i64 0) (.tmp 63) rfl (by simp [vp,zp,hsz])) ?_
 refine l_value 69 (.int .i64 0) rfl rfl (y_ext1 (u:=.bool true) (v:=.int .i64 0) (.tmp 63) rfl (by simp [vp,zp,hsz])) ?_
 refine l_value 8 (.bool true) rfl rfl (y_assign (.tmp 68) rfl (by simp [vp,zp,hsz])) ?_
 refine l_value 9 (.int .i64 0) rfl rfl (y_assign (.tmp 69) rfl (by simp [vp,zp,hsz])) ?_
 refine l_nil ?_
 exact h w' hR
noncomputable def r23_12:Code:=((Tryz.f23.body.bind (regIn 12)).getD .skip)
theorem reg23_12 {Q:Exit→Act→World→Prop}{a:Act}{w:World}{g2:CA}(e4:a.eval (.tmp 4)=.pointer (some ⟨g2.c,0,none⟩)){R:World→Prop}(hcall:Calls Tryz.prog 12 #[.pointer (some ⟨g2.c,0,none⟩),.slice (some ⟨w.heap.size,0,none⟩) 1 1,ragg 0 0 0,.bool false] (w.alloc (.cells #[.int .i64 3] 3)) fun e w'=>e=.returned (.tuple #[.bool false,.int .i64 0])∧R w')(hsz:a.tmps.size=125)
  (h:∀ w',R w'→Q .normal (((((((((a.put (some 71) (.pointer (some ⟨g2.c,0,none⟩))).put (some 72) (.slice (some ⟨w.heap.size,0,none⟩) 1 1)).put (some 73) (ragg 0 0 0)).put (some 74) (.tuple #[.bool false,.int .i64 0])).put (some 70) (.tuple #[.bool false,.int .i64 0])).put (some 75) (.bool false)).put (some 76) (.int .i64 0)).put (some 10) (.bool false)).put (some 11) (.int .i64 0)) w'):Code.wp Tryz.prog r23_12 Q a w:=by
 conv=>arg 2;whnf
 refine wp_region_W ?_
 refine l_value 71 (.pointer (some ⟨g2.c,0,none⟩)) rfl rfl (y_move (.tmp 4) rfl (by simp [e4])) ?_
 refine l_value 72 (.slice (some ⟨w.heap.size,0,none⟩) 1 1) rfl rfl (r_build22 (z:=3) (.const (.int .i64 3)) rfl rfl) ?_
 refine l_value 73 (ragg 0 0 0) rfl rfl (y_build46 rfl) ?_
 refine l_call 74 rfl rfl 12 #[(.tmp 71),(.tmp 72),(.tmp 73),(.const (.bool false))] #[28,22,46,4] rfl _ Tryz.func12 (by rfl) (by rfl) #[.pointer (some ⟨g2.c,0,none⟩),.slice (some ⟨w.heap.size,0,none⟩) 1 1,ragg 0 0 0,(.bool false)] (by simp [vp,zp,hsz,vc]) ?_
 refine (hcall).mono ?_
 rintro e w' ⟨rfl,hR⟩
 refine ⟨_,rfl,?_⟩
 refine l_value 70 (.tuple #[.bool false,.int .i64 0]) rfl rfl (y_move (.tmp 74) rfl (by simp [vp,zp,hsz])) ?_
 refine l_value 75 (.bool false) rfl rfl (y_ext0 (u:=.bool false) (v:=.int .i64 0) (.tmp 70) rfl (by simp [vp,zp,hsz])) ?_
 refine l_value 76 (.int .i64 0) rfl rfl (y_ext1 (u:=.bool false) (v:=.int .i64 0) (.tmp 70) rfl (by simp [vp,zp,hsz])) ?_
 refine l_value 10 (.bool false) rfl rfl (y_assign (.tmp 75) rfl (by simp [vp,zp,hsz])) ?_
 refine l_value 11 (.int .i64 0) rfl rfl (y_assign (.tmp 76) rfl (by simp [vp,zp,hsz])) ?_
 refine l_nil ?_
 exact h w' hR
noncomputable def r23_13:Code:=((Tryz.f23.body.bind (regIn 13)).getD .skip)
theorem reg23_13 {Q:Exit→Act→World→Prop}{a:Act}{w:World}{g2:CA}(e4:a.eval (.tmp 4)=.pointer (some ⟨g2.c,0,none⟩)){L:List GE}{m:Nat}(hL:L.length=m)(hcall:Calls Tryz.prog 54 #[.pointer (some ⟨g2.c,0,none⟩)] w (RetCEs L w))(hsz:a.tmps.size=125)
  (h:∀ A c w',Ens w' (fun b=>w.heap.size≤b) (.slice A m c) L→Ext w w'→Q .normal (((a.put (some 77) (.pointer (some ⟨g2.c,0,none⟩))).put (some 78) (.slice A m c)).put (some 12) (.slice A m c)) w'):Code.wp Tryz.prog r23_13 Q a w:=by
 conv=>arg 2;whnf
 subst hL
 refine wp_region_W ?_
 refine l_value 77 (.pointer (some ⟨g2.c,0,none⟩)) rfl rfl (y_move (.tmp 4) rfl (by simp [e4])) ?_
 refine l_call 78 rfl rfl 54 #[(.tmp 77)] #[28] rfl _ Tryz.func54 (by rfl) (by rfl) #[.pointer (some ⟨g2.c,0,none⟩)] (by simp [vp,hsz]) ?_
 refine (hcall).mono ?_
 rintro e w' ⟨A,c,rfl,hE,hx⟩
 refine ⟨_,rfl,?_⟩
 refine l_value 12 (.slice A L.length c) rfl rfl (y_assign (.tmp 78) rfl (by simp [vp,zp,hsz])) ?_
 refine l_nil ?_
 exact h A c w' hE hx
noncomputable def r23_14:Code:=((Tryz.f23.body.bind (regIn 14)).getD .skip)
theorem reg23_14 {Q:Exit→Act→World→Prop}{a:Act}{w:World}{g1:CA}{A12:Option Addr}{c12:Nat}(e2:a.eval (.tmp 2)=.pointer (some ⟨g1.c,0,none⟩))(e12:a.eval (.tmp 12)=.slice A12 2 c12){L:List GE}(hL:L.length=2)(hcall:Calls Tryz.prog 54 #[.pointer (some ⟨g1.c,0,none⟩)] w (RetCEs L w))(hsz:a.tmps.size=125)
  (h:∀ A c w',Ext w w'→Q .normal (((((((((a.put (some 79) (.slice A12 2 c12)).put (some 80) (.int .i64 2)).put (some 81) (.bool false)).put (some 82) (.bool false)).put (some 83) (.pointer (some ⟨g1.c,0,none⟩))).put (some 84) (.slice A 2 c)).put (some 85) (.int .i64 2)).put (some 86) (.bool false)).put (some 87) (.bool false)) w'):Code.wp Tryz.prog r23_14 Q a w:=by
 conv=>arg 2;whnf
 refine wp_region_W ?_
 refine l_value 79 (.slice A12 2 c12) rfl rfl (y_move (.tmp 12) rfl (by simp [e12])) ?_
 refine l_value 80 (.int .i64 2) rfl rfl (y_len (A:=A12) (n:=2) (c:=c12) 93 (by simp) (.tmp 79) rfl (by simp [vp,hsz])) ?_
 refine l_value 81 (.bool false) rfl rfl (y_neqb (a:=2) (b:=2) rfl 3 (by simp) (.tmp 80) (.const (.int .i64 2)) rfl (by simp [vp,zp,hsz]) rfl) ?_
 refine l_value 82 (.bool false) rfl rfl (y_move (.tmp 81) rfl (by simp [vp,zp,hsz])) ?_
 refine l_onG 83 (.pointer (some ⟨g1.c,0,none⟩)) 82 (j:=3) (want:=false) (b:=false) rfl rfl (by simp [zp,hsz]) (by simp [vp,zp,hsz]) rfl rfl (y_move (.tmp 2) rfl (by simp [vp,e2])) ?_
 refine l_callG 84 82 (j:=3) (want:=false) (b:=false) rfl rfl (by simp [zp,hsz]) (by simp [vp,zp,hsz]) rfl rfl 54 #[(.tmp 83)] #[28] rfl _ Tryz.func54 (by rfl) (by rfl) #[.pointer (some ⟨g1.c,0,none⟩)] (by simp [vp,zp,hsz]) ?_
 refine (hcall).mono ?_
 rintro e w' ⟨A,c,rfl,hE,hx⟩
 refine ⟨_,rfl,?_⟩
 rw [hL]
 refine l_onG 85 (.int .i64 2) 82 (j:=3) (want:=false) (b:=false) rfl rfl (by simp [zp,hsz]) (by simp [vp,zp,hsz]) rfl rfl (y_len (A:=A) (n:=2) (c:=c) 93 (by simp) (.tmp 84) rfl (by simp [vp,zp,hsz])) ?_
 refine l_onG 86 (.bool false) 82 (j:=3) (want:=false) (b:=false) rfl rfl (by simp [zp,hsz]) (by simp [vp,zp,hsz]) rfl rfl (y_neqb (a:=2) (b:=2) rfl 3 (by simp) (.tmp 85) (.const (.int .i64 2)) rfl (by simp [vp,zp,hsz]) rfl) ?_
 refine l_value 87 (.bool false) rfl rfl (y_pickf (.tmp 82) (.const (.bool true)) (.tmp 86) rfl (by simp [vp,zp,hsz]) (by simp [vp,zp,hsz])) ?_
 refine l_nil ?_
 exact h A c w' hx
noncomputable def r23_16:Code:=((Tryz.f23.body.bind (regIn 16)).getD .skip)
theorem reg23_16 {Q:Exit→Act→World→Prop}{a:Act}{w:World}{g1:CA}{g2:CA}    {b12 o12 c12:Nat}(e2:a.eval (.tmp 2)=.pointer (some ⟨g1.c,0,none⟩))(e4:a.eval (.tmp 4)=.pointer (some ⟨g2.c,0,none⟩))(e6:a.eval (.tmp 6)=.bool false)(e8:a.eval (.tmp 8)=.bool true)(e10:a.eval (.tmp 10)=.bool false)(e12:a.eval (.tmp 12)=.slice (some ⟨b12,o12,none⟩) 2 c12)(hbytes:∀ w1,Ext w w1→Calls Tryz.prog 15 #[.pointer (some ⟨g1.c,0,none⟩)] w1 (RetE (.int .i64 6) w1))(h5:∀ w1 b,Ext w w1→Ints w1 (fun _=>True) (.slice (some ⟨b,0,none⟩) 1 1) [5]→Calls Tryz.prog 19 #[.pointer (some ⟨g1.c,0,none⟩),.slice (some ⟨b,0,none⟩) 1 1] w1 (RetE (.bool true) w1))(h5d:∀ w1 b,Ext w w1→Ints w1 (fun _=>True) (.slice (some ⟨b,0,none⟩) 1 1) [5]→Calls Tryz.prog 19 #[.pointer (some ⟨g2.c,0,none⟩),.slice (some ⟨b,0,none⟩) 1 1] w1 (RetE (.bool false) w1))(h8d:∀ w1 b,Ext w w1→Ints w1 (fun _=>True) (.slice (some ⟨b,0,none⟩) 1 1) [8]→Calls Tryz.prog 19 #[.pointer (some ⟨g2.c,0,none⟩),.slice (some ⟨b,0,none⟩) 1 1] w1 (RetE (.bool true) w1))(hits:w.cell? ⟨b12,o12+0*6+5,none⟩=some (.int .i64 2))(hsz:a.tmps.size=125)
  (h:∀ a' w',a'.defers=a.defers→a'.eval (.tmp 0)=.bool true→Ext w w'→Q .normal a' w'):Code.wp Tryz.prog r23_16 Q a w:=by
 conv=>arg 2;whnf
 refine wp_region_W ?_
 refine l_value 88 (.bool false) rfl rfl (y_move (.tmp 6) rfl (by simp [e6])) ?_
 refine l_value 89 (.bool true) rfl rfl (y_notb (b:=false) rfl (.tmp 88) rfl (by simp [vp,hsz])) ?_
 refine l_value 90 (.bool true) rfl rfl (y_move (.tmp 89) rfl (by simp [vp,zp,hsz])) ?_
 refine l_onG 91 (.bool true) 90 (j:=2) (want:=true) (b:=true) rfl rfl (by simp [zp,hsz]) (by simp [vp,zp,hsz]) rfl rfl (y_move (.tmp 8) rfl (by simp [vp,e8])) ?_
 refine l_value 92 (.bool true) rfl rfl (y_pickt (.tmp 90) (.tmp 91) (.const (.bool false)) rfl (by simp [vp,zp,hsz]) (by simp [vp,zp,hsz])) ?_
 refine l_value 93 (.bool true) rfl rfl (y_move (.tmp 92) rfl (by simp [vp,zp,hsz])) ?_
 refine l_onG 94 (.bool false) 93 (j:=5) (want:=true) (b:=true) rfl rfl (by simp [zp,hsz]) (by simp [vp,zp,hsz]) rfl rfl (y_move (.tmp 10) rfl (by simp [vp,e10])) ?_
 refine l_onG 95 (.bool true) 93 (j:=5) (want:=true) (b:=true) rfl rfl (by simp [zp,hsz]) (by simp [vp,zp,hsz]) rfl rfl (y_notb (b:=false) rfl (.tmp 94) rfl (by simp [vp,zp,hsz])) ?_
 refine l_value 96 (.bool true) rfl rfl (y_pickt (.tmp 93) (.tmp 95) (.const (.bool false)) rfl (by simp [vp,zp,hsz]) (by simp [vp,zp,hsz])) ?_
 refine l_value 97 (.bool true) rfl rfl (y_move (.tmp 96) rfl (by simp [vp,zp,hsz])) ?_
 refine l_onG 98 (.pointer (some ⟨g1.c,0,none⟩)) 97 (j:=9) (want:=true) (b:=true) rfl rfl (by simp [zp,hsz]) (by simp [vp,zp,hsz]) rfl rfl (y_move (.tmp 2) rfl (by simp [vp,e2])) ?_
 refine l_callG 99 97 (j:=9) (want:=true) (b:=true) rfl rfl (by simp [zp,hsz]) (by simp [vp,zp,hsz]) rfl rfl 15 #[(.tmp 98)] #[28] rfl _ Tryz.func15 (by rfl) (by rfl) #[.pointer (some ⟨g1.c,0,none⟩)] (by simp [vp,zp,hsz]) ?_
 refine (hbytes w (Ext.refl w)).mono ?_
 rintro e w1 ⟨rfl,x1⟩
 refine ⟨_,rfl,?_⟩
 refine l_onG 100 (.bool true) 97 (j:=9) (want:=true) (b:=true) rfl rfl (by simp [zp,hsz]) (by simp [vp,zp,hsz]) rfl rfl (y_eqlb (a:=6) (b:=6) rfl 3 (by simp) (.tmp 99) (.const (.int .i64 6)) rfl (by simp [vp,zp,hsz]) rfl) ?_
 refine l_value 101 (.bool true) rfl rfl (y_pickt (.tmp 97) (.tmp 100) (.const (.bool false)) rfl (by simp [vp,zp,hsz]) (by simp [vp,zp,hsz])) ?_
 refine l_value 102 (.bool true) rfl rfl (y_move (.tmp 101) rfl (by simp [vp,zp,hsz])) ?_
 refine l_onG 103 (.pointer (some ⟨g1.c,0,none⟩)) 102 (j:=14) (want:=true) (b:=true) rfl rfl (by simp [zp,hsz]) (by simp [vp,zp,hsz]) rfl rfl (y_move (.tmp 2) rfl (by simp [vp,e2])) ?_
 refine l_onG 104 (.slice (some ⟨w1.heap.size,0,none⟩) 1 1) 102 (j:=14) (want:=true) (b:=true) rfl rfl (by simp [zp,hsz]) (by simp [vp,zp,hsz]) rfl rfl (r_build22 (z:=5) (.const (.int .i64 5)) rfl rfl) ?_
 refine l_callG 105 102 (j:=14) (want:=true) (b:=true) rfl rfl (by simp [zp,hsz]) (by simp [vp,zp,hsz]) rfl rfl 19 #[(.tmp 103),(.tmp 104)] #[28,22] rfl _ Tryz.func19 (by rfl) (by rfl) #[.pointer (some ⟨g1.c,0,none⟩),.slice (some ⟨w1.heap.size,0,none⟩) 1 1] (by simp [vp,zp,hsz]) ?_
 refine (h5 _ w1.heap.size (x1.alloc' _) (ints_one w1 5 (by simp [I64]))).mono ?_
 rintro e w2 ⟨rfl,x2⟩
 refine ⟨_,rfl,?_⟩
 refine l_value 106 (.bool true) rfl rfl (y_pickt (.tmp 102) (.tmp 105) (.const (.bool false)) rfl (by simp [vp,zp,hsz]) (by simp [vp,zp,hsz])) ?_
 refine l_value 107 (.bool true) rfl rfl (y_move (.tmp 106) rfl (by simp [vp,zp,hsz])) ?_
 refine l_onG 108 (.pointer (some ⟨g2.c,0,none⟩)) 107 (j:=19) (want:=true) (b:=true) rfl rfl (by simp [zp,hsz]) (by simp [vp,zp,hsz]) rfl rfl (y_move (.tmp 4) rfl (by simp [vp,e4])) ?_
 have y2:=(x1.alloc' (.cells #[.int .i64 5] 3)).trans' x2
 refine l_onG 109 (.slice (some ⟨w2.heap.size,0,none⟩) 1 1) 107 (j:=19) (want:=true) (b:=true) rfl rfl (by simp [zp,hsz]) (by simp [vp,zp,hsz]) rfl rfl (r_build22 (z:=5) (.const (.int .i64 5)) rfl rfl) ?_
 refine l_callG 110 107 (j:=19) (want:=true) (b:=true) rfl rfl (by simp [zp,hsz]) (by simp [vp,zp,hsz]) rfl rfl 19 #[(.tmp 108),(.tmp 109)] #[28,22] rfl _ Tryz.func19 (by rfl) (by rfl) #[.pointer (some ⟨g2.c,0,none⟩),.slice (some ⟨w2.heap.size,0,none⟩) 1 1] (by simp [vp,zp,hsz]) ?_
 refine (h5d _ w2.heap.size (y2.alloc' _) (ints_one w2 5 (by simp [I64]))).mono ?_
 rintro e w3 ⟨rfl,x3⟩
 refine ⟨_,rfl,?_⟩
 refine l_onG 111 (.bool true) 107 (j:=19) (want:=true) (b:=true) rfl rfl (by simp [zp,hsz]) (by simp [vp,zp,hsz]) rfl rfl (y_notb (b:=false) rfl (.tmp 110) rfl (by simp [vp,zp,hsz])) ?_
 refine l_value 112 (.bool true) rfl rfl (y_pickt (.tmp 107) (.tmp 111) (.const (.bool false)) rfl (by simp [vp,zp,hsz]) (by simp [vp,zp,hsz])) ?_
 refine l_value 113 (.bool true) rfl rfl (y_move (.tmp 112) rfl (by simp [vp,zp,hsz])) ?_
 refine l_onG 114 (.pointer (some ⟨g2.c,0,none⟩)) 113 (j:=25) (want:=true) (b:=true) rfl rfl (by simp [zp,hsz]) (by simp [vp,zp,hsz]) rfl rfl (y_move (.tmp 4) rfl (by simp [vp,e4])) ?_
 have y3:=(y2.alloc' (.cells #[.int .i64 5] 3)).trans' x3
 refine l_onG 115 (.slice (some ⟨w3.heap.size,0,none⟩) 1 1) 113 (j:=25) (want:=true) (b:=true) rfl rfl (by simp [zp,hsz]) (by simp [vp,zp,hsz]) rfl rfl (r_build22 (z:=8) (.const (.int .i64 8)) rfl rfl) ?_
 refine l_callG 116 113 (j:=25) (want:=true) (b:=true) rfl rfl (by simp [zp,hsz]) (by simp [vp,zp,hsz]) rfl rfl 19 #[(.tmp 114),(.tmp 115)] #[28,22] rfl _ Tryz.func19 (by rfl) (by rfl) #[.pointer (some ⟨g2.c,0,none⟩),.slice (some ⟨w3.heap.size,0,none⟩) 1 1] (by simp [vp,zp,hsz]) ?_
 refine (h8d _ w3.heap.size (y3.alloc' _) (ints_one w3 8 (by simp [I64]))).mono ?_
 rintro e w4 ⟨rfl,x4⟩
 refine ⟨_,rfl,?_⟩
 have y4:=(y3.alloc' (.cells #[.int .i64 8] 3)).trans' x4
 refine l_value 117 (.bool true) rfl rfl (y_pickt (.tmp 113) (.tmp 116) (.const (.bool false)) rfl (by simp [vp,zp,hsz]) (by simp [vp,zp,hsz])) ?_
 refine l_value 118 (.bool true) rfl rfl (y_move (.tmp 117) rfl (by simp [vp,zp,hsz])) ?_
 refine l_onG 119 (.slice (some ⟨b12,o12,none⟩) 2 c12) 118 (j:=30) (want:=true) (b:=true) rfl rfl (by simp [zp,hsz]) (by simp [vp,zp,hsz]) rfl rfl (y_move (.tmp 12) rfl (by simp [vp,e12])) ?_
 refine l_onG 120 (.pointer (some ⟨b12,o12+0*6,none⟩)) 118 (j:=30) (want:=true) (b:=true) rfl rfl (by simp [zp,hsz]) (by simp [vp,zp,hsz]) rfl rfl (y_index93 (n:=2) (c:=c12) (k:=0) (.tmp 119) (.const (.int .i64 0)) rfl (by simp [vp,zp,hsz]) (by simp [vc]) (by omega)) ?_
 refine l_onG 121 (.pointer (some ⟨b12,o12+0*6+5,none⟩)) 118 (j:=30) (want:=true) (b:=true) rfl rfl (by simp [zp,hsz]) (by simp [vp,zp,hsz]) rfl rfl (y_f102_3 (.tmp 120) rfl (by simp [vp,zp,hsz])) ?_
 refine l_onG 122 (.int .i64 2) 118 (j:=30) (want:=true) (b:=true) rfl rfl (by simp [zp,hsz]) (by simp [vp,zp,hsz]) rfl rfl (y_load3 (.tmp 121) rfl (by simp [vp,zp,hsz]) (cell_ext y4 hits)) ?_
 refine l_onG 123 (.bool true) 118 (j:=30) (want:=true) (b:=true) rfl rfl (by simp [zp,hsz]) (by simp [vp,zp,hsz]) rfl rfl (y_eqlb (a:=2) (b:=2) rfl 3 (by simp) (.tmp 122) (.const (.int .i64 2)) rfl (by simp [vp,zp,hsz]) rfl) ?_
 refine l_value 124 (.bool true) rfl rfl (y_pickt (.tmp 118) (.tmp 123) (.const (.bool false)) rfl (by simp [vp,zp,hsz]) (by simp [vp,zp,hsz])) ?_
 refine l_value 0 (.bool true) rfl rfl (y_assign (.tmp 124) rfl (by simp [vp,zp,hsz])) ?_
 refine l_nil ?_
 exact h _ _ (by simp only [put_df]) (by simp [vp,zp,hsz]) y4
end Go.Proofs.YtkoeecdjijfjnaaGreat
