/- Plain laws: the checks of a node, one after the other. Conditions: none. Before it: Contracts of slices.EqualFunc at values and of the program's cases. Conditions: none. -/
import Derived.Test.YtkoeecdjijfjnaaGreatPlH
namespace Go.Proofs.YtkoeecdjijfjnaaGreat
open Go.RowKit
set_option maxHeartbeats 1000000 in
theorem eqClosure_any (x y:GV)(A B:Option Addr)(c d:Nat)(P Q:Nat→Prop)(w:World)(hx:VAt w P x A c)(hy:VAt w Q y B d) :
  Calls Tryz.prog 139 #[vagg x A c,vagg y B d] w (RetE (.bool (decide (cmpV x y=0))) w):=by
 have HX:=Lib.hid hx
 have HY:=Lib.hid hy
 clear hx hy
 go_enter Tryz.func139,Tryz.ntmps139
 go_wp2_with fail
 refine (valuesCompare_any x y A B c d P Q _ (HX.out.ext (((Ext.refl _).alloc' _).alloc' _)) (HY.out.ext (((Ext.refl _).alloc' _).alloc' _))).mono ?_
 rintro e w1 ⟨rfl,hx1⟩
 have HX1:=Lib.hid ((((Ext.refl w).alloc' _).alloc' _).trans' hx1)
 clear hx1
 generalize cmpV x y=z at *
 go_wp2_with fail
 all_goals
  go_ret
  exact ⟨ret_bool (by rw [Bool.eq_iff_iff];simp_all),HX1.out⟩
set_option maxRecDepth 100000 in
set_option maxHeartbeats 4000000 in
theorem equalFunc_any (a b:List GV)(P Q:Nat→Prop)(va vb:Value)(w:World)(ha:Vals w P va a)(hb:Vals w Q vb b) :
  Calls Tryz.prog 138 #[va,vb,.func (.func 139) #[] #[]] w (RetE (.bool (sameVsB a b)) w):=by
 have HA:=Lib.hid ha
 have HB:=Lib.hid hb
 have HS:=Lib.hid (show sameVsB a b=(decide (a.length=b.length) && (a.zip b).all (fun p=>decide (cmpV p.1 p.2=0))) from rfl)
 obtain ⟨A,c,e,h1,h2⟩:=ha.form
 obtain ⟨A',c',e',h1',h2'⟩:=hb.form
 subst e e'
 clear ha hb
 by_cases hl:a.length=b.length
 ·have HS2:=Lib.hid (show sameVsB a b=((a.drop 0).zip (b.drop 0)).all (fun p=>decide (cmpV p.1 p.2=0)) by rw [HS.out,decide_eq_true hl];rfl)
  have hl1:a.length≤b.length:=by omega
  have hl2:b.length≤a.length:=by omega
  have hne:((a.length:Int) != (b.length:Int))=false:=by rw [bne_eq_false_iff_eq];omega
  clear hl
  go_enter Tryz.func138,Tryz.ntmps138
  go_wp2_with fail
  go_loopw [17] (fun i wr=>SameVInv a b w i wr) (fun i _=>a.length - (intOf i).toNat)
  case atStart=>exact ⟨0,Nat.zero_le _,rfl,Ext.refl _,HS2.out⟩
  case round =>
   obtain ⟨k,hk,rfl,hx,ht⟩:=hrel
   have HT:=Lib.hid ht
   have HX:=Lib.hid hx
   clear ht hx
   by_cases hlt:k<a.length
   ·have hlt':k<b.length:=by omega
    have HD:=Lib.hid (show sameVsB a b=(decide (cmpV (a.getD k default) (b.getD k default)=0) && ((a.drop (k+1)).zip (b.drop (k+1))).all (fun p=>decide (cmpV p.1 p.2=0))) by
     rw [HT.out,drop_getD default hlt,drop_getD default hlt']
     rfl)
    obtain ⟨b1,o1,c1,A1,d1,e1,-,-,-,hv1,g10,g11,g12,g13⟩:=(HA.out.ext HX.out).at_ hlt
    obtain ⟨b2,o2,c2,A2,d2,e2,-,-,-,hv2,g20,g21,g22,g23⟩:=(HB.out.ext HX.out).at_ hlt'
    cases e1
    cases e2
    have q1:=lt_of_cell g10
    have q2:=lt_of_cell g20
    have HV1:=Lib.hid hv1
    have HV2:=Lib.hid hv2
    clear hv1 hv2
    generalize a.getD k default=x at *
    generalize b.getD k default=y at *
    go_wp2_with fail
    refine (eqClosure_any x y A1 A2 d1 d2 P Q _ (HV1.out.ext (((Ext.refl _).alloc' _).alloc' _)) (HV2.out.ext (((Ext.refl _).alloc' _).alloc' _))).mono ?_
    rintro e w1 ⟨rfl,hx1⟩
    have HX1:=Lib.hid (HX.out.trans' ((((Ext.refl _).alloc' _).alloc' _).trans' hx1))
    clear hx1
    by_cases hz:cmpV x y=0
    ·have HZ:=Lib.hid hz
     have tz:decide (cmpV x y=0)=true:=decide_eq_true hz
     clear hz
     generalize decide (cmpV x y=0)=bz at *
     subst tz
     go_wp2_with fail
     go_roundw
     case rel=>exact ⟨k+1,by omega,by go_num,HX1.out,by rw [HD.out];rfl⟩
     case measure=>simp [intOf];omega
    ·have HZ:=Lib.hid hz
     have tz:decide (cmpV x y=0)=false:=decide_eq_false hz
     clear hz
     generalize decide (cmpV x y=0)=bz at *
     subst tz
     go_wp2_with fail
     go_ret
     exact ⟨ret_bool (by rw [HD.out];rfl),HX1.out⟩
   ·go_wp2_with fail
    go_ret
    exact ⟨ret_bool (by rw [HT.out,drop_nil (l:=a) (by omega)];rfl),HX.out⟩
 ·have hne:((a.length:Int) != (b.length:Int))=true:=bne_iff_ne.2 (by omega)
  have HL:=Lib.hid hl
  clear hl
  go_enter Tryz.func138,Tryz.ntmps138
  go_wp2_with fail
  go_ret
  exact ⟨ret_bool (by rw [HS.out,decide_eq_false HL.out];rfl),Ext.refl _⟩
theorem cell_fr' {w w':World}{M:Nat→Prop}(hf:Fr M w w'){b off:Nat}{u:Value}(hb:¬ M b)(h:w.cell? ⟨b,off,none⟩=some u):w'.cell? ⟨b,off,none⟩=some u:=by
 rw [← h];exact World.cell?_of_block (w:=w) (hf.block b (lt_of_cell h) hb)
theorem cell_frd {w w':World}{M:Nat→Prop}(hf:Fr M w.drew w'){b off:Nat}{u:Value}(hb:¬ M b)(h:w.cell? ⟨b,off,none⟩=some u):w'.cell? ⟨b,off,none⟩=some u:=cell_fr' (w:=w.drew) hf hb h
def casesR (t:List GN)(x:GN):Int:=if x.kind=4 then boundR t x else 0
def RetCases (t:List GN)(vn:Value)(g:SA)(r:Int)(w:World)(e:Ending)(w':World):Prop:=e=.returned (.int .i64 r)∧Fr g.M w w'∧SetsOK t vn g w'
set_option maxRecDepth 100000 in
set_option maxHeartbeats 4000000 in
theorem cases_any (t:List GN)(vn:Value)(g:SA)(gc b o i:Nat)(x:GN)(a:NA)(w:World)(hx:NAt w g.Q x a)(hn:NCells w b o x a)(hb:g.Q b)(hc3:w.cell? ⟨gc,3,none⟩=some (.pointer (some ⟨g.s,0,none⟩)))(hgc:¬ g.M gc)(hs:SetsOK t vn g w)
  (hok:NodeOK i x)(hg:GoodTo t i) :
  Calls Tryz.prog 93 #[.pointer (some ⟨gc,0,none⟩),.pointer (some ⟨b,o,none⟩)] w (RetCases t vn g (casesR t x) w):=by
 have c0:=hn.c0
 have c7:=hn.c7
 have lb:=hn.lt
 have HN:=Lib.hid hn
 have HX:=Lib.hid hx
 have HS:=Lib.hid hs
 have HB:=Lib.hid hb
 have HGC:=Lib.hid hgc
 obtain ⟨hkl1,hkl2⟩:=hx.kids.le
 by_cases hk:x.kind=4
 ·have t4:(x.kind != 4)=false:=by rw [bne_eq_false_iff_eq];exact hk
  have t4a:4≤x.kind:=by omega
  have t4b:x.kind≤4:=by omega
  have hk0:0<x.kids.length:=by have:=hok.bind hk;omega
  have hz:=hok.kids _ (getD_mem (d:=0) hk0)
  obtain ⟨n,hn0⟩:∃ n:Nat,x.kids.getD 0 0=(n:Int):=⟨(x.kids.getD 0 0).toNat,by omega⟩
  have HQ:=Lib.hid (show casesR t x=if ((listsR t).getD n default).many then 4 else if sameVsB ((listsR t).getD n default).vals x.values then 0 else 1 by
   unfold casesR;rw [if_pos hk];unfold boundR;rw [hn0];simp)
  obtain ⟨b1,o1,e1,hb1,-,g1⟩:=hx.kids.get hk0
  rw [hn0,Nat.add_zero] at g1
  rw [e1] at c7
  have HB1:=Lib.hid hb1
  have hk1:(0:Int)<(x.kids.length:Int):=by omega
  have HOF:=Lib.hid (show ∀ W,SetsOK t vn g W→Calls Tryz.prog 137 #[.pointer (some ⟨g.s,0,none⟩),.int .i64 n] W (RetSet t vn g ((listsR t).getD n default) W) from fun W h=>of_any t vn g n W (hg.mono (by omega)) h)
  generalize (listsR t).getD n default=gg at *
  obtain ⟨vals,many⟩:=gg
  clear hx hn hs hb hgc hok hg hz hn0 hb1 e1 hk
  go_enter Tryz.func93,Tryz.ntmps93
  go_wp2_with fail
  go_region_held3 (fun w'=>w'.cell? ⟨gc,3,none⟩=some (.pointer (some ⟨g.s,0,none⟩))∧w'.cell? ⟨b,o+7,none⟩=some (.slice (some ⟨b1,o1,none⟩) x.kids.length a.kc)∧w'.cell? ⟨b1,o1,none⟩=some (.int .i64 n))
   (first
    | go_keep
    | (go_split_ands
       exact ⟨cell_frd hfr HGC.out ‹_›,cell_frd hfr HB.out.1 ‹_›,cell_frd hfr HB1.out.1 ‹_›⟩)
    | (go_split_ands
       exact ⟨cell_fr' hfr HGC.out ‹_›,cell_fr' hfr HB.out.1 ‹_›,cell_fr' hfr HB1.out.1 ‹_›⟩))
   (first
    | (go_at_call 137;refine (HOF.out _ (HS.out.ext (Ext.refl _).drew')).mono ?_;rintro e w1 ⟨A,c,rfl,hv,hfr,hs1⟩))
  have HFR:=Lib.hid ((Fr.refl g.M w).drew.trans hfr)
  have HV:=Lib.hid hv
  have HS1:=Lib.hid hs1
  have d6:=cell_fr' HFR.out HB.out.1 HN.out.c6
  have HVL:=Lib.hid (HX.out.values.carry (Keeps.of_fr HFR.out (fun b h=>h.1)) (fun _ _ h=>h))
  clear hv hfr hs1
  cases many
  ·go_wp2_with fail
   refine (equalFunc_any vals x.values g.Q g.Q _ _ _ HV.out HVL.out).mono ?_
   rintro e w2 ⟨rfl,hx2⟩
   have HX2:=Lib.hid hx2
   clear hx2
   generalize sameVsB vals x.values=bb at *
   cases bb
   ·go_wp2_with fail
    go_ret
    exact ⟨ret_int (by rw [HQ.out];rfl),HFR.out.trans (Fr.of_ext HX2.out),HS1.out.ext HX2.out⟩
   ·go_wp2_with fail
    go_ret
    exact ⟨ret_int (by rw [HQ.out];rfl),HFR.out.trans (Fr.of_ext HX2.out),HS1.out.ext HX2.out⟩
  ·go_wp2_with fail
   go_ret
   exact ⟨ret_int (by rw [HQ.out];rfl),HFR.out,HS1.out⟩
 ·have t4:(x.kind != 4)=true:=bne_iff_ne.2 hk
  have HQ:=Lib.hid (show casesR t x=0 by unfold casesR;rw [if_neg hk])
  clear hx hn hs hb hgc hok hg
  go_enter Tryz.func93,Tryz.ntmps93
  go_wp2_with fail
  go_ret
  exact ⟨ret_int HQ.out.symm,Fr.refl _ _,HS.out⟩
theorem lsumW_congr {a b:List Int}:∀ {zs:List Int}{s:Int},(∀ z ∈ zs,a.getD z.toNat 0=b.getD z.toNat 0)→lsumW a s zs=lsumW b s zs
 | [],_,_=>rfl
 | z :: zs,s,h=>by simp only [lsumW];rw [h z (by simp),lsumW_congr (fun y hy=>h y (by simp [hy]))]
theorem lmostW_congr {a b:List Int}{ch:Bool}:∀ {zs:List Int}{i:Nat}{m:Int},(∀ z ∈ zs,a.getD z.toNat 0=b.getD z.toNat 0)→lmostW a ch i m zs=lmostW b ch i m zs
 | [],_,_,_=>rfl
 | z :: zs,i,m,h=>by simp only [lmostW];rw [h z (by simp),lmostW_congr (fun y hy=>h y (by simp [hy]))]
theorem lenR_congr {a b:List Int}{j:Nat}{x:GN}(hn:NodeOK j x)(h:∀ z ∈ x.kids,a.getD z.toNat 0=b.getD z.toNat 0):lenR a x=lenR b x:=by
 unfold lenR
 rw [lsumW_congr h,lmostW_congr h,lmostW_congr h]
 by_cases k4:x.kind=4
 ·have:=hn.bind k4
  rw [h _ (getD_mem (d:=0) (by omega))]
 ·have hk:=hn.kind
  by_cases h0:x.kind=0
  ·simp [h0]
  ·by_cases h1:x.kind=1
   ·simp [h1]
   ·by_cases h3:x.kind=3
    ·simp [h3]
    ·simp [show x.kind=2 by omega]
theorem sizeP_congr {a b:List Int}{x:GN}(h:∀ z ∈ x.kids,a.getD z.toNat 0=b.getD z.toNat 0):sizeP a x=sizeP b x:=by
 unfold sizeP
 rw [lsumW_congr h,lmostW_congr h,lmostW_congr h]
theorem take_getD {a b:List Int}{k i:Nat}(h:a.take k=b.take k)(hi:i<k):a.getD i 0=b.getD i 0:=by
 have:(a.take k)[i]?=(b.take k)[i]?:=by rw [h]
 simp only [List.getElem?_take,hi,if_true] at this
 simp [List.getD,this]
section
variable {t:List GN}{k:Nat}{ls zs:List Int}
theorem val_len (hk:k<t.length)(hn:NodeOK k (t.getD k default))(hl:ls.take k=(lensR t).take k):lenR ls (t.getD k default)=(lensR t).getD k 0:=by
 rw [lens_get hk]
 exact lenR_congr hn (fun z hz=>by
  have hz':=hn.kids z hz
  rw [lens_kid hk hz'];exact take_getD hl (by omega))
theorem val_size (hg:GoodTo t k)(hs:Small t)(hk:k<t.length)(hn:NodeOK k (t.getD k default))(hl:zs.take k=(sizesR t).take k) :
  sizeP zs (t.getD k default)=(sizesR t).getD k 0∨((t.getD k default).kind=4∧(t.getD k default).values=[]∧sizeP zs (t.getD k default)=1∧(sizesR t).getD k 0=0):=by
 have e:sizeP zs (t.getD k default)=sizeP (sizesR (t.take k)) (t.getD k default):=sizeP_congr (fun z hz=>by
  have hz':=hn.kids z hz
  rw [sizes_kid hk hz'];exact take_getD hl (by omega))
 rw [e,sizes_get hk]
 exact sizeP_cases hn (fun z h1 h2=>by rw [sizes_kid hk ⟨h1,h2⟩];exact (sizes_ok hg hs z.toNat (by omega)).1)
theorem nodeR_1 {i:Int}{x:GN}(h:(cleanB x && shapedB i x)=false):nodeR i x=1:=by rw [nodeR_prog,if_pos h]
theorem nodeR_e {i:Int}{x:GN}(h:(cleanB x && shapedB i x)=true):nodeR i x=if partsP x=0 then (if numbersB x then 0 else 5) else partsP x:=by rw [nodeR_prog,if_neg (by rw [h];decide)]
theorem chk_form (h:(cleanB (t.getD k default) && shapedB k (t.getD k default))=false):checkR t k=1:=by
 unfold checkR
 rw [nodeR_1 h]
 rfl
theorem chk_parts (h:(cleanB (t.getD k default) && shapedB k (t.getD k default))=true)(hp:¬ partsP (t.getD k default)=0):checkR t k=partsP (t.getD k default):=by
 unfold checkR
 rw [nodeR_e h,if_neg hp,if_neg hp]
theorem chk_num (h:(cleanB (t.getD k default) && shapedB k (t.getD k default))=true)(hp:partsP (t.getD k default)=0)(hn:numbersB (t.getD k default)=false):checkR t k=5:=by
 unfold checkR
 rw [nodeR_e h,if_pos hp,hn]
 rfl
theorem chk_node (h:(cleanB (t.getD k default) && shapedB k (t.getD k default))=true)(hp:partsP (t.getD k default)=0)(hn:numbersB (t.getD k default)=true):NodeOK k (t.getD k default):=by
 rw [← nodeR_ok,nodeR_e h,if_pos hp,if_pos hn]
theorem chk_rest (hg:GoodTo t k)(hs:Small t)(hk:k<t.length)(hn:NodeOK k (t.getD k default))(hl:ls.take k=(lensR t).take k)(hz:zs.take k=(sizesR t).take k) :
  checkR t k=if (decide (lenR ls (t.getD k default)≤256) && decide (sizeP zs (t.getD k default)≤1024))=false then 4 else casesR t (t.getD k default):=by
 unfold checkR
 rw [if_pos (nodeR_ok.2 hn),val_len hk hn hl]
 have hc:(256<(lensR t).getD k 0∨1024<(sizesR t).getD k 0) ↔ (decide ((lensR t).getD k 0≤256) && decide (sizeP zs (t.getD k default)≤1024))=false:=by
  rw [Bool.and_eq_false_iff,decide_eq_false_iff_not,decide_eq_false_iff_not]
  rcases val_size hg hs hk hn hz with h | ⟨_,_,h1,h2⟩
  ·rw [h];omega
  ·rw [h1,h2];omega
 by_cases h:(256<(lensR t).getD k 0∨1024<(sizesR t).getD k 0)
 ·rw [if_pos h,if_pos (hc.1 h)]
 ·rw [if_neg h,if_neg (fun h'=>h (hc.2 h'))]
  rfl
theorem chk_good (hg:GoodTo t k)(hk:k<t.length)(hc:checkR t k=0):GoodTo t (k+1):=⟨by omega,hg.2.1,fun j hj=>by
 rcases Nat.lt_or_eq_of_le (Nat.le_of_lt_succ hj) with h | h
 ·exact hg.2.2 j h
 ·rw [h];exact hc⟩
theorem set_take {a b:List Int}{i:Nat}{v:Int}(h:a.take i=b.take i)(ha:i<a.length)(hb:i<b.length)(hv:v=b.getD i 0):(a.set i v).take (i+1)=b.take (i+1):=by
 rw [take_succ_getD 0 hb,← hv,List.take_succ_eq_append_getElem (by simpa using ha),List.take_set_of_le (Nat.le_refl _),h]
 simp
theorem chk_lens (_:GoodTo t k)(hk:k<t.length)(hc:checkR t k=0)(hl:ls.take k=(lensR t).take k)(hll:ls.length=t.length):(ls.set k (lenR ls (t.getD k default))).take (k+1)=(lensR t).take (k+1):=by
 refine set_take hl (by omega) (by unfold lensR;rw [accL_len];simpa using hk) ?_
 exact val_len hk (checkR_ok.1 hc).node hl
theorem chk_sizes (hg:GoodTo t k)(hs:Small t)(hk:k<t.length)(hc:checkR t k=0)(hl:zs.take k=(sizesR t).take k)(hll:zs.length=t.length):(zs.set k (sizeP zs (t.getD k default))).take (k+1)=(sizesR t).take (k+1):=by
 refine set_take hl (by omega) (by unfold sizesR;rw [accL_len];simpa using hk) ?_
 rcases val_size hg hs hk (checkR_ok.1 hc).node hl with h | ⟨h4,hv,_⟩
 ·exact h
 ·have:=(kids_few (chk_good hg hk hc) (Nat.lt_succ_self k)).2.2 h4
  rw [hv] at this
  simp at this
theorem valid_step (hk:k<t.length)(h:validT t=validFrom t k (t.length - k)):validT t=if checkR t k=0 then validFrom t (k+1) (t.length - (k+1)) else checkR t k:=by
 have e:t.length - k=(t.length - (k+1))+1:=by omega
 rw [h,e]
 rfl
theorem valid_bad (hk:k<t.length)(h:validT t=validFrom t k (t.length - k)){r:Int}(hc:checkR t k=r)(hr:¬ r=0):validT t=r:=by
 rw [valid_step hk h,if_neg (by rw [hc];exact hr),hc]
end
theorem sizeP_I64 {a:List Int}(ha:∀ x ∈ a,I64 x)(x:GN):I64 (sizeP a x):=by
 have h1:I64 1:=by unfold I64;omega
 unfold sizeP
 split
 ·exact rsz_I64 _
 ·split
  ·exact lsumW_I64 _ _ _ h1
  ·split
   ·exact lmostW_I64 _ ha _ _ _ _ h1
   ·split
    ·exact lmostW_I64 _ ha _ _ _ _ h1
    ·exact h1
theorem lenR_I64 {a:List Int}(_:∀ x ∈ a,I64 x)(x:GN):I64 (lenR a x):=by
 have h0:I64 0:=by unfold I64;omega
 have h1:I64 1:=by unfold I64;omega
 unfold lenR
 split
 ·exact h0
 ·split
  ·exact h1
  ·split
   ·exact lsumW_I64 _ _ _ h0
   ·split
    ·exact wrap_I64 _
    ·exact wrap_I64 _
theorem set_I64 {a:List Int}(ha:∀ x ∈ a,I64 x){i:Nat}{v:Int}(hv:I64 v):∀ x ∈ a.set i v,I64 x:=fun x hx=>by
 rcases List.mem_or_eq_of_mem_set hx with h | h
 ·exact ha x h
 ·rw [h];exact hv
end Go.Proofs.YtkoeecdjijfjnaaGreat
