/- Wire. Conditions: none. -/
import Derived.Test.YtfcplpeimcjhaaaGreatDoorVA
import Derived.Test.YtfcplpeimcjhaaaGreatDoorWJ
namespace Go.Proofs.YtfcplpeimcjhaaaGreatDoor
open Go.RowKit
structure RSt (g:Nat)(P:Nat→Prop)(A:Option Addr)(c:Nat)(e:Int)(l:List Int)(w:World):Prop where
  box:Blk w g 58 #[.slice A l.length c,.int .i64 e]
  len:l.length≤c∧c≤9223372036854775807∧l.length≤100000000000
  sl:Sl w P 1 A l.length (l.map (Value.int .u8))
  byt:Byt l
  sep:∀ k,P k→k ≠ g
  plt:∀ k,P k→k<w.heap.size
def RSm (e:Int)(l:List Int):Option (List Int)→Prop
  | some l'=>e=0∧l=l'
  | none=>e ≠ 0∧I64 e
def RS (g:Nat)(P:Nat→Prop)(s:Option (List Int))(w:World):Prop:=∃ A c e l,RSt g P A c e l w∧RSm e l s
def decs {α:Type}(d:Dec α)(x0:α)(s:Option (List Int))(x:α)(s':Option (List Int)):Prop:=match s.bind d with
  | some (y,r)=>x=y∧s'=some r
  | none=>x=x0∧s'=none
def RetRd {α:Type}(g:Nat)(P:Nat→Prop)(d:Dec α)(x0:α)(val:α→Value→World→Prop)(s:Option (List Int))(w:World)(e:Ending)(w':World):Prop:=∃ x s' v,e=.returned v∧val x v w'∧RS g P s' w'∧decs d x0 s x s'∧Fr (fun k=>k=g) w w'
section
variable {g:Nat}{P:Nat→Prop}{A:Option Addr}{c:Nat}{e:Int}{l:List Int}{w w':World}{s:Option (List Int)}
theorem RSt.set0 (h:RSt g P A c e l w){A':Option Addr}{c':Nat}{l':List Int}(hl:l'.length≤c'∧c'≤9223372036854775807∧l'.length≤100000000000)(hs:Sl w P 1 A' l'.length (l'.map (Value.int .u8)))(hb:Byt l'):RSt g P A' c' e l' (w.setCell ⟨g,0,none⟩ (.slice A' l'.length c')):=by
  refine ⟨by simpa using h.box.set_ 0 (.slice A' l'.length c'),hl,hs.keep (Keeps.of_fr ((Fr.refl (fun k=>k=g) w).setCell (p:=⟨g,0,none⟩) (.inl rfl) _) h.sep) (fun _ h=>h),hb,h.sep,by simpa using h.plt⟩
theorem RSt.set1 (h:RSt g P A c e l w)(e':Int):RSt g P A c e' l (w.setCell ⟨g,1,none⟩ (.int .i64 e')):=by
  refine ⟨by simpa using h.box.set_ 1 (.int .i64 e'),h.len,h.sl.keep (Keeps.of_fr ((Fr.refl (fun k=>k=g) w).setCell (p:=⟨g,1,none⟩) (.inl rfl) _) h.sep) (fun _ h=>h),h.byt,h.sep,by simpa using h.plt⟩
theorem RSt.ext (h:RSt g P A c e l w)(hx:Ext w w'):RSt g P A c e l w':=⟨h.box.ext hx,h.len,h.sl.keep (Keeps.of_ext hx) (fun _ h=>h),h.byt,h.sep,fun k hk=>Nat.lt_of_lt_of_le (h.plt k hk) hx.size⟩
theorem RSt.fr {M:Nat→Prop}(h:RSt g P A c e l w)(hf:Fr M w w')(hg:¬ M g)(hP:∀ k,P k→¬ M k):RSt g P A c e l w':=⟨h.box.fr hf hg,h.len,h.sl.keep (Keeps.of_fr hf hP) (fun _ h=>h),h.byt,h.sep,fun k hk=>Nat.lt_of_lt_of_le (h.plt k hk) hf.size⟩
theorem RS.fr {M:Nat→Prop}(h:RS g P s w)(hf:Fr M w w')(hg:¬ M g)(hP:∀ k,P k→¬ M k):RS g P s w':=by
  obtain ⟨A,c,e,l,h1,h2⟩:=h
  exact ⟨A,c,e,l,h1.fr hf hg hP,h2⟩
theorem RS.glt (h:RS g P s w):g<w.heap.size∧∀ k,P k→k<w.heap.size:=by
  obtain ⟨A,c,e,l,h1,h2⟩:=h
  exact ⟨h1.box.lt,h1.plt⟩
theorem RS.ext (h:RS g P s w)(hx:Ext w w'):RS g P s w':=by
  obtain ⟨A,c,e,l,h1,h2⟩:=h
  exact ⟨A,c,e,l,h1.ext hx,h2⟩
noncomputable def R128:=RG Tryz.f42
noncomputable abbrev c128:Code:=.seq (R128 0) (.cond (.tmp 8) (R128 1) .skip)
theorem b128:Tryz.f42.body=some c128:=by kernel_rfl
theorem fail128 (h:RSt g P A c 0 l w)(e':Int):Calls Tryz.prog 42 #[.pointer (some ⟨g,0,none⟩),.int .i64 e'] w fun en w'=>en=.returned (.tuple #[])∧RSt g P A c e' l w'∧Fr (fun k=>k=g) w w':=by
  refine callsU Tryz.func42 b128 rfl (by simp) (fun _ _=>by simp [results,Tryz.results42,go_sem]) (fun a Q sz df ea hQ=>?_)
  have e0:=ea 0 (.pointer (some ⟨g,0,none⟩)) rfl
  have e1:=ea 1 (.int .i64 e') rfl
  have c1:=h.box.cell' (u:=.int .i64 0) 1 rfl
  have f1:=h.box.frozen 1
  refine wp_seq (rW ?_)
  iterate 5 refine lv ?_
  refine lE a [0,1] 8 ?_
  intro a1 u1 e8
  replace sz:=u1.sz.trans sz
  replace df:=u1.df.trans df
  replace e0:=u1.get 0 e0
  replace e1:=u1.get 1 e1
  refine wp_cond_true e8 (rW ?_)
  iterate 4 refine lv ?_
  refine ls (w1:=w.setCell ⟨g,1,none⟩ (.int .i64 e')) ?_ (hrun:=by simp [execOp,go_sem, *])
  refine lN a1 [] ?_
  intro a2 u2
  exact hQ _ _ (u2.df.trans df) ⟨rfl,h.set1 e',(Fr.refl (fun k=>k=g) w).setCell (p:=⟨g,1,none⟩) (.inl rfl) _⟩
theorem Sl.dropB {bk ok k:Nat}(h:Sl w P 1 (some ⟨bk,ok,none⟩) l.length (l.map (Value.int .u8)))(hc:l.length≤c)(hk:k≤l.length):Sl w P 1 (if c=k then some ⟨bk,ok,none⟩ else some ⟨bk,ok+k,none⟩) (l.drop k).length ((l.drop k).map (Value.int .u8)):=by
  refine ⟨by simp,fun h0=>?_⟩
  rw [List.length_drop] at h0
  obtain ⟨b,off,e,hb,hcc⟩:=h.2 (by omega)
  cases e
  rw [if_neg (by omega)]
  refine ⟨bk,ok+k,rfl,hb,fun j u hu=>?_⟩
  rw [Nat.add_assoc]
  refine hcc (k+j) u ?_
  rw [List.map_drop,List.getElem?_drop] at hu
  exact hu
theorem or7 (i:Nat)(hi:i≤9)(acc:Nat)(b:Int)(ha:acc<128 ^ i)(hb:0≤b∧b<128)(h9:i=9→b≤1):bits .or .u64 (acc:Int) (IntKind.u64.wrap (b*2 ^ (7*(i:Int)).toNat))=((acc+128 ^ i*b.toNat:Nat):Int):=by
  have hc:i=0∨i=1∨i=2∨i=3∨i=4∨i=5∨i=6∨i=7∨i=8∨i=9:=by omega
  rcases hc with rfl | rfl | rfl | rfl | rfl | rfl | rfl | rfl | rfl | rfl
  · replace ha:acc<1:=ha
    rw [show (2:Int) ^ (7*((0:Nat):Int)).toNat=1 from rfl,show (128:Nat) ^ 0=1 from rfl,show IntKind.u64.wrap (b*1)=b*1 by simp [IntKind.wrap,IntKind.bits,IntKind.signed];omega,u64_orv0 (y:=(acc:Int)) (x:=b*1) (by omega) (by omega) (by omega) (by omega) (by omega)]
    omega
  · replace ha:acc<128:=ha
    rw [show (2:Int) ^ (7*((1:Nat):Int)).toNat=128 from rfl,show (128:Nat) ^ 1=128 from rfl,show IntKind.u64.wrap (b*128)=b*128 by simp [IntKind.wrap,IntKind.bits,IntKind.signed];omega,u64_orv7 (y:=(acc:Int)) (x:=b*128) (by omega) (by omega) (by omega) (by omega) (by omega)]
    omega
  · replace ha:acc<16384:=ha
    rw [show (2:Int) ^ (7*((2:Nat):Int)).toNat=16384 from rfl,show (128:Nat) ^ 2=16384 from rfl,show IntKind.u64.wrap (b*16384)=b*16384 by simp [IntKind.wrap,IntKind.bits,IntKind.signed];omega,u64_orv14 (y:=(acc:Int)) (x:=b*16384) (by omega) (by omega) (by omega) (by omega) (by omega)]
    omega
  · replace ha:acc<2097152:=ha
    rw [show (2:Int) ^ (7*((3:Nat):Int)).toNat=2097152 from rfl,show (128:Nat) ^ 3=2097152 from rfl,show IntKind.u64.wrap (b*2097152)=b*2097152 by simp [IntKind.wrap,IntKind.bits,IntKind.signed];omega,u64_orv21 (y:=(acc:Int)) (x:=b*2097152) (by omega) (by omega) (by omega) (by omega) (by omega)]
    omega
  · replace ha:acc<268435456:=ha
    rw [show (2:Int) ^ (7*((4:Nat):Int)).toNat=268435456 from rfl,show (128:Nat) ^ 4=268435456 from rfl,show IntKind.u64.wrap (b*268435456)=b*268435456 by simp [IntKind.wrap,IntKind.bits,IntKind.signed];omega,u64_orv28 (y:=(acc:Int)) (x:=b*268435456) (by omega) (by omega) (by omega) (by omega) (by omega)]
    omega
  · replace ha:acc<34359738368:=ha
    rw [show (2:Int) ^ (7*((5:Nat):Int)).toNat=34359738368 from rfl,show (128:Nat) ^ 5=34359738368 from rfl,show IntKind.u64.wrap (b*34359738368)=b*34359738368 by simp [IntKind.wrap,IntKind.bits,IntKind.signed];omega,u64_orv35 (y:=(acc:Int)) (x:=b*34359738368) (by omega) (by omega) (by omega) (by omega) (by omega)]
    omega
  · replace ha:acc<4398046511104:=ha
    rw [show (2:Int) ^ (7*((6:Nat):Int)).toNat=4398046511104 from rfl,show (128:Nat) ^ 6=4398046511104 from rfl,show IntKind.u64.wrap (b*4398046511104)=b*4398046511104 by simp [IntKind.wrap,IntKind.bits,IntKind.signed];omega,u64_orv42 (y:=(acc:Int)) (x:=b*4398046511104) (by omega) (by omega) (by omega) (by omega) (by omega)]
    omega
  · replace ha:acc<562949953421312:=ha
    rw [show (2:Int) ^ (7*((7:Nat):Int)).toNat=562949953421312 from rfl,show (128:Nat) ^ 7=562949953421312 from rfl,show IntKind.u64.wrap (b*562949953421312)=b*562949953421312 by simp [IntKind.wrap,IntKind.bits,IntKind.signed];omega,u64_orv49 (y:=(acc:Int)) (x:=b*562949953421312) (by omega) (by omega) (by omega) (by omega) (by omega)]
    omega
  · replace ha:acc<72057594037927936:=ha
    rw [show (2:Int) ^ (7*((8:Nat):Int)).toNat=72057594037927936 from rfl,show (128:Nat) ^ 8=72057594037927936 from rfl,show IntKind.u64.wrap (b*72057594037927936)=b*72057594037927936 by simp [IntKind.wrap,IntKind.bits,IntKind.signed];omega,u64_orv56 (y:=(acc:Int)) (x:=b*72057594037927936) (by omega) (by omega) (by omega) (by omega) (by omega)]
    omega
  · replace ha:acc<9223372036854775808:=ha
    rw [show (2:Int) ^ (7*((9:Nat):Int)).toNat=9223372036854775808 from rfl,show (128:Nat) ^ 9=9223372036854775808 from rfl,show IntKind.u64.wrap (b*9223372036854775808)=b*9223372036854775808 by simp [IntKind.wrap,IntKind.bits,IntKind.signed];omega,u64_orv63 (y:=(acc:Int)) (x:=b*9223372036854775808) (by omega) (by omega) (by omega) (by omega) (by omega)]
    omega
noncomputable def R126:=RG Tryz.f31
noncomputable abbrev c126:Code:=.seq (R126 0) (.seq (.seq (R126 1) (.cond (.tmp 10) (.seq (R126 2) .ret) .skip)) (.seq (R126 3) (.seq (R126 4) (.block 0 (.loop (.seq (.block 1 (.seq (.seq (R126 6) (.cond (.tmp 19) (.seq (R126 7) (.seq (R126 8) .ret)) .skip)) (.seq (R126 9) (.seq (.seq (R126 10) (.cond (.tmp 42) (.seq (R126 11) (.seq (R126 12) .ret)) .skip)) (.seq (R126 13) (.seq (R126 14) (.cond (.tmp 54) (.seq (R126 15) (.seq (R126 16) .ret)) .skip))))))) (R126 5)))))))
theorem b126:Tryz.f31.body=some c126:=by kernel_rfl
theorem reg126_10 {R:Exit→Act→World→Prop}{a:Act}{i:Nat}{b:Int}(hi:i≤9)(_:0≤b∧b<256)(sz:a.tmps.size=Tryz.f31.ntmps)(e4:Ev a (.tmp 4)=.int .i64 (i:Int))(e5:Ev a (.tmp 5)=.int .u8 b)
    (hR:∀ a',Ag [0,3,4,5] a a'→Ev a' (.tmp 42)=.bool (decide ((i=9∧1<b)∨(0<i∧b=0)))→R .normal a' w):Code.wp Tryz.prog (R126 10) R a w:=by
  refine rW ?_
  by_cases h9:i=9
  · subst h9
    by_cases h1:1<b
    · iterate 3 refine lv ?_
      iterate 2 refine ly ?_
      iterate 2 refine lv ?_
      iterate 3 refine ln ?_
      iterate 2 refine l_u rfl rfl rfl (by simp [*]) (by simp [*]) ?_
      refine ln ?_
      refine lv ?_
      exact lE a [0,3,4,5] 42 hR (he:=by simp [*])
    · iterate 3 refine lv ?_
      iterate 2 refine ly ?_
      iterate 2 refine lv ?_
      iterate 6 refine ly ?_
      refine lv ?_
      exact lE a [0,3,4,5] 42 hR (he:=by simp [*];by_cases hb0:b=0 <;> simp [hb0])
  · have t1:((i:Int) == 9)=false:=beq_eq_false_iff_ne.2 (by omega)
    by_cases h0:i=0
    · subst h0
      iterate 3 refine lv ?_
      iterate 2 refine ln ?_
      iterate 2 refine lv ?_
      iterate 3 refine ly ?_
      iterate 2 refine ln ?_
      refine ly ?_
      refine lv ?_
      exact lE a [0,3,4,5] 42 hR (he:=by simp [*])
    · have t2:decide (0<i)=true:=decide_eq_true (by omega)
      have t3:0<i:=by omega
      iterate 3 refine lv ?_
      iterate 2 refine ln ?_
      iterate 2 refine lv ?_
      iterate 6 refine ly ?_
      refine lv ?_
      exact lE a [0,3,4,5] 42 hR (he:=by simp [*];by_cases hb0:b=0 <;> simp [hb0])
set_option maxHeartbeats 4000000 in
theorem uint126 (h:RS g P s w):Calls Tryz.prog 31 #[.pointer (some ⟨g,0,none⟩)] w (RetRd g P decU 0 (fun n v _=>v=.int .u64 (n:Int)∧n<18446744073709551616) s w):=by
  refine callsV Tryz.func31 b126 rfl (by simp) (fun a Q sz df ea hQ=>?_)
  have e0:=ea 0 (.pointer (some ⟨g,0,none⟩)) rfl
  obtain ⟨A,c,e,l,h1,h2⟩:=h
  have c0:=h1.box.cell' (u:=.slice A l.length c) 0 rfl
  have c1:=h1.box.cell' (u:=.int .i64 e) 1 rfl
  refine wp_seq (rW ?_)
  refine lv ?_
  refine lN a [0] ?_
  intro a1 u1
  replace sz:=u1.sz.trans sz
  replace df:=u1.df.trans df
  replace e0:=u1.get 0 e0
  refine wp_seq (wp_seq (rW ?_))
  iterate 5 refine lv ?_
  refine lE a1 [0] 10 ?_
  intro a2 u2 e10
  replace sz:=u2.sz.trans sz
  replace df:=u2.df.trans df
  replace e0:=u2.get 0 e0
  cases s with
  | none =>
    obtain ⟨h2,h3⟩:=h2
    refine wp_cond_true (e10.trans (by simp [h2])) (wp_seq (rW ?_))
    refine lv ?_
    refine lE a2 [] 2 ?_
    intro a3 u3 e2
    exact wp_ret (hQ _ _ _ (u3.df.trans df) (by simp [results,Tryz.results31,go_sem,evT e2];try rfl) ⟨0,none,_,rfl,⟨rfl,by decide⟩,⟨A,c,e,l,h1,h2,h3⟩,⟨rfl,rfl⟩,Fr.refl _ _⟩)
  | some l0 =>
    obtain ⟨rfl,rfl⟩:=h2
    refine wp_cond_false (e10.trans (by simp)) (wp_skip (wp_seq (rW ?_)))
    refine lv ?_
    refine lE a2 [0] 3 ?_
    intro a3 u3 e3
    replace sz:=u3.sz.trans sz
    replace df:=u3.df.trans df
    replace e0:=u3.get 0 e0
    refine wp_seq (rW ?_)
    refine lv ?_
    refine lE a3 [0,3] 4 ?_
    intro a4 u4 e4
    replace sz:=u4.sz.trans sz
    replace df:=u4.df.trans df
    replace e0:=u4.get 0 e0
    replace e3:=u4.get 3 e3
    refine wp_block (wp_loop (fun a' V=>∃ (i acc:Nat),Ag [0] a4 a'∧Ev a' (.tmp 4)=.int .i64 (i:Int)∧Ev a' (.tmp 3)=.int .u64 (acc:Int)∧i≤9∧i≤l.length∧acc<128 ^ i∧decU l=(decUg (l.drop i) i).map (fun x=>(acc+128 ^ i*x.1,x.2))∧V=w) (fun a' _=>(10 - intOf (Ev a' (.tmp 4))).toNat) ⟨0,0,.rf,e4,e3,by omega,by omega,by decide,by simp [decU],rfl⟩ ?_)
    clear e3 e4
    rintro a5 V ⟨i,acc,u5,e4,e3,hi,hil,hacc,hd,rfl⟩
    replace sz:=u5.sz.trans sz
    replace df:=u5.df.trans df
    replace e0:=u5.get 0 e0
    have m4:=e4
    refine wp_seq (wp_block (wp_seq (wp_seq (rW ?_))))
    iterate 7 refine lv ?_
    refine lE a5 [0,3,4] 19 ?_
    intro a6 u6 e19
    replace sz:=u6.sz.trans sz
    replace df:=u6.df.trans df
    replace e0:=u6.get 0 e0
    replace e3:=u6.get 3 e3
    replace e4:=u6.get 4 e4
    by_cases hlt:i<l.length
    · refine wp_cond_false (e19.trans (by simp;omega)) (wp_skip (wp_seq (rW ?_)))
      obtain ⟨bk,ok,rfl,-,hc⟩:=h1.sl.u8 hlt
      have hby:=h1.byt _ (getD_mem (d:=0) hlt)
      rw [drop_getD 0 hlt] at hd
      generalize l.getD i 0=b at *
      have hii:(i:Int)<l.length:=by omega
      iterate 8 refine lv ?_
      refine lE a6 [0,3,4] 5 ?_
      intro a7 u7 e5
      replace sz:=u7.sz.trans sz
      replace df:=u7.df.trans df
      replace e0:=u7.get 0 e0
      replace e3:=u7.get 3 e3
      replace e4:=u7.get 4 e4
      refine wp_seq (wp_seq (reg126_10 hi hby sz e4 e5 (fun a8 u8 e42=>?_)))
      replace sz:=u8.sz.trans sz
      replace df:=u8.df.trans df
      replace e0:=u8.get 0 e0
      replace e3:=u8.get 3 e3
      replace e4:=u8.get 4 e4
      replace e5:=u8.get 5 e5
      by_cases hbad:(i=9∧1<b)∨(0<i∧b=0)
      · refine wp_cond_true (e42.trans (by simp [hbad])) (wp_seq (rW ?_))
        refine lv ?_
        refine lc Tryz.func42 (fail128 h1 2) ?_
        rintro e w1 ⟨rfl,h3,hf⟩
        refine ⟨_,rfl,?_⟩
        refine lN a8 [0] ?_
        intro a9 u9
        replace sz:=u9.sz.trans sz
        refine wp_seq (rW ?_)
        refine lv ?_
        refine lE a9 [] 2 ?_
        intro b1 z1 e2
        have hn:decU l=none:=by rw [hd,decUg,if_pos hbad];rfl
        exact wp_ret (hQ _ _ _ (z1.df.trans (u9.df.trans df)) (by simp [results,Tryz.results31,go_sem,evT e2];try rfl) ⟨0,none,_,rfl,⟨rfl,by decide⟩,⟨_,c,2,l,h3,by decide,by unfold I64;omega⟩,by simp [decs,hn],hf⟩)
      · refine wp_cond_false (e42.trans (by simp only [hbad,decide_false])) (wp_skip (wp_seq (rW ?_)))
        have hA:=u8_and127 _ hby.1 hby.2
        have hw1:=wrU (z:=b % 128) (by omega) (by omega)
        have hw2:=wrI (a:=7*(i:Int)) (by omega) (by omega)
        have hor:=or7 i hi acc (b % 128) hacc (by omega) (by omega)
        generalize hacc2:acc+128 ^ i*(b % 128).toNat=acc2 at hor
        iterate 9 refine lv ?_
        refine lE a8 [0,4,5] 3 ?_
        clear e3
        intro a9 u9 e3
        replace sz:=u9.sz.trans sz
        replace df:=u9.df.trans df
        replace e0:=u9.get 0 e0
        replace e4:=u9.get 4 e4
        replace e5:=u9.get 5 e5
        refine wp_seq (rW ?_)
        iterate 2 refine lv ?_
        refine lE a9 [0,3,4] 54 ?_
        intro a10 u10 e54
        replace sz:=u10.sz.trans sz
        replace df:=u10.df.trans df
        replace e0:=u10.get 0 e0
        replace e3:=u10.get 3 e3
        replace e4:=u10.get 4 e4
        by_cases hlt2:b<128
        · refine wp_cond_true (e54.trans (by simp [hlt2])) (wp_seq (rW ?_))
          have hwi:=wrI (a:=(i:Int)+1) (by omega) (by omega)
          have h01:0≤(i:Int)+1∧(i:Int)+1≤l.length:=by omega
          iterate 8 refine lv ?_
          have hsl:=h1.sl.dropB (k:=i+1) h1.len.1 (by omega)
          generalize (if c=i+1 then some (⟨bk,ok,none⟩:Addr) else some ⟨bk,ok+(i+1),none⟩)=A1 at *
          have hld:(l.drop (i+1)).length=l.length - (i+1):=List.length_drop
          have hh:=h1.set0 (A':=A1) (c':=c - (i+1)) (by have:=h1.len;omega) hsl h1.byt.drop
          rw [hld] at hh
          have f0:=h1.box.frozen 0
          iterate 2 refine lv ?_
          refine ls (w1:=V.setCell ⟨g,0,none⟩ (.slice A1 (l.length - (i+1)) (c - (i+1)))) ?_ (hrun:=by simp [execOp,go_sem, *])
          refine lE a10 [] 3 ?_
          clear e3
          intro b1 z1 e3
          replace sz:=z1.sz.trans sz
          refine wp_seq (rW ?_)
          iterate 2 refine lv ?_
          refine lE b1 [] 2 ?_
          intro b2 z2 e2
          have hn:decU l=some (acc2,l.drop (i+1)):=by
            rw [hd,decUg,if_neg hbad,if_pos hlt2,← hacc2,show b % 128=b by omega]
            rfl
          exact wp_ret (hQ _ _ _ (z2.df.trans (z1.df.trans df)) (by simp [results,Tryz.results31,go_sem,evT e2];try rfl) ⟨acc2,some (l.drop (i+1)),_,rfl,⟨rfl,(decU_canon h1.byt hn).2⟩,⟨A1,_,0,_,hh,rfl,rfl⟩,by simp [decs,hn],(Fr.refl (fun k=>k=g) V).setCell (p:=⟨g,0,none⟩) (.inl rfl) _⟩)
        · refine wp_cond_false (e54.trans (by simp [hlt2])) (wp_skip (rW ?_))
          iterate 3 refine lv ?_
          refine lE a10 [0,3] 4 ?_
          clear e4
          intro b1 z1 e4
          refine ⟨⟨i+1,acc2,(((((u5.trans (u6.mono rfl)).trans (u7.mono rfl)).trans (u8.mono rfl)).trans (u9.mono rfl)).trans (u10.mono rfl)).trans (z1.mono rfl),e4.trans (by simp),z1.get 3 e3,?_,hlt,?_,?_,rfl⟩,?_⟩
          · omega
          · rw [pow128,← hacc2]
            have h1:128 ^ i*(b % 128).toNat≤128 ^ i*127:=Nat.mul_le_mul_left _ (by omega)
            omega
          · rw [hd,decUg,if_neg hbad,if_neg hlt2,Option.map_map]
            congr 1
            funext x
            simp only [Function.comp]
            rw [← hacc2,pow128,Nat.mul_add,show b.toNat % 128=(b % 128).toNat by omega,show 128 ^ i*(128*x.1)=128*128 ^ i*x.1 by rw [← Nat.mul_assoc,Nat.mul_comm (128 ^ i) 128],Nat.add_assoc]
          · rw [e4,m4]
            simp only [intOf]
            omega
    · refine wp_cond_true (e19.trans (by simp;omega)) (wp_seq (rW ?_))
      refine lv ?_
      refine lc Tryz.func42 (fail128 h1 3) ?_
      rintro e w1 ⟨rfl,h3,hf⟩
      refine ⟨_,rfl,?_⟩
      refine lN a6 [0] ?_
      intro a7 u7
      replace sz:=u7.sz.trans sz
      refine wp_seq (rW ?_)
      refine lv ?_
      refine lE a7 [] 2 ?_
      intro a8 u8 e2
      have hn:decU l=none:=by rw [hd,List.drop_of_length_le (by omega)];rfl
      exact wp_ret (hQ _ _ _ (u8.df.trans (u7.df.trans df)) (by simp [results,Tryz.results31,go_sem,evT e2];try rfl) ⟨0,none,_,rfl,⟨rfl,by decide⟩,⟨A,c,3,l,h3,by decide,by unfold I64;omega⟩,by simp [decs,hn],hf⟩)
end
theorem zagX {n:Nat}(hn:n<18446744073709551616):bits .xor .i64 ((n:Int) / 2) (IntKind.i64.wrap (-(IntKind.i64.wrap (bits .and .u64 (n:Int) 1))))=zag n:=by
  have h1:(n:Int) / 2=((n / 2:Nat):Int):=by omega
  rw [h1,Lib.u64_and1 _ (by omega) (by omega)]
  unfold zag
  have hc:∀ x y:Int,bits .xor .i64 x y=bits .xor .i64 y x:=fun x y=>by
    show IntKind.i64.wrap ((BitVec.ofInt 64 x ^^^ BitVec.ofInt 64 y).toNat:Int)=IntKind.i64.wrap ((BitVec.ofInt 64 y ^^^ BitVec.ofInt 64 x).toNat:Int)
    rw [BitVec.xor_comm]
  have h2:n % 2=0∨n % 2=1:=by omega
  rcases h2 with h2 | h2
  · rw [if_neg (by omega),show (n:Int) % 2=0 by omega]
    show IntKind.i64.wrap ((BitVec.ofInt 64 ((n / 2:Nat):Int) ^^^ BitVec.ofInt 64 0).toNat:Int)=_
    rw [BitVec.ofInt_natCast,show BitVec.ofInt 64 0=0#64 from rfl,BitVec.xor_zero,BitVec.toNat_ofNat,Nat.mod_eq_of_lt (by omega),wrI (by omega) (by omega)]
  · rw [if_pos h2,show (n:Int) % 2=1 by omega,show IntKind.i64.wrap (-(IntKind.i64.wrap 1))=-1 by decide,hc,Lib.i64_not _ (by omega)]
theorem decs.int {s s':Option (List Int)}{n:Nat}(h:decs decU 0 s n s'):decs decI 0 s (zag n) s':=by
  cases s with
  | none=>obtain ⟨rfl,rfl⟩:=h;exact ⟨rfl,rfl⟩
  | some l =>
    simp only [decs,Option.bind_some,decI] at h ⊢
    cases hd:decU l with
    | none=>rw [hd] at h;obtain ⟨rfl,rfl⟩:=h;exact ⟨rfl,rfl⟩
    | some y=>rw [hd] at h;obtain ⟨rfl,rfl⟩:=h;exact ⟨rfl,rfl⟩
section
variable {g:Nat}{P:Nat→Prop}{w w':World}{s:Option (List Int)}
noncomputable def R77:=RG Tryz.f28
noncomputable abbrev c77:Code:=.seq (R77 0) (.seq (R77 1) (.seq (R77 2) .ret))
theorem b77:Tryz.f28.body=some c77:=by kernel_rfl
theorem int77 (h:RS g P s w):Calls Tryz.prog 28 #[.pointer (some ⟨g,0,none⟩)] w (RetRd g P decI 0 (fun n v _=>v=.int .i64 n∧I64 n) s w):=by
  refine callsV Tryz.func28 b77 rfl (by simp) (fun a Q sz df ea hQ=>?_)
  have e0:=ea 0 (.pointer (some ⟨g,0,none⟩)) rfl
  refine wp_seq (rW ?_)
  refine lv ?_
  refine lN a [0] ?_
  intro a1 u1
  replace sz:=u1.sz.trans sz
  replace df:=u1.df.trans df
  replace e0:=u1.get 0 e0
  refine wp_seq (rW ?_)
  refine lv ?_
  refine lc Tryz.func31 (uint126 h) ?_
  rintro e w1 ⟨n,s',v,rfl,⟨rfl,hn⟩,hs,hd,hf⟩
  refine ⟨_,rfl,?_⟩
  refine lv ?_
  refine lE a1 [] 3 ?_
  intro a2 u2 e3
  replace sz:=u2.sz.trans sz
  have hz:=zagX hn
  refine wp_seq (rW ?_)
  iterate 9 refine lv ?_
  refine lE a2 [] 2 ?_
  intro a3 u3 e2
  exact wp_ret (hQ _ _ _ (u3.df.trans (u2.df.trans df)) (by simp [results,Tryz.results28,go_sem,evT e2];try rfl) ⟨zag n,s',_,rfl,⟨rfl,zag_I n hn⟩,hs,hd.int,hf⟩)
end
def decLen:Dec Nat:=fun l=>(decU l).bind fun x=>if x.2.length<x.1 then none else some x
theorem decR_len (l:List Int):decR l=(decLen l).map fun x=>(x.2.take x.1,x.2.drop x.1):=by
  unfold decR decLen
  cases decU l with
  | none=>rfl
  | some x=>simp only [Option.bind_some];split <;> rfl
section
variable {g:Nat}{P:Nat→Prop}{A:Option Addr}{c:Nat}{e:Int}{l:List Int}{w w':World}{s:Option (List Int)}
noncomputable def R125:=RG Tryz.f34
noncomputable abbrev c125:Code:=.seq (R125 0) (.seq (R125 1) (.seq (.seq (R125 2) (.cond (.tmp 20) (R125 3) .skip)) (.seq (.seq (R125 4) (.cond (.tmp 27) (.seq (R125 5) .ret) .skip)) (.seq (R125 6) .ret))))
theorem b125:Tryz.f34.body=some c125:=by kernel_rfl
set_option maxHeartbeats 1000000 in
theorem length125 (h:RS g P s w):Calls Tryz.prog 34 #[.pointer (some ⟨g,0,none⟩)] w (RetRd g P decLen 0 (fun n v _=>v=.int .i64 (n:Int)) s w):=by
  refine callsV Tryz.func34 b125 rfl (by simp) (fun a Q sz df ea hQ=>?_)
  have e0:=ea 0 (.pointer (some ⟨g,0,none⟩)) rfl
  refine wp_seq (rW ?_)
  refine lv ?_
  refine lN a [0] ?_
  intro a1 u1
  replace sz:=u1.sz.trans sz
  replace df:=u1.df.trans df
  replace e0:=u1.get 0 e0
  refine wp_seq (rW ?_)
  refine lv ?_
  refine lc Tryz.func31 (uint126 h) ?_
  rintro e w1 ⟨n,s',v,rfl,⟨rfl,hn⟩,hs,hd,hf⟩
  refine ⟨_,rfl,?_⟩
  refine lv ?_
  refine lE a1 [0] 3 ?_
  intro a2 u2 e3
  replace sz:=u2.sz.trans sz
  replace df:=u2.df.trans df
  replace e0:=u2.get 0 e0
  obtain ⟨A,c,e,l,h1,h2⟩:=hs
  have c0:=h1.box.cell' (u:=.slice A l.length c) 0 rfl
  have c1:=h1.box.cell' (u:=.int .i64 e) 1 rfl
  have hres:∀ (x:Nat) (s2:Option (List Int)) (b2:Act) (V:World),b2.defers=[]→Ev b2 (.tmp 2)=.int .i64 (x:Int)→decs decLen 0 s x s2→RS g P s2 V→Fr (fun k=>k=g) w V→Q .ret b2 V:=fun x s2 b2 V hd e2 hds hR hF=>hQ _ _ _ hd (by simp [results,Tryz.results34,go_sem,evT e2];try rfl) ⟨x,s2,_,rfl,rfl,hR,hds,hF⟩
  cases s' with
  | none =>
    obtain ⟨h2,h3⟩:=h2
    have t0:(e == 0)=false:=beq_eq_false_iff_ne.2 h2
    have t1:(e != 0)=true:=bne_iff_ne.2 h2
    have hds:decs decLen 0 s 0 none:=by
      cases s with
      | none=>exact ⟨rfl,rfl⟩
      | some l0 =>
        simp only [decs,Option.bind_some,decLen] at hd ⊢
        cases hu:decU l0 with
        | none=>simp
        | some y=>rw [hu] at hd;cases hd.2
    refine wp_seq (wp_seq (rW ?_))
    iterate 6 refine lv ?_
    iterate 8 refine ln ?_
    refine lv ?_
    refine lE a2 [0] 20 ?_
    intro a3 u3 e20
    replace sz:=u3.sz.trans sz
    replace df:=u3.df.trans df
    replace e0:=u3.get 0 e0
    refine wp_cond_false e20 (wp_skip (wp_seq (wp_seq (rW ?_))))
    iterate 5 refine lv ?_
    refine lE a3 [0] 27 ?_
    intro a4 u4 e27
    replace sz:=u4.sz.trans sz
    replace df:=u4.df.trans df
    replace e0:=u4.get 0 e0
    refine wp_cond_true e27 (wp_seq (rW ?_))
    refine lv ?_
    refine lE a4 [] 2 ?_
    intro a5 u5 e2
    exact wp_ret (hres 0 none _ _ (u5.df.trans df) e2 hds ⟨A,c,e,l,h1,h2,h3⟩ hf)
  | some l1 =>
    obtain ⟨rfl,rfl⟩:=h2
    have hlen:=h1.len
    have hw:=wrU (z:=l.length) (by omega) (by omega)
    refine wp_seq (wp_seq (rW ?_))
    iterate 6 refine lv ?_
    iterate 8 refine ly ?_
    refine lv ?_
    refine lE a2 [0,3] 20 ?_
    intro a3 u3 e20
    replace sz:=u3.sz.trans sz
    replace df:=u3.df.trans df
    replace e0:=u3.get 0 e0
    replace e3:=u3.get 3 e3
    obtain ⟨l0,rfl,hu⟩:∃ l0,s=some l0∧decU l0=some (n,l):=by
      cases s with
      | none=>cases hd.2
      | some l0 =>
        simp only [decs,Option.bind_some] at hd
        cases hu:decU l0 with
        | none=>rw [hu] at hd;cases hd.2
        | some y =>
          rw [hu] at hd
          obtain ⟨rfl,h5⟩:=hd
          cases h5
          exact ⟨l0,rfl,hu⟩
    by_cases hlt:l.length<n
    · refine wp_cond_true (e20.trans (by simp;omega)) (rW ?_)
      refine lv ?_
      refine lc Tryz.func42 (fail128 h1 3) ?_
      rintro e w2 ⟨rfl,h3,hf2⟩
      refine ⟨_,rfl,?_⟩
      refine lN a3 [0] ?_
      intro a4 u4
      replace sz:=u4.sz.trans sz
      replace df:=u4.df.trans df
      replace e0:=u4.get 0 e0
      have d1:=h3.box.cell' (u:=.int .i64 3) 1 rfl
      refine wp_seq (wp_seq (rW ?_))
      iterate 5 refine lv ?_
      refine lE a4 [0] 27 ?_
      intro a5 u5 e27
      replace sz:=u5.sz.trans sz
      replace df:=u5.df.trans df
      replace e0:=u5.get 0 e0
      refine wp_cond_true e27 (wp_seq (rW ?_))
      refine lv ?_
      refine lE a5 [] 2 ?_
      intro a6 u6 e2
      exact wp_ret (hres 0 none _ _ (u6.df.trans df) e2 (by simp [decs,decLen,hu,hlt]) ⟨A,c,3,l,h3,by decide,by unfold I64;omega⟩ (hf.trans hf2))
    · refine wp_cond_false (e20.trans (by simp;omega)) (wp_skip ?_)
      refine wp_seq (wp_seq (rW ?_))
      iterate 5 refine lv ?_
      refine lE a3 [0,3] 27 ?_
      intro a4 u4 e27
      replace sz:=u4.sz.trans sz
      replace df:=u4.df.trans df
      replace e0:=u4.get 0 e0
      replace e3:=u4.get 3 e3
      refine wp_cond_false e27 (wp_skip (wp_seq (rW ?_)))
      have hwn:=wrI (a:=(n:Int)) (by omega) (by omega)
      iterate 3 refine lv ?_
      refine lE a4 [] 2 ?_
      intro a5 u5 e2
      exact wp_ret (hres n (some l) _ _ (u5.df.trans df) e2 (by simp [decs,decLen,hu,hlt]) ⟨A,c,0,l,h1,rfl,rfl⟩ hf)
theorem Sl.takeB {k:Nat}(h:Sl w P 1 A l.length (l.map (Value.int .u8)))(hk:k≤l.length):Sl w P 1 A k ((l.take k).map (Value.int .u8)):=by
  refine ⟨by simp;omega,fun h0=>?_⟩
  obtain ⟨b,off,e,hb,hc⟩:=h.2 (by omega)
  refine ⟨b,off,e,hb,fun j u hu=>hc j u ?_⟩
  rw [List.map_take,List.getElem?_take] at hu
  split at hu
  · exact hu
  · cases hu
noncomputable def R124:=RG Tryz.f33
noncomputable abbrev c124:Code:=.seq (R124 0) (.seq (R124 1) (.seq (R124 2) (.seq (R124 3) .ret)))
theorem b124:Tryz.f33.body=some c124:=by kernel_rfl
set_option maxHeartbeats 1000000 in
theorem take124 (h:RSt g P A c e l w)(n:Nat)(hn:n≤l.length):Calls Tryz.prog 33 #[.pointer (some ⟨g,0,none⟩),.int .i64 (n:Int)] w fun en w'=>en=.returned (.slice A n c)∧(∃ A' c',RSt g P A' c' e (l.drop n) w')∧Fr (fun k=>k=g) w w':=by
  have hlen:=h.len
  refine callsV Tryz.func33 b124 rfl (by simp) (fun a Q sz df ea hQ=>?_)
  have e0:=ea 0 (.pointer (some ⟨g,0,none⟩)) rfl
  have e1:=ea 1 (.int .i64 (n:Int)) rfl
  have c0:=h.box.cell' (u:=.slice A l.length c) 0 rfl
  have f0:=h.box.frozen 0
  have hn1:(n:Int)≤(c:Int):=by omega
  have hn2:(n:Int)≤(l.length:Int):=by omega
  refine wp_seq (rW ?_)
  refine lv ?_
  refine lN a [0,1] ?_
  intro a1 u1
  replace sz:=u1.sz.trans sz
  replace df:=u1.df.trans df
  replace e0:=u1.get 0 e0
  replace e1:=u1.get 1 e1
  refine wp_seq (rW ?_)
  iterate 5 refine lv ?_
  refine lv ?_ (hrun:=by simp [execOp,go_sem, *];exact ⟨rfl,rfl⟩)
  refine lv ?_
  refine lE a1 [0,1] 5 ?_
  intro a2 u2 e5
  replace sz:=u2.sz.trans sz
  replace df:=u2.df.trans df
  replace e0:=u2.get 0 e0
  replace e1:=u2.get 1 e1
  have hend:∀ (b:Act) (A':Option Addr) (c':Nat),Ag [5] a2 b→(l.drop n).length≤c'∧c'≤9223372036854775807→Sl w P 1 A' (l.drop n).length ((l.drop n).map (Value.int .u8))→Code.wp Tryz.prog (.seq (R124 3) .ret) Q b (w.setCell ⟨g,0,none⟩ (.slice A' (l.length - n) c')):=by
    intro b A' c' u hc hs
    replace sz:=u.sz.trans sz
    replace e5:=u.get 5 e5
    refine wp_seq (rW ?_)
    iterate 2 refine lv ?_
    refine lE b [] 4 ?_
    intro b1 u1 e4
    have hh:=h.set0 (A':=A') (c':=c') (l':=l.drop n) ⟨hc.1,hc.2,by rw [List.length_drop];omega⟩ hs h.byt.drop
    rw [List.length_drop] at hh
    exact wp_ret (hQ _ _ _ (u1.df.trans (u.df.trans df)) (by simp [results,Tryz.results33,go_sem,evT e4];try rfl) ⟨rfl,⟨A',c',hh⟩,(Fr.refl (fun k=>k=g) w).setCell (p:=⟨g,0,none⟩) (.inl rfl) _⟩)
  refine wp_seq (rW ?_)
  by_cases hl:0<l.length
  · obtain ⟨bk,ok,rfl,-,-⟩:=h.sl.2 hl
    have hsl:=h.sl.dropB (k:=n) h.len.1 hn
    have h01:0≤(n:Int)∧(n:Int)≤l.length:=by omega
    iterate 7 refine lv ?_
    generalize (if c=n then some (⟨bk,ok,none⟩:Addr) else some ⟨bk,ok+n,none⟩)=A1 at *
    iterate 2 refine lv ?_
    refine ls (w1:=w.setCell ⟨g,0,none⟩ (.slice A1 (l.length - n) (c - n))) ?_ (hrun:=by simp [execOp,go_sem, *])
    refine lN a2 [5] (fun b u=>hend b A1 (c - n) u (by rw [List.length_drop];omega) hsl)
  · have hl0:l=[]:=List.eq_nil_of_length_eq_zero (by omega)
    subst hl0
    have hn0:n=0:=by simpa using hn
    subst hn0
    have hs0:∀ A',Sl w P 1 A' (([]:List Int).drop 0).length ((([]:List Int).drop 0).map (Value.int .u8)):=fun A'=>⟨rfl,fun h=>absurd h (by simp)⟩
    cases A with
    | none =>
      iterate 9 refine lv ?_
      refine ls ?_ (hrun:=by simp [execOp,go_sem, *];rfl)
      exact lN a2 [5] (fun b u=>hend b _ _ u (by simp;omega) (hs0 _))
    | some ad =>
      iterate 9 refine lv ?_
      refine ls ?_ (hrun:=by simp [execOp,go_sem, *];rfl)
      exact lN a2 [5] (fun b u=>hend b _ _ u (by simp;omega) (hs0 _))
end
end Go.Proofs.YtfcplpeimcjhaaaGreatDoor
