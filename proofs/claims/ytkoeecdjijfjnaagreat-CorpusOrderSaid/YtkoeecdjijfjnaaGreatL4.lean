/- The contract of the generator Some. Conditions: none. Before it: The contract of the generator Raw. Conditions: none. -/
import Derived.Deep.RegionHeld3
import Derived.Deep.DeepCutAuto
import Derived.Test.YtkoeecdjijfjnaaGreatQ1
import Derived.Test.YtkoeecdjijfjnaaGreatPlM
namespace Go.Proofs.YtkoeecdjijfjnaaGreat
open Go.RowKit
def RetRaw (n:Nat)(w:World)(e:Ending)(w':World):Prop:=∃ (A:Option Addr)(c:Nat)(l:List Int),e=.returned (.slice A l.length c)∧Ints w' (fun b=>w.heap.size≤b) (.slice A l.length c) l∧l.length=n∧Ext w w'
def RawInv (n:Nat)(W:World)(v i:Value)(wr:World):Prop :=
 ∃ (k:Nat) (l:List Int),k≤n∧i=.int .i64 k∧l.length=k∧(∀ x ∈ l,I64 x)∧wr.ownsRow W.heap.size 3 1 v k (l.map (Value.int .i64))∧Ext W wr
set_option maxRecDepth 100000 in
set_option maxHeartbeats 2000000 in
theorem raw_any (l:List Int)(n:Nat)(P:Nat→Prop)(v:Value)(w:World)(hv:Ints w P v l)(hn:n≤1000):Calls Tryz.prog 45 #[v,.int .i64 n] w (RetRaw n w):=by
 have HV:=Lib.hid hv
 obtain ⟨Al,cl,el,h1,h2⟩:=hv.form
 subst el
 clear hv
 obtain ⟨i0,hi,hz0,hz1,hz2⟩:=info_parts Tryz.info3
 have HI:=Lib.hid hi
 clear hi
 go_enter Tryz.func45,Tryz.ntmps45
 go_wp2_with fail
 go_loopw [5,6] (fun v i wr=>RawInv n w v i wr) (fun _ i _=>n - (intOf i).toNat)
 case atStart=>exact ⟨0,[],Nat.zero_le _,rfl,rfl,by simp,own_none _ _ _ _,Ext.refl _⟩
 case round =>
  obtain ⟨k,l',hk,rfl,hl',h64,hown,hx⟩:=hrel
  obtain ⟨A5,c5,e5,-,-,-⟩:=Sl.of_own hown
  subst e5
  have HOWN:=Lib.hid hown
  have H64:=Lib.hid h64
  have HX:=Lib.hid hx
  have hsz:=hx.size
  have HL:=Lib.hid hl'
  clear hown h64 hx hl'
  by_cases hlt:k<n
  ·have HP1:=Lib.hid (pick_any l (k:Int) 9 P _ wr (HV.out.ext HX.out) (by unfold I64;omega) (by omega) (by omega))
   have HP2:=Lib.hid (pick_any l ((k:Int)+1) 20 P _ wr (HV.out.ext HX.out) (by unfold I64;omega) (by omega) (by omega))
   have b1:=pick_pos (l:=l) (i:=(k:Int)) (m:=9) (by omega)
   have b2:=pick_pos (l:=l) (i:=(k:Int)+1) (m:=20) (by omega)
   generalize pick l (k:Int) 9=p1 at *
   generalize pick l ((k:Int)+1) 20=p2 at *
   go_wp2_with fail
   refine HP1.out.mono ?_
   rintro e w' ⟨rfl,rfl⟩
   go_wp2_with fail
   refine HP2.out.mono ?_
   rintro e w' ⟨rfl,rfl⟩
   go_wp2_with (at_builtin;go_must (refine wpList_append_sl _ rfl (.tmp 12) (.tmp 22) 22 (by rfl) w.heap.size 3 i0 _ 1 8 Tryz.underlying22 HI.out hz0 hz1 hz2 rfl (by omega) (.slice A5 k c5) _ _ rfl (HOWN.out.alloc _) (fun _=>True) (some ⟨wr.heap.size,0,none⟩) 1 1 [.int .i64 (p1 - p2 / 19)] rfl (Sl.new wr _ _ _ _ rfl) (by simp [Value.oneCell']) (by omega) (by omega) (by simp;omega) ?_);intro v9 w4 ho4 hf4 hb4)
   go_roundw
   case rel =>
    refine ⟨k+1,l' ++ [p1 - p2 / 19],by omega,by go_num,by rw [List.length_append,HL.out];rfl,?_,?_,?_⟩
    ·intro x hx
     rcases List.mem_append.1 hx with hx | hx
     ·exact H64.out x hx
     ·simp only [List.mem_singleton] at hx;subst hx;unfold I64;omega
    ·exact ho4.len_cast rfl (by simp)
    ·exact Fr.new_ext (((Fr.of_ext HX.out).alloc _).trans hf4) (fun b hb=>HOWN.out.block_ge hb.symm)
   case measure=>simp [intOf];omega
  ·obtain rfl:k=n:=by omega
   have HH:=Lib.hid (show Ints wr (fun b=>w.heap.size≤b) (.slice A5 k c5) l' from Ints.of_own (HOWN.out.len_cast HL.out.symm rfl) H64.out (by rw [HL.out];omega) (fun b hb=>HOWN.out.block_ge hb))
   go_wp2_with fail
   go_ret
   exact ⟨A5,c5,l',by have:=HL.out;subst this;rfl,by rw [HL.out];exact HH.out,HL.out,HX.out⟩
structure GG where
 path:List Int
 kind:Int
 at_:Int
 code:Int
 fresh:Bool
instance:Inhabited GG:=⟨⟨[],0,0,0,false⟩⟩
structure GAt (w:World)(P:Nat→Prop)(x:GG)(A:Option Addr)(c:Nat):Prop where
 path:Ints w P (.slice A x.path.length c) x.path
 short:x.path.length≤256
 kind:I64 x.kind
 at_:I64 x.at_
 code:I64 x.code
def gcells (x:GG)(A:Option Addr)(c:Nat):List Value:=[.slice A x.path.length c,.int .i64 x.kind,.int .i64 x.at_,.int .i64 x.code,.bool x.fresh]
def RGg (w:World)(P:Nat→Prop)(x:GG)(cs:List Value):Prop:=∃ A c,cs=gcells x A c∧GAt w P x A c
section
variable {w w':World}{P Q:Nat→Prop}
theorem GAt.carry {x:GG}{A:Option Addr}{c:Nat}(h:GAt w P x A c)(hk:Keeps P w w')(hPQ:∀ b,b<w.heap.size→P b→Q b):GAt w' Q x A c:=⟨h.path.carry hk hPQ,h.short,h.kind,h.at_,h.code⟩
theorem elemG:Elem 5 RGg:=⟨fun _ _ _ _ h=>by obtain ⟨A,c,rfl,_⟩:=h;rfl,fun _ _ _ _ _ _ h hk hPQ=>by obtain ⟨A,c,e,h⟩:=h;exact ⟨A,c,e,h.carry hk hPQ⟩⟩
end
def Gvs (w:World)(P:Nat→Prop)(v:Value)(L:List GG):Prop:=Lst w P 5 (RGg w P) v L
section
variable {w w':World}{P Q:Nat→Prop}
theorem Gvs.carry {v:Value}{L:List GG}(h:Gvs w P v L)(hk:Keeps P w w')(hPQ:∀ b,b<w.heap.size→P b→Q b):Gvs w' Q v L:=Lst.carry h (by omega) hk hPQ (fun x _ cs hx=>elemG.carry _ _ _ _ _ _ hx hk hPQ)
theorem Gvs.ext {v:Value}{L:List GG}(h:Gvs w P v L)(hx:Ext w w'):Gvs w' P v L:=h.carry (Keeps.of_ext hx) (fun _ _ h=>h)
theorem Gvs.get {A:Option Addr}{n c:Nat}{L:List GG}(h:Gvs w P (.slice A n c) L){i:Nat}(hi:i<L.length):∃ b off A' d,A=some ⟨b,off,none⟩∧P b∧GAt w P (L.getD i default) A' d∧(∀ j u,(gcells (L.getD i default) A' d)[j]?=some u→w.cell? ⟨b,off+i*5+j,none⟩=some u):=by
 obtain ⟨b,off,c',cs,e,hb,_,_,⟨A',d,rfl,hv⟩,hc⟩:=Lst.at_ (elemG.len w P) h default hi
 injection e with e _ _
 exact ⟨b,off,A',d,e,hb,hv,hc⟩
end
theorem Tryz.info43:(Tryz.prog.info? 43).map (fun i=>(i.zero,i.size,i.bytes))=some (some (.agg #[.slice none 0 0,.int .i64 0,.int .i64 0,.int .i64 0,.bool false]),5,56):=by kernel_rfl
def RetSome (most:Nat)(w:World)(e:Ending)(w':World):Prop:=∃ A c gs,e=.returned (.slice A gs.length c)∧Gvs w' (fun b=>b<w'.heap.size) (.slice A gs.length c) gs∧gs.length≤most∧Ext w w'
def SomeInv (most:Nat)(W:World)(v i:Value)(wr:World):Prop :=
 ∃ (k:Nat) (gs:List GG) (xs:List Value),k≤most∧i=.int .i64 k∧gs.length=k∧wr.ownsRow W.heap.size 43 5 v k xs∧RL (RGg wr (fun b=>b<wr.heap.size∧some b ≠ v.ownBlock)) gs xs∧Ext W wr
theorem some_step {W wr w1 w4:World}{v v':Value}{gs:List GG}{xs:List Value}{x:GG}{A:Option Addr}{c:Nat}(_:wr.ownsRow W.heap.size 43 5 v gs.length xs)(hr:RL (RGg wr (fun b=>b<wr.heap.size∧some b ≠ v.ownBlock)) gs xs)(h1:Ext wr w1)(hg:GAt w1 (fun b=>some b ≠ v.ownBlock) x A c)
  (hf:Fr (fun k=>some k=v.ownBlock) w1 w4)(hown:v'.ownBlock=v.ownBlock∨∃ b,v'.ownBlock=some b∧w1.heap.size≤b):RL (RGg w4 (fun b=>b<w4.heap.size∧some b ≠ v'.ownBlock)) (gs ++ [x]) (xs ++ gcells x A c):=by
 have hs1:=h1.size
 have hs4:=hf.size
 have hne:∀ b,b<w1.heap.size→some b ≠ v.ownBlock→some b ≠ v'.ownBlock:=by
  intro b hb h
  rcases hown with e | ⟨b',e,h'⟩
  ·rw [e];exact h
  ·rw [e];intro e';injection e' with e';omega
 refine (hr.move elemG (fun b hb h=>(hf.block b (by omega) (fun e=>h.2 e)).trans (h1.block b hb)) (fun b hb h=>⟨by omega,hne b (by omega) h.2⟩)).append (RL.one ⟨A,c,rfl,hg.carry (fun b hb h=>hf.block b hb (fun e=>h e)) (fun b hb h=>⟨by omega,hne b hb h⟩)⟩)
set_option maxRecDepth 100000 in
set_option maxHeartbeats 4000000 in
theorem some_any (t:List GN)(l:List Int)(most:Nat)(P Q:Nat→Prop)(vn vl:Value)(w:World)(hg:GenOK t)(hlen:t.length≤16)(hmost:most≤1000)(hP:∀ b,P b→b<w.heap.size)(hQ:∀ b,Q b→b<w.heap.size)(ht:Nds w P vn t)(hl:Ints w Q vl l) :
  Calls Tryz.prog 11 #[.agg #[vn],vl,.int .i64 most] w (RetSome most w):=by
 have HT:=Lib.hid ht
 have HL:=Lib.hid hl
 have HG:=Lib.hid hg
 have HP:=Lib.hid hP
 have HQ:=Lib.hid hQ
 obtain ⟨An,cn,en,hn1,hn2⟩:=ht.form
 subst en
 obtain ⟨Al,cl,el,hl1,hl2⟩:=hl.form
 subst el
 obtain ⟨i0,hi,hz0,hz1,hz2⟩:=info_parts Tryz.info43
 have HI:=Lib.hid hi
 clear ht hl hg hP hQ hi
 go_enter Tryz.func11,Tryz.ntmps11
 go_wp2_with fail
 have HE:=Lib.hid ((Ext.refl w).alloc' (.cells #[.slice An t.length cn] 25))
 have HB:=Lib.hid (Blk.new w 25 #[.slice An t.length cn])
 generalize w.alloc (.cells #[.slice An t.length cn] 25)=W at *
 have hsW:=HE.out.size
 go_loopw [7,8] (fun v i wr=>SomeInv most W v i wr) (fun _ i _=>most - (intOf i).toNat)
 case atStart=>exact ⟨0,[],[],Nat.zero_le _,rfl,rfl,own_none _ _ _ _,by simp [RL],Ext.refl _⟩
 case round =>
  obtain ⟨k,gs,xs,hk,rfl,hgl,hown,hr,hx⟩:=hrel
  obtain ⟨A7,c7,e7,-,-,-⟩:=Sl.of_own hown
  subst e7
  have HOWN:=Lib.hid hown
  have HR:=Lib.hid hr
  have HX:=Lib.hid hx
  have HGL:=Lib.hid hgl
  have hsz:=hx.size
  have HDONE:=Lib.hid (show RetSome most w (.returned (.slice A7 k c7)) wr from ⟨A7,c7,gs,by rw [hgl],by rw [hgl];exact Lst.of_own (hown.len_cast hgl.symm rfl) (hr.move elemG (fun _ _ _=>rfl) (fun _ _ h=>h.1)) (by omega) (fun b hb=>hown.block_lt hb),by omega,HE.out.trans' hx⟩)
  clear hown hr hx hgl
  by_cases h1:3*k+2<l.length
  ·have d1:decide (3*(k:Int)+2<(l.length:Int))=true:=decide_eq_true (by omega)
   by_cases h2:k<most
   ·have d2:decide ((k:Int)<(most:Int))=true:=decide_eq_true (by omega)
    clear HDONE
    obtain ⟨bl,ol,rfl,-,i64a,ga⟩:=(HL.out.ext (HE.out.trans' HX.out)).get (i:=3*k) (by omega)
    obtain ⟨bl',ol',e',-,i64b,gb⟩:=(HL.out.ext (HE.out.trans' HX.out)).get (i:=3*k+1) (by omega)
    injection e' with e'
    injection e' with e1 e2
    subst e1 e2
    obtain ⟨bl',ol',e',-,i64c,gc⟩:=(HL.out.ext (HE.out.trans' HX.out)).get (i:=3*k+2) (by omega)
    injection e' with e'
    injection e' with e1 e2
    subst e1 e2
    generalize l.getD (3*k) 0=xa at *
    generalize l.getD (3*k+1) 0=xb at *
    generalize l.getD (3*k+2) 0=xc at *
    go_upto_region 6 with (go_at_call 9;refine (around_any xa 1048576 _ i64a (by omega) (by omega)).mono ?_;rintro e w' ⟨rfl,rfl⟩)
    have hna:=around_pos (n:=xa) (m:=1048576) (by omega)
    generalize around xa 1048576=n at *
    have lbl:=lt_of_cell ga
    have hw0:IntKind.i64.wrap (3*(k:Int))=3*(k:Int):=IntWalk.i64_in _ (by omega)
    have hw1:IntKind.i64.wrap (3*(k:Int)+1)=3*(k:Int)+1:=IntWalk.i64_in _ (by omega)
    have hw2:IntKind.i64.wrap (3*(k:Int)+2)=3*(k:Int)+2:=IntWalk.i64_in _ (by omega)
    have q0:(0:Int)≤3*(k:Int):=by omega
    have q1:3*(k:Int)<(l.length:Int):=by omega
    have q2:(0:Int)≤3*(k:Int)+1:=by omega
    have q3:3*(k:Int)+1<(l.length:Int):=by omega
    have q4:(0:Int)≤3*(k:Int)+2:=by omega
    have q5:3*(k:Int)+2<(l.length:Int):=by omega
    have HRAW:=Lib.hid (show Calls Tryz.prog 45 #[.slice (some ⟨wr.heap.size,0,none⟩) 3 3,.int .i64 8] ((wr.alloc (.cells #[.int .i64 xa,.int .i64 xb,.int .i64 xc] 3)).drew) (RetRaw 8 ((wr.alloc (.cells #[.int .i64 xa,.int .i64 xb,.int .i64 xc] 3)).drew)) from
     raw_any [xa,xb,xc] 8 (fun _=>True) _ _ (Ints.ext (w:=wr.alloc (.cells #[.int .i64 xa,.int .i64 xb,.int .i64 xc] 3)) ⟨some ⟨wr.heap.size,0,none⟩,3,rfl,by simp,by simp,by
      intro x hx
      simp only [List.mem_cons,List.not_mem_nil,or_false] at hx
      rcases hx with rfl | rfl | rfl <;> assumption,Sl.new wr _ _ _ _ rfl⟩ (Ext.refl _).drew') (by omega))
    rw [show 3*k=(3*(k:Int)).toNat by omega] at ga
    rw [show 3*k+1=(3*(k:Int)+1).toNat by omega] at gb
    rw [show 3*k+2=(3*(k:Int)+2).toNat by omega] at gc
    go_region_held3 (fun w'=>w'.cell? ⟨bl,ol+(3*(k:Int)).toNat,none⟩=some (.int .i64 xa)∧w'.cell? ⟨bl,ol+(3*(k:Int)+1).toNat,none⟩=some (.int .i64 xb)∧w'.cell? ⟨bl,ol+(3*(k:Int)+2).toNat,none⟩=some (.int .i64 xc))
     (first
      | (go_split_ands
         with_reducible exact ⟨cell_ext hx3 ‹_›,cell_ext hx3 ‹_›,cell_ext hx3 ‹_›⟩)
      | go_keep)
     (first
      | (go_at_call 45;refine HRAW.out.mono ?_;rintro e w3 ⟨A3,c3,raw,rfl,hraw,hrl,hx3⟩;have HRL:=Lib.hid hrl;clear hrl))
    clear hw0 hw1 hw2 q0 q1 q2 q3 q4 q5 HRAW
    have HX3:=Lib.hid (show Ext wr w3 from ((Ext.refl wr).alloc' _).drew'.trans' hx3)
    have hs3:wr.heap.size+1≤w3.heap.size:=by have:=hx3.size;simp at this;exact this
    have HOL:=Lib.hid (show ∀ b,(Value.slice A7 k c7).ownBlock=some b→W.heap.size≤b∧b<wr.heap.size from fun b hb=>⟨HOWN.out.block_ge hb,HOWN.out.block_lt hb⟩)
    have HRW:=Lib.hid (hraw.carry (Q:=fun b=>some b ≠ (Value.slice A7 k c7).ownBlock) (fun _ _ _=>rfl) (fun b hb h e=>by have:=(HOL.out b e.symm).2;simp at h;omega))
    have hcap:=hraw.form
    have HT3:=Lib.hid (HT.out.carry (Q:=fun b=>some b ≠ (Value.slice A7 k c7).ownBlock) (Keeps.of_ext (HE.out.trans' (HX.out.trans' HX3.out))) (fun b hb h e=>by have:=(HOL.out b e.symm).1;have:=HP.out b h;omega))
    have b3:=(HB.out.ext (HX.out.trans' HX3.out)).cell' (u:=.slice An t.length cn) 0 rfl
    clear hraw hx3 ga gb gc hcap
    have HFT:=Lib.hid (fit_any t raw _ _ _ w3 HG.out.good hlen HG.out.few HT3.out HRW.out)
    go_upto_region 8 with (go_at_call 46;refine HFT.out.mono ?_;rintro e w4 ⟨vf,pf,nf,rfl,hpf,hpl,hx4⟩)
    obtain ⟨Af,cf,ef,hpf1,hpf2⟩:=hpf.form
    subst ef
    have HX4:=Lib.hid (HX3.out.trans' hx4)
    have HPF:=Lib.hid (hpf.carry (Q:=fun b=>some b ≠ (Value.slice A7 k c7).ownBlock) (fun _ _ _=>rfl) (fun b hb h=>by
     rcases h with h | h
     ·exact h
     ·intro e;have:=(HOL.out b e.symm).2;omega))
    have HRW4:=Lib.hid (HRW.out.ext hx4)
    clear hpf hx4 b3 HFT
    go_cut [64] from 14 to 87 (fun s wx=>(∃ bb,s=.bool bb)∧w4=wx)
    case first =>
     by_cases he:nf=0
     ·have e1:(nf == 0)=true:=beq_iff_eq.2 he
      go_wp2_with fail
      go_meet
      exact ⟨⟨_,rfl⟩,rfl⟩
     ·have e1:(nf == 0)=false:=beq_eq_false_iff_ne.2 he
      go_wp2_with fail
      go_meet
      exact ⟨⟨_,rfl⟩,rfl⟩
    case rest =>
     obtain ⟨⟨bb,rfl⟩,rfl⟩:=hcut
     go_upto_if 64 with fail
     go_cut [11] from 14 to 87 (fun s wx=>(∃ A c p,s=.slice A p.length c∧Ints w4 (fun b=>some b ≠ (Value.slice A7 k c7).ownBlock) (.slice A p.length c) p∧p.length≤256)∧w4=wx)
     case first =>
      cases bb
      ·go_wp2_with fail
       go_meet
       exact ⟨⟨_,_,_,rfl,HPF.out,hpl⟩,rfl⟩
      ·go_wp2_with fail
       go_meet
       exact ⟨⟨_,_,_,rfl,HRW4.out,by rw [HRL.out];omega⟩,rfl⟩
     case rest =>
      obtain ⟨⟨Ap,cp,p,rfl,hp,hpl2⟩,rfl⟩:=hcut
      have HP2:=Lib.hid hp
      clear hp
      have hs4:=HX4.out.size
      generalize hfb:(n % 3 == 0)=fb at *
      have HFB:=Lib.hid hfb
      by_cases s0:n / 3 % 4=0
      ·have t0:(n / 3 % 4 == 0)=true:=beq_iff_eq.2 s0
       have HSL:=Lib.hid (show Sl ((w4.alloc (.cells #[.slice Ap p.length cp,.int .i64 1,.int .i64 (n % 2),.int .i64 0,.bool fb] 43)).alloc (.cells #[.slice Ap p.length cp,.int .i64 1,.int .i64 (n % 2),.int .i64 0,.bool fb] 43)) (fun _=>True) 5 (some ⟨w4.heap.size+1,0,none⟩) 1 [.slice Ap p.length cp,.int .i64 1,.int .i64 (n % 2),.int .i64 0,.bool fb] from by
        have h:=Sl.new (w4.alloc (.cells #[.slice Ap p.length cp,.int .i64 1,.int .i64 (n % 2),.int .i64 0,.bool fb] 43)) [.slice Ap p.length cp,.int .i64 1,.int .i64 (n % 2),.int .i64 0,.bool fb] 43 1 5 rfl
        rw [World.size_alloc] at h
        exact h)
       go_wp2_with (at_builtin;go_must (refine wpList_append_sl _ rfl (.tmp 84) (.tmp 86) 36 (by rfl) W.heap.size 43 i0 _ 5 56 Tryz.underlying36 HI.out hz0 hz1 hz2 rfl (by omega) (.slice A7 k c7) k xs rfl (((HOWN.out.ext_ HX4.out).alloc _).alloc _) (fun _=>True) (some ⟨w4.heap.size+1,0,none⟩) 1 1 [.slice Ap p.length cp,.int .i64 1,.int .i64 (n % 2),.int .i64 0,.bool fb] rfl HSL.out (by simp [Value.oneCell']) (by omega) (by omega) (by simp;omega) ?_);intro v9 w9 ho9 hf9 hb9)
       go_roundw
       case rel =>
        have hE5:Ext wr ((w4.alloc (.cells #[.slice Ap p.length cp,.int .i64 1,.int .i64 (n % 2),.int .i64 0,.bool fb] 43)).alloc (.cells #[.slice Ap p.length cp,.int .i64 1,.int .i64 (n % 2),.int .i64 0,.bool fb] 43)):=(HX4.out.alloc' _).alloc' _
        have hfr:Fr (fun k'=>some k'=(Value.slice A7 k c7).ownBlock) wr w9:=(Fr.of_ext hE5).trans hf9
        refine ⟨k+1,gs ++ [⟨p,1,(n % 2),0,fb⟩],xs ++ gcells ⟨p,1,(n % 2),0,fb⟩ Ap cp,by omega,by go_num,by rw [List.length_append,HGL.out];rfl,ho9,?_,Fr.new_ext ((Fr.of_ext HX.out).trans hfr) (fun b hb=>(HOL.out b hb.symm).1)⟩
        refine some_step (W:=W) (HOWN.out.len_cast HGL.out.symm rfl) HR.out hE5 ⟨HP2.out.ext (((Ext.refl w4).alloc' _).alloc' _),hpl2,show I64 1 by unfold I64;omega,show I64 (n % 2) by unfold I64;omega,show I64 0 by unfold I64;omega⟩ hf9 ?_
        rcases hb9 with h | h
        ·exact .inl h
        ·exact .inr ⟨_,h,by simp⟩
       case measure=>simp [intOf];omega
      ·have t0:(n / 3 % 4 == 0)=false:=beq_eq_false_iff_ne.2 s0
       by_cases s1:n / 3 % 4=1
       ·have t1:(n / 3 % 4 == 1)=true:=beq_iff_eq.2 s1
        have HSL:=Lib.hid (show Sl ((w4.alloc (.cells #[.slice Ap p.length cp,.int .i64 2,.int .i64 0,.int .i64 15,.bool fb] 43)).alloc (.cells #[.slice Ap p.length cp,.int .i64 2,.int .i64 0,.int .i64 15,.bool fb] 43)) (fun _=>True) 5 (some ⟨w4.heap.size+1,0,none⟩) 1 [.slice Ap p.length cp,.int .i64 2,.int .i64 0,.int .i64 15,.bool fb] from by
         have h:=Sl.new (w4.alloc (.cells #[.slice Ap p.length cp,.int .i64 2,.int .i64 0,.int .i64 15,.bool fb] 43)) [.slice Ap p.length cp,.int .i64 2,.int .i64 0,.int .i64 15,.bool fb] 43 1 5 rfl
         rw [World.size_alloc] at h
         exact h)
        go_wp2_with (at_builtin;go_must (refine wpList_append_sl _ rfl (.tmp 84) (.tmp 86) 36 (by rfl) W.heap.size 43 i0 _ 5 56 Tryz.underlying36 HI.out hz0 hz1 hz2 rfl (by omega) (.slice A7 k c7) k xs rfl (((HOWN.out.ext_ HX4.out).alloc _).alloc _) (fun _=>True) (some ⟨w4.heap.size+1,0,none⟩) 1 1 [.slice Ap p.length cp,.int .i64 2,.int .i64 0,.int .i64 15,.bool fb] rfl HSL.out (by simp [Value.oneCell']) (by omega) (by omega) (by simp;omega) ?_);intro v9 w9 ho9 hf9 hb9)
        go_roundw
        case rel =>
         have hE5:Ext wr ((w4.alloc (.cells #[.slice Ap p.length cp,.int .i64 2,.int .i64 0,.int .i64 15,.bool fb] 43)).alloc (.cells #[.slice Ap p.length cp,.int .i64 2,.int .i64 0,.int .i64 15,.bool fb] 43)):=(HX4.out.alloc' _).alloc' _
         have hfr:Fr (fun k'=>some k'=(Value.slice A7 k c7).ownBlock) wr w9:=(Fr.of_ext hE5).trans hf9
         refine ⟨k+1,gs ++ [⟨p,2,0,15,fb⟩],xs ++ gcells ⟨p,2,0,15,fb⟩ Ap cp,by omega,by go_num,by rw [List.length_append,HGL.out];rfl,ho9,?_,Fr.new_ext ((Fr.of_ext HX.out).trans hfr) (fun b hb=>(HOL.out b hb.symm).1)⟩
         refine some_step (W:=W) (HOWN.out.len_cast HGL.out.symm rfl) HR.out hE5 ⟨HP2.out.ext (((Ext.refl w4).alloc' _).alloc' _),hpl2,show I64 2 by unfold I64;omega,show I64 0 by unfold I64;omega,show I64 15 by unfold I64;omega⟩ hf9 ?_
         rcases hb9 with h | h
         ·exact .inl h
         ·exact .inr ⟨_,h,by simp⟩
        case measure=>simp [intOf];omega
       ·have t1:(n / 3 % 4 == 1)=false:=beq_eq_false_iff_ne.2 s1
        have HSL:=Lib.hid (show Sl ((w4.alloc (.cells #[.slice Ap p.length cp,.int .i64 0,.int .i64 0,.int .i64 0,.bool fb] 43)).alloc (.cells #[.slice Ap p.length cp,.int .i64 0,.int .i64 0,.int .i64 0,.bool fb] 43)) (fun _=>True) 5 (some ⟨w4.heap.size+1,0,none⟩) 1 [.slice Ap p.length cp,.int .i64 0,.int .i64 0,.int .i64 0,.bool fb] from by
         have h:=Sl.new (w4.alloc (.cells #[.slice Ap p.length cp,.int .i64 0,.int .i64 0,.int .i64 0,.bool fb] 43)) [.slice Ap p.length cp,.int .i64 0,.int .i64 0,.int .i64 0,.bool fb] 43 1 5 rfl
         rw [World.size_alloc] at h
         exact h)
        go_wp2_with (at_builtin;go_must (refine wpList_append_sl _ rfl (.tmp 84) (.tmp 86) 36 (by rfl) W.heap.size 43 i0 _ 5 56 Tryz.underlying36 HI.out hz0 hz1 hz2 rfl (by omega) (.slice A7 k c7) k xs rfl (((HOWN.out.ext_ HX4.out).alloc _).alloc _) (fun _=>True) (some ⟨w4.heap.size+1,0,none⟩) 1 1 [.slice Ap p.length cp,.int .i64 0,.int .i64 0,.int .i64 0,.bool fb] rfl HSL.out (by simp [Value.oneCell']) (by omega) (by omega) (by simp;omega) ?_);intro v9 w9 ho9 hf9 hb9)
        go_roundw
        case rel =>
         have hE5:Ext wr ((w4.alloc (.cells #[.slice Ap p.length cp,.int .i64 0,.int .i64 0,.int .i64 0,.bool fb] 43)).alloc (.cells #[.slice Ap p.length cp,.int .i64 0,.int .i64 0,.int .i64 0,.bool fb] 43)):=(HX4.out.alloc' _).alloc' _
         have hfr:Fr (fun k'=>some k'=(Value.slice A7 k c7).ownBlock) wr w9:=(Fr.of_ext hE5).trans hf9
         refine ⟨k+1,gs ++ [⟨p,0,0,0,fb⟩],xs ++ gcells ⟨p,0,0,0,fb⟩ Ap cp,by omega,by go_num,by rw [List.length_append,HGL.out];rfl,ho9,?_,Fr.new_ext ((Fr.of_ext HX.out).trans hfr) (fun b hb=>(HOL.out b hb.symm).1)⟩
         refine some_step (W:=W) (HOWN.out.len_cast HGL.out.symm rfl) HR.out hE5 ⟨HP2.out.ext (((Ext.refl w4).alloc' _).alloc' _),hpl2,show I64 0 by unfold I64;omega,show I64 0 by unfold I64;omega,show I64 0 by unfold I64;omega⟩ hf9 ?_
         rcases hb9 with h | h
         ·exact .inl h
         ·exact .inr ⟨_,h,by simp⟩
        case measure=>simp [intOf];omega
   ·have d2:decide ((k:Int)<(most:Int))=false:=decide_eq_false (by omega)
    go_wp2_with fail
    go_ret
    exact HDONE.out
  ·have d1:decide (3*(k:Int)+2<(l.length:Int))=false:=decide_eq_false (by omega)
   go_wp2_with fail
   go_ret
   exact HDONE.out
end Go.Proofs.YtkoeecdjijfjnaaGreat
