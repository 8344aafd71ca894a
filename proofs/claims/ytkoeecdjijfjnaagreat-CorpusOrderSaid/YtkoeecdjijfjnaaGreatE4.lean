/- The contract of the program's Sets.union. Conditions: none. Before it: The contract of the program's Sets.Of, out of that of find. Conditions: none. -/
import Derived.Test.YtkoeecdjijfjnaaGreatE2
namespace Go.Proofs.YtkoeecdjijfjnaaGreat
open Go.RowKit
structure SA where
 s:Nat
 k:Nat
 l:Nat
 m:Nat
 X:Nat→Prop
def SA.M (g:SA):Nat→Prop:=fun b=>b=g.k∨b=g.l∨b=g.m
def SA.Q (g:SA):Nat→Prop:=fun b=>¬ g.M b∧¬ g.X b
structure SetsAt (t:List GN)(vn:Value)(g:SA)(kn:List Bool)(ls:List Value)(ms:List Bool)(w:World):Prop where
 hk:g.s ≠ g.k
 hl:g.s ≠ g.l
 hm:g.s ≠ g.m
 kl:g.k ≠ g.l
 km:g.k ≠ g.m
 lm:g.l ≠ g.m
 klen:kn.length=t.length
 llen:ls.length=t.length
 mlen:ms.length=t.length
 box:Blk w g.s 198 #[vn,.slice (some ⟨g.k,0,none⟩) t.length t.length,.slice (some ⟨g.l,0,none⟩) t.length t.length,.slice (some ⟨g.m,0,none⟩) t.length t.length]
 known:Blk w g.k 4 (kn.map Value.bool).toArray
 lists:Blk w g.l 83 ls.toArray
 many:Blk w g.m 4 (ms.map Value.bool).toArray
 xlt:∀ b,g.X b→b<w.heap.size
 nodes:Nds w g.Q vn t
 sl:∀ v ∈ ls,∃ A n c,v=.slice A n c
 fine:∀ j,j<t.length→kn.getD j false=true→Vals w g.Q (ls.getD j default) ((listsR t).getD j default).vals∧ms.getD j false=((listsR t).getD j default).many
def SetsOK (t:List GN)(vn:Value)(g:SA)(w:World):Prop:=∃ kn ls ms,SetsAt t vn g kn ls ms w
def RetSet (t:List GN)(vn:Value)(g:SA)(r:GL)(w:World)(e:Ending)(w':World):Prop :=
 ∃ A c,e=.returned (.tuple #[.slice A r.vals.length c,.bool (!r.many)])∧Vals w' g.Q (.slice A r.vals.length c) r.vals∧Fr g.M w w'∧SetsOK t vn g w'
def FindSaid (t:List GN)(vn:Value)(f:Nat):Prop:=∀ (g:SA)(i:Nat)(w:World),i<f→GoodTo t (i+1)→SetsOK t vn g w→Calls Tryz.prog 181 #[.pointer (some ⟨g.s,0,none⟩),.int .i64 i] w (RetSet t vn g ((listsR t).getD i default) w)
def OfSaid (t:List GN)(vn:Value)(f:Nat):Prop:=∀ (g:SA)(i:Nat)(w:World),i<f→GoodTo t (i+1)→SetsOK t vn g w→Calls Tryz.prog 137 #[.pointer (some ⟨g.s,0,none⟩),.int .i64 i] w (RetSet t vn g ((listsR t).getD i default) w)
section
variable {t:List GN}{vn:Value}{g:SA}{kn:List Bool}{ls:List Value}{ms:List Bool}{w w':World}
theorem SetsAt.ext (h:SetsAt t vn g kn ls ms w)(hx:Ext w w'):SetsAt t vn g kn ls ms w' :=
 ⟨h.hk,h.hl,h.hm,h.kl,h.km,h.lm,h.klen,h.llen,h.mlen,h.box.ext hx,h.known.ext hx,h.lists.ext hx,h.many.ext hx,fun b hb=>Nat.lt_of_lt_of_le (h.xlt b hb) hx.size,h.nodes.ext hx,h.sl,fun j hj hk=>⟨(h.fine j hj hk).1.ext hx,(h.fine j hj hk).2⟩⟩
theorem SetsOK.ext (h:SetsOK t vn g w)(hx:Ext w w'):SetsOK t vn g w':=by
 obtain ⟨kn,ls,ms,h⟩:=h
 exact ⟨kn,ls,ms,h.ext hx⟩
theorem RetSet.pre {r:GL}{w0:World}(hx:Ext w0 w){e:Ending}(h:RetSet t vn g r w e w'):RetSet t vn g r w0 e w':=by
 obtain ⟨A,c,h1,h2,h3,h4⟩:=h
 exact ⟨A,c,h1,h2,(Fr.of_ext hx).trans h3,h4⟩
theorem SetsOK.more (h:SetsOK t vn g w){g':Nat}(hg:w.heap.size≤g'){w':World}(hx:Ext w w')(hl:g'<w'.heap.size):SetsOK t vn ⟨g.s,g.k,g.l,g.m,fun b=>g.X b∨b=g'⟩ w':=by
 obtain ⟨kn,ls,ms,h0⟩:=h
 have h:=h0.ext hx
 have hQ:∀ b,b<w.heap.size→g.Q b→(SA.mk g.s g.k g.l g.m (fun b=>g.X b∨b=g')).Q b:=fun b hb h=>⟨h.1,fun hx=>hx.elim h.2 (fun e=>by omega)⟩
 exact ⟨kn,ls,ms,h.hk,h.hl,h.hm,h.kl,h.km,h.lm,h.klen,h.llen,h.mlen,h.box,h.known,h.lists,h.many,fun b hb=>hb.elim (h.xlt b) (fun e=>by omega),h0.nodes.carry (Keeps.of_ext hx) hQ,h.sl,fun j hj hk=>⟨(h0.fine j hj hk).1.carry (Keeps.of_ext hx) hQ,(h.fine j hj hk).2⟩⟩
theorem SetsOK.less {X:Nat→Prop}(h:SetsOK t vn ⟨g.s,g.k,g.l,g.m,X⟩ w)(hX:∀ b,g.X b→X b):SetsOK t vn g w:=by
 obtain ⟨kn,ls,ms,h⟩:=h
 have hQ:∀ b,(SA.mk g.s g.k g.l g.m X).Q b→g.Q b:=fun b h=>⟨h.1,fun hx=>h.2 (hX b hx)⟩
 exact ⟨kn,ls,ms,h.hk,h.hl,h.hm,h.kl,h.km,h.lm,h.klen,h.llen,h.mlen,h.box,h.known,h.lists,h.many,fun b hb=>h.xlt b (hX b hb),h.nodes.keep (fun _ _ _=>rfl) hQ,h.sl,fun j hj hk=>⟨(h.fine j hj hk).1.keep (fun _ _ _=>rfl) hQ,(h.fine j hj hk).2⟩⟩
theorem SetsOK.setX (h:SetsOK t vn g w){p:Addr}(hp:g.X p.block)(hs:p.block ≠ g.s)(hM:¬ g.M p.block)(u:Value):SetsOK t vn g (w.setCell p u):=by
 obtain ⟨kn,ls,ms,h⟩:=h
 have hk:Keeps g.Q w (w.setCell p u):=Keeps.set (fun _ _ _=>rfl) u (fun h=>h.2 hp)
 exact ⟨kn,ls,ms,h.hk,h.hl,h.hm,h.kl,h.km,h.lm,h.klen,h.llen,h.mlen,h.box.far hs.symm u,h.known.far (fun e=>hM (.inl e.symm)) u,h.lists.far (fun e=>hM (.inr (.inl e.symm))) u,h.many.far (fun e=>hM (.inr (.inr e.symm))) u,fun b hb=>by simp only [World.setCell,Array.size_modify];exact h.xlt b hb,
  h.nodes.carry hk (fun _ _ h=>h),h.sl,fun j hj hkj=>⟨(h.fine j hj hkj).1.carry hk (fun _ _ h=>h),(h.fine j hj hkj).2⟩⟩
theorem SetsAt.learn (h:SetsAt t vn g kn ls ms w){i:Nat}(hi:i<t.length){A:Option Addr}{c:Nat}(hv:Vals w g.Q (.slice A ((listsR t).getD i default).vals.length c) ((listsR t).getD i default).vals) :
  SetsAt t vn g (kn.set i true) (ls.set i (.slice A ((listsR t).getD i default).vals.length c)) (ms.set i ((listsR t).getD i default).many)
   (((w.setCell ⟨g.k,i,none⟩ (.bool true)).setCell ⟨g.l,i,none⟩ (.slice A ((listsR t).getD i default).vals.length c)).setCell ⟨g.m,i,none⟩ (.bool ((listsR t).getD i default).many)):=by
 have hk0:Keeps g.Q w w:=fun _ _ _=>rfl
 have hkp:Keeps g.Q w (((w.setCell ⟨g.k,i,none⟩ (.bool true)).setCell ⟨g.l,i,none⟩ (.slice A ((listsR t).getD i default).vals.length c)).setCell ⟨g.m,i,none⟩ (.bool ((listsR t).getD i default).many)) :=
  ((hk0.set (p:=⟨g.k,i,none⟩) _ (fun h=>h.1 (.inl rfl))).set (p:=⟨g.l,i,none⟩) _ (fun h=>h.1 (.inr (.inl rfl)))).set (p:=⟨g.m,i,none⟩) _ (fun h=>h.1 (.inr (.inr rfl)))
 refine ⟨h.hk,h.hl,h.hm,h.kl,h.km,h.lm,by simp [h.klen],by simp [h.llen],by simp [h.mlen],((h.box.far (p:=⟨g.k,i,none⟩) h.hk _).far (p:=⟨g.l,i,none⟩) h.hl _).far (p:=⟨g.m,i,none⟩) h.hm _,?_,?_,?_,fun b hb=>by simp only [World.setCell,Array.size_modify];exact h.xlt b hb,h.nodes.carry hkp (fun _ _ h=>h),?_,?_⟩
 ·have h1:=((h.known.set_ i (.bool true)).far (p:=⟨g.l,i,none⟩) h.kl (.slice A ((listsR t).getD i default).vals.length c)).far (p:=⟨g.m,i,none⟩) h.km (.bool ((listsR t).getD i default).many)
  simp only [List.setIfInBounds_toArray] at h1
  rw [List.map_set]
  exact h1
 ·have h1:=((h.lists.far (p:=⟨g.k,i,none⟩) h.kl.symm (.bool true)).set_ i (.slice A ((listsR t).getD i default).vals.length c)).far (p:=⟨g.m,i,none⟩) h.lm (.bool ((listsR t).getD i default).many)
  simp only [List.setIfInBounds_toArray] at h1
  exact h1
 ·have h1:=((h.many.far (p:=⟨g.k,i,none⟩) h.km.symm (.bool true)).far (p:=⟨g.l,i,none⟩) h.lm.symm (.slice A ((listsR t).getD i default).vals.length c)).set_ i (.bool ((listsR t).getD i default).many)
  simp only [List.setIfInBounds_toArray] at h1
  rw [List.map_set]
  exact h1
 ·intro v hv'
  rcases List.mem_or_eq_of_mem_set hv' with hv' | rfl
  ·exact h.sl v hv'
  ·exact ⟨_,_,_,rfl⟩
 ·intro j hj hkj
  by_cases e:i=j
  ·subst e
   refine ⟨?_,?_⟩
   ·have e2:(ls.set i (.slice A ((listsR t).getD i default).vals.length c)).getD i default=.slice A ((listsR t).getD i default).vals.length c:=by simp [List.getD,h.llen,hi]
    rw [e2]
    exact hv.carry hkp (fun _ _ h=>h)
   ·simp [List.getD,h.mlen,hi]
  ·have e1:(kn.set i true).getD j false=kn.getD j false:=by simp [List.getD,e]
   have e2:(ls.set i (.slice A ((listsR t).getD i default).vals.length c)).getD j default=ls.getD j default:=by simp [List.getD,e]
   have e3:(ms.set i ((listsR t).getD i default).many).getD j false=ms.getD j false:=by simp [List.getD,e]
   rw [e1] at hkj
   rw [e2,e3]
   exact ⟨(h.fine j hj hkj).1.carry hkp (fun _ _ h=>h),(h.fine j hj hkj).2⟩
end
theorem cell_set1 {w:World}{p:Addr}{b off:Nat}{u x:Value}(hne:¬ b=p.block)(h:w.cell? ⟨b,off,none⟩=some u):(w.setCell p x).cell? ⟨b,off,none⟩=some u:=by
 rw [← h]
 exact World.cell?_of_block (w:=w) (Below.heap_setCell _ _ _ _ hne)
theorem cell_set1d {w:World}{p:Addr}{b off:Nat}{u x:Value}(hne:¬ b=p.block)(h:w.drew.cell? ⟨b,off,none⟩=some u):(w.setCell p x).drew.cell? ⟨b,off,none⟩=some u:=cell_set1 (w:=w) hne h
set_option maxRecDepth 100000 in
set_option maxHeartbeats 4000000 in
theorem of_step (t:List GN)(vn:Value)(f:Nat)(hF:FindSaid t vn f):OfSaid t vn f:=by
 intro g i w hif hg hs
 have HG:=Lib.hid hg
 have hit:i<t.length:=by have:=hg.1;omega
 have hi4:t.length≤4096:=hg.2.1
 obtain ⟨kn,ls,ms,h⟩:=hs
 have H:=Lib.hid h
 have b1:=h.box.cell' (u:=.slice (some ⟨g.k,0,none⟩) t.length t.length) 1 rfl
 have b2:=h.box.cell' (u:=.slice (some ⟨g.l,0,none⟩) t.length t.length) 2 rfl
 have b3:=h.box.cell' (u:=.slice (some ⟨g.m,0,none⟩) t.length t.length) 3 rfl
 have k0:=h.known.cell' (u:=.bool (kn.getD i false)) i (by simp [h.klen,hit])
 have hii:(i:Int)<(t.length:Int):=by omega
 have hi0:(0:Int)≤(i:Int):=by omega
 have HFI:=Lib.hid (h.fine i hit)
 have HLS:=Lib.hid (show w.cell? ⟨g.l,i,none⟩=some (ls.getD i default) from h.lists.cell' i (by simp [h.llen,hit]))
 have HMS:=Lib.hid (show w.cell? ⟨g.m,i,none⟩=some (.bool (ms.getD i false)) from h.many.cell' i (by simp [h.mlen,hit]))
 clear hg h
 generalize hkk:kn.getD i false=bk at *
 clear hkk
 cases bk
 ·go_enter Tryz.func137,Tryz.ntmps137
  go_wp2_with fail
  refine (hF g i w hif HG.out ⟨kn,ls,ms,H.out⟩).mono ?_
  rintro e w1 ⟨A,c,rfl,hv,hfr,kn1,ls1,ms1,h1⟩
  have HV:=Lib.hid hv
  have HFR:=Lib.hid hfr
  have H1:=Lib.hid h1
  clear b1 b2 b3 k0
  have b1:=h1.box.cell' (u:=.slice (some ⟨g.k,0,none⟩) t.length t.length) 1 rfl
  have b2:=h1.box.cell' (u:=.slice (some ⟨g.l,0,none⟩) t.length t.length) 2 rfl
  have b3:=h1.box.cell' (u:=.slice (some ⟨g.m,0,none⟩) t.length t.length) 3 rfl
  have k0:=h1.known.cell' (u:=.bool (kn1.getD i false)) i (by simp [h1.klen,hit])
  have l0:=h1.lists.cell' (u:=ls1.getD i default) i (by simp [h1.llen,hit])
  have m0:=h1.many.cell' (u:=.bool (ms1.getD i false)) i (by simp [h1.mlen,hit])
  have fk:=h1.known.frozen i
  have fl:=h1.lists.frozen i
  have fm:=h1.many.frozen i
  have n1:¬ g.s=g.k:=h1.hk
  have n2:¬ g.s=g.l:=h1.hl
  have n3:¬ g.s=g.m:=h1.hm
  have n4:¬ g.k=g.l:=h1.kl
  have n5:¬ g.k=g.m:=h1.km
  have n6:¬ g.l=g.m:=h1.lm
  have n7:¬ g.l=g.k:=fun e=>h1.kl e.symm
  have n8:¬ g.m=g.k:=fun e=>h1.km e.symm
  have n9:¬ g.m=g.l:=fun e=>h1.lm e.symm
  have HLN:=Lib.hid (H1.out.learn hit hv)
  clear hv hfr h1
  generalize kn1.getD i false=z1 at *
  generalize ls1.getD i default=z2 at *
  generalize ms1.getD i false=z3 at *
  generalize (listsR t).getD i default=r at *
  obtain ⟨vals,many⟩:=r
  go_upto_region 3 with fail
  go_region_held3 (fun w'=>w'.cell? ⟨g.s,1,none⟩=some (.slice (some ⟨g.k,0,none⟩) t.length t.length)∧w'.cell? ⟨g.s,2,none⟩=some (.slice (some ⟨g.l,0,none⟩) t.length t.length)∧w'.cell? ⟨g.s,3,none⟩=some (.slice (some ⟨g.m,0,none⟩) t.length t.length))
   (first
    | (go_split_ands
       with_reducible exact ⟨cell_set1d n1 ‹_›,cell_set1d n1 ‹_›,cell_set1d n1 ‹_›⟩)
    | (go_split_ands
       with_reducible exact ⟨cell_set1d n2 ‹_›,cell_set1d n2 ‹_›,cell_set1d n2 ‹_›⟩)
    | (go_split_ands
       with_reducible exact ⟨cell_set1d n3 ‹_›,cell_set1d n3 ‹_›,cell_set1d n3 ‹_›⟩)
    | go_keep)
   (first
    | fail)
  go_upto_region 4 with fail
  have HL2:=Lib.hid (HLN.out.ext (Ext.refl _).drew')
  have HF2:=Lib.hid (((((Fr.refl g.M w1).setCell (p:=⟨g.k,i,none⟩) (.inl (.inl rfl)) (.bool true)).setCell (p:=⟨g.l,i,none⟩) (.inl (.inr (.inl rfl))) (.slice A vals.length c)).setCell (p:=⟨g.m,i,none⟩) (.inl (.inr (.inr rfl))) (.bool many))).drew
  have HV2:=Lib.hid (show Vals ((((w1.setCell ⟨g.k,i,none⟩ (.bool true)).setCell ⟨g.l,i,none⟩ (.slice A vals.length c)).setCell ⟨g.m,i,none⟩ (.bool many)).drew) g.Q (.slice A vals.length c) vals from
   (((HV.out.set (p:=⟨g.k,i,none⟩) _ (fun h=>h.1 (.inl rfl))).set (p:=⟨g.l,i,none⟩) _ (fun h=>h.1 (.inr (.inl rfl)))).set (p:=⟨g.m,i,none⟩) _ (fun h=>h.1 (.inr (.inr rfl)))).ext (Ext.refl _).drew')
  clear b1 b2 b3 k0 l0 m0 fk fl fm n1 n2 n3 n4 n5 n6 n7 n8 n9 HLN
  generalize hw2:(((w1.setCell ⟨g.k,i,none⟩ (.bool true)).setCell ⟨g.l,i,none⟩ (.slice A vals.length c)).setCell ⟨g.m,i,none⟩ (.bool many)).drew=w2 at *
  clear hw2
  have b2:=HL2.out.box.cell' (u:=.slice (some ⟨g.l,0,none⟩) t.length t.length) 2 rfl
  have b3:=HL2.out.box.cell' (u:=.slice (some ⟨g.m,0,none⟩) t.length t.length) 3 rfl
  have l0:=HL2.out.lists.cell' (u:=.slice A vals.length c) i (by have:=H1.out.llen;simp [this,hit])
  have m0:=HL2.out.many.cell' (u:=.bool many) i (by have:=H1.out.mlen;simp [this,hit])
  go_wp2_with fail
  go_quiet (fail)
  go_wp2_with fail
  go_ret2
  exact ⟨A,c,rfl,HV2.out.ext ((Ext.refl _).drewN' _),(HFR.out.trans HF2.out).drewN _,⟨_,_,_,HL2.out.ext ((Ext.refl _).drewN' _)⟩⟩
 ·obtain ⟨hv,hm⟩:=HFI.out rfl
  have l0:=HLS.out
  have m0:=HMS.out
  obtain ⟨A,c,ev,-,-⟩:=hv.form
  rw [ev] at l0 hv
  rw [hm] at m0
  have HV:=Lib.hid hv
  clear hv hm ev
  generalize (listsR t).getD i default=r at *
  obtain ⟨vals,many⟩:=r
  simp only at l0 m0
  go_enter Tryz.func137,Tryz.ntmps137
  go_wp2_with fail
  go_quiet (fail)
  go_wp2_with fail
  go_ret2
  exact ⟨A,c,rfl,HV.out.ext ((Ext.refl _).drewN' _),Fr.of_ext ((Ext.refl _).drewN' _),⟨kn,ls,ms,H.out.ext ((Ext.refl _).drewN' _)⟩⟩
def uniP (ls:List GL):List GV→List Int→GL
 | out,[]=>⟨out,false⟩
 | out,z :: zs=>if (ls.getD z.toNat default).many=true then ⟨[],true⟩
   else if 1024<(mergeV out (ls.getD z.toNat default).vals).length then ⟨[],true⟩ else uniP ls (mergeV out (ls.getD z.toNat default).vals) zs
theorem SetsOK.lt {t:List GN}{vn:Value}{g:SA}{w:World}(h:SetsOK t vn g w){b:Nat}(hb:g.M b):b<w.heap.size:=by
 obtain ⟨kn,ls,ms,h⟩:=h
 rcases hb with rfl | rfl | rfl
 ·exact h.known.lt
 ·exact h.lists.lt
 ·exact h.many.lt
theorem SetsOK.newQ {t:List GN}{vn:Value}{g:SA}{w:World}(h:SetsOK t vn g w){b:Nat}(hb:w.heap.size≤b):g.Q b :=
 ⟨fun hm=>by have:=h.lt hm;omega,fun hx=>by obtain ⟨kn,ls,ms,h⟩:=h;have:=h.xlt b hx;omega⟩
def UnionInv (t:List GN)(vn:Value)(g:SA)(ks:List Int)(w:World)(v i:Value)(wr:World):Prop :=
 ∃ (k:Nat) (out:List GV),k≤ks.length∧i=.int .i64 k∧Vals wr g.Q v out∧Inc out∧out.length≤1024∧Fr g.M w wr∧SetsOK t vn g wr∧uniP (listsR t) [] ks=uniP (listsR t) out (ks.drop k)
theorem RetSet.none_ {t:List GN}{vn:Value}{g:SA}{w w':World}(hf:Fr g.M w w')(hs:SetsOK t vn g w'):RetSet t vn g ⟨[],true⟩ w (.returned (.tuple #[.slice none 0 0,.bool false])) w' :=
 ⟨none,0,rfl,Vals.nil_any _ _ _ _ (by omega),hf,hs⟩
set_option maxRecDepth 100000 in
set_option maxHeartbeats 4000000 in
theorem union_any (t:List GN)(vn:Value)(g:SA)(f n:Nat)(hO:OfSaid t vn f)(ks:List Int)(vk:Value)(w:World)(hk:Ints w g.Q vk ks)(hks:∀ z ∈ ks,0≤z∧z<(n:Int))(hnf:n≤f)(hg:GoodTo t n)(hs:SetsOK t vn g w) :
  Calls Tryz.prog 202 #[.pointer (some ⟨g.s,0,none⟩),vk] w (RetSet t vn g (uniP (listsR t) [] ks) w):=by
 have HK:=Lib.hid hk
 have HKS:=Lib.hid hks
 have HG:=Lib.hid hg
 have HS:=Lib.hid hs
 obtain ⟨Ak,ck,ek,hk1,hk2⟩:=hk.form
 subst ek
 clear hk hks hg hs
 go_enter Tryz.func202,Tryz.ntmps202
 go_wp2_with fail
 go_loopw [6,13] (fun v i wr=>UnionInv t vn g ks w v i wr) (fun _ i _=>ks.length - (intOf i).toNat)
 case atStart=>exact ⟨0,[],Nat.zero_le _,rfl,Vals.nil_any _ _ _ _ (by omega),Inc.nil,by simp,Fr.refl _ _,HS.out,rfl⟩
 case round =>
  obtain ⟨k,out,hk,rfl,hv,hinc,hlen,hfr,hs,hu⟩:=hrel
  have HV:=Lib.hid hv
  have HINC:=Lib.hid hinc
  have HFR:=Lib.hid hfr
  have HSR:=Lib.hid hs
  have HU:=Lib.hid hu
  obtain ⟨A6,c6,e6,h61,h62⟩:=hv.form
  subst e6
  have HKR:=Lib.hid (HK.out.keep (Q:=g.Q) (Keeps.of_fr hfr (fun b h=>h.1)) (fun _ h=>h))
  clear hv hinc hfr hs hu
  by_cases hlt:k<ks.length
  ·obtain ⟨b1,o1,rfl,-,-,g1⟩:=HKR.out.get hlt
   have hz:=HKS.out _ (getD_mem (d:=0) hlt)
   have HD:=Lib.hid (HU.out.trans (by rw [drop_getD 0 hlt,uniP]))
   generalize ks.getD k 0=z at *
   obtain ⟨zn,rfl⟩:∃ zn:Nat,z=zn:=⟨z.toNat,by omega⟩
   have HLOK:=Lib.hid (lists_ok HG.out zn (by omega))
   have hgz:=HG.out.mono (j:=zn+1) (by omega)
   have HOZ:=Lib.hid (hO g zn wr (by omega) hgz HSR.out)
   simp only [Int.toNat_natCast] at HD
   clear hgz
   generalize (listsR t).getD zn default=r at *
   obtain ⟨vals,many⟩:=r
   go_wp2_with fail
   refine HOZ.out.mono ?_
   rintro e w1 ⟨A2,d2,rfl,hv2,hf2,hs2⟩
   have HV2:=Lib.hid hv2
   have HF2:=Lib.hid (HFR.out.trans hf2)
   have HS2:=Lib.hid hs2
   have HVO:=Lib.hid (HV.out.keep (Q:=g.Q) (Keeps.of_fr hf2 (fun b h=>h.1)) (fun _ h=>h))
   clear hv2 hf2 hs2 g1
   cases many
   ·have hfew:=HLOK.out.few
    simp only at hfew
    go_wp2_with fail
    refine (merged_any out vals (fun b=>g.Q b∧b<w1.heap.size) _ _ _ (HVO.out.imp (fun b hb h=>⟨h,hb⟩)) (HV2.out.imp (fun b hb h=>⟨h,hb⟩)) (by omega) (by omega) (fun b h=>h.2)).mono ?_
    rintro e w2 ⟨A3,d3,rfl,hv3,hx3⟩
    have HV3:=Lib.hid (hv3.imp (Q:=g.Q) (fun b hb h=>h.elim (fun h=>h.1) (fun h=>HS2.out.newQ h)))
    have HX3:=Lib.hid hx3
    have HI3:=Lib.hid (mergeV_inc out vals HINC.out HLOK.out.inc)
    clear hv3 hx3
    generalize mergeV out vals=mo at *
    have hmo:mo.length≤d3∧(mo.length≤17592186044416∧d3≤9223372036854775807):=HV3.out.le
    by_cases hbig:1024<mo.length
    ·have tb:decide (1024<(mo.length:Int))=true:=decide_eq_true (by omega)
     have HE:=Lib.hid (show uniP (listsR t) [] ks=⟨[],true⟩ from HD.out.trans (by simp [hbig]))
     clear hbig
     go_wp2_with fail
     go_ret2
     rw [HE.out]
     exact RetSet.none_ (HF2.out.trans (Fr.of_ext HX3.out)) (HS2.out.ext HX3.out)
    ·have tb:decide (1024<(mo.length:Int))=false:=decide_eq_false (by omega)
     have HE:=Lib.hid (show uniP (listsR t) [] ks=uniP (listsR t) mo (ks.drop (k+1)) from HD.out.trans (by simp [hbig]))
     have hb2:mo.length≤1024:=by omega
     clear hbig
     go_wp2_with fail
     go_roundw
     case rel=>exact ⟨k+1,mo,by omega,by go_num,HV3.out,HI3.out,by omega,HF2.out.trans (Fr.of_ext HX3.out),HS2.out.ext HX3.out,HE.out⟩
     case measure=>simp [intOf];omega
   ·have HE:=Lib.hid (show uniP (listsR t) [] ks=⟨[],true⟩ from HD.out.trans (by simp))
    go_wp2_with fail
    go_ret2
    rw [HE.out]
    exact RetSet.none_ HF2.out HS2.out
  ·have HE:=Lib.hid (show uniP (listsR t) [] ks=⟨out,false⟩ by rw [HU.out,drop_nil (by omega),uniP])
   go_wp2_with fail
   go_ret2
   rw [HE.out]
   exact ⟨A6,c6,rfl,HV.out,HFR.out,HSR.out⟩
end Go.Proofs.YtkoeecdjijfjnaaGreat
