/- Wire. Conditions: none. -/
import Derived.Test.YtfcplpeimcjhaaaGreatDoorVA
import Derived.Laws.BytesArg
namespace Go.Proofs.YtfcplpeimcjhaaaGreatDoor
def encU (n:Nat):List Int:=if n<128 then [(n:Int)] else ((n % 128+128:Nat):Int) :: encU (n / 128)
termination_by n
decreasing_by omega
def zig (n:Int):Nat:=if n<0 then (-(2*n+1)).toNat else (2*n).toNat
def zag (z:Nat):Int:=if z % 2=1 then -(z / 2:Nat) - 1 else (z / 2:Nat)
def encI (n:Int):List Int:=encU (zig n)
def encR (l:List Int):List Int:=encU l.length ++ l
def encIs (l:List Int):List Int:=encU l.length ++ l.flatMap encI
def encL {α:Type}(f:α→List Int)(l:List α):List Int:=encI l.length ++ l.flatMap f
def Byt (l:List Int):Prop:=∀ x ∈ l,0≤x∧x<256
abbrev Dec (α:Type):Type:=List Int→Option (α × List Int)
def decUg:List Int→Nat→Option (Nat × List Int)
  | [],_=>none
  | b :: l,i=>if (i=9∧1<b)∨(0<i∧b=0) then none else if b<128 then some (b.toNat,l) else (decUg l (i+1)).map fun x=>(b.toNat % 128+128*x.1,x.2)
def decU:Dec Nat:=fun l=>decUg l 0
def decI:Dec Int:=fun l=>(decU l).map fun x=>(zag x.1,x.2)
def decR:Dec (List Int):=fun l=>(decU l).bind fun x=>if x.2.length<x.1 then none else some (x.2.take x.1,x.2.drop x.1)
def decN {α:Type}(d:Dec α):Nat→Dec (List α)
  | 0,l=>some ([],l)
  | n+1,l=>(d l).bind fun x=>(decN d n x.2).map fun y=>(x.1 :: y.1,y.2)
def decIs:Dec (List Int):=fun l=>(decU l).bind fun x=>if x.2.length<x.1 then none else decN decI x.1 x.2
def decL {α:Type}(m:Nat)(d:Dec α):Dec (List α):=fun l=>(decI l).bind fun x=>if x.1<0∨m<x.1 then none else decN d x.1.toNat x.2
def Canon {α:Type}(d:Dec α)(f:α→List Int)(G:α→Prop):Prop:=∀ l x r,Byt l→d l=some (x,r)→l=f x ++ r∧G x
def Compl {α:Type}(d:Dec α)(f:α→List Int)(x:α):Prop:=∀ r,d (f x ++ r)=some (x,r)
theorem zig_zag (z:Nat):zig (zag z)=z:=by unfold zig zag;split <;> split <;> omega
theorem zag_zig (n:Int):zag (zig n)=n:=by unfold zig zag;split <;> split <;> omega
theorem zag_I (z:Nat)(h:z<18446744073709551616):-9223372036854775808≤zag z∧zag z≤9223372036854775807:=by unfold zag;split <;> omega
theorem zig_U (n:Int)(h:-9223372036854775808≤n∧n≤9223372036854775807):zig n<18446744073709551616:=by unfold zig;split <;> omega
theorem Byt.tail {b:Int}{l:List Int}(h:Byt (b :: l)):Byt l:=fun x hx=>h x (List.mem_cons_of_mem _ hx)
theorem Byt.drop {n:Nat}{l:List Int}(h:Byt l):Byt (l.drop n):=fun x hx=>h x (List.mem_of_mem_drop hx)
theorem Byt.app {l m:List Int}:Byt (l ++ m) ↔ Byt l∧Byt m:=by unfold Byt;simp only [List.mem_append];exact ⟨fun h=>⟨fun x hx=>h x (.inl hx),fun x hx=>h x (.inr hx)⟩,fun h x hx=>hx.elim (h.1 x) (h.2 x)⟩
theorem encU_small {n:Nat}(h:n<128):encU n=[(n:Int)]:=by rw [encU,if_pos h]
theorem encU_big {n:Nat}(h:¬ n<128):encU n=((n % 128+128:Nat):Int) :: encU (n / 128):=by rw [encU,if_neg h]
theorem pow128 (i:Nat):128 ^ (i+1)=128*128 ^ i:=by rw [Nat.pow_succ,Nat.mul_comm]
def room:Nat→Nat
  | 0=>2
  | k+1=>128*room k
theorem room_pos:∀ k,2≤room k
  | 0=>by simp [room]
  | k+1=>by have:=room_pos k;simp only [room];omega
theorem decUg_canon:∀ (l:List Int)(k:Nat)(n:Nat)(r:List Int),Byt l→k≤9→decUg l (9 - k)=some (n,r)→l=encU n ++ r∧n<room k∧(k<9→0<n)
  | [],k,n,r,_,_,h=>by simp [decUg] at h
  | b :: l,k,n,r,hb,hk,h=>by
    have h0:=hb b (List.mem_cons_self ..)
    rw [decUg] at h
    split at h
    · simp at h
    rename_i h1
    split at h
    · rename_i h2
      obtain ⟨rfl,rfl⟩:=Prod.mk.inj (Option.some.inj h)
      rw [encU_small (by omega)]
      refine ⟨by simp;omega,?_,?_⟩
      · rcases k with _ | k
        · simp only [room];omega
        · have:=room_pos k
          simp only [room];omega
      · intro hk9;omega
    · rename_i h2
      have hk0:k ≠ 0:=by omega
      obtain ⟨k,rfl⟩:=Nat.exists_eq_succ_of_ne_zero hk0
      rw [show 9 - (k+1)+1=9 - k by omega] at h
      cases h3:decUg l (9 - k) with
      | none=>rw [h3] at h;simp at h
      | some x =>
        obtain ⟨m,q⟩:=x
        rw [h3] at h
        obtain ⟨rfl,rfl⟩:=Prod.mk.inj (Option.some.inj h)
        obtain ⟨h4,h5,h6⟩:=decUg_canon l k m q hb.tail (by omega) h3
        have h7:=h6 (by omega)
        dsimp only
        rw [encU_big (by omega)]
        refine ⟨?_,by simp only [room];omega,fun _=>by omega⟩
        rw [show (b.toNat % 128+128*m) / 128=m by omega,show (b.toNat % 128+128*m) % 128=b.toNat % 128 by omega,h4]
        simp
        omega
theorem room9:room 9=18446744073709551616:=by decide
theorem decUg_compl:∀ (k n:Nat)(r:List Int),k≤9→n<room k→(k<9→0<n)→decUg (encU n ++ r) (9 - k)=some (n,r)
  | 0,n,r,_,h,h'=>by
    have:=h' (by omega)
    simp only [room] at h
    rw [encU_small (by omega),List.cons_append,decUg,if_neg (by omega),if_pos (by omega)]
    simp
  | k+1,n,r,hk,h,h'=>by
    by_cases h1:n<128
    · rw [encU_small h1,List.cons_append,decUg,if_neg (by omega),if_pos (by omega)]
      simp
    · rw [encU_big h1,List.cons_append,decUg,if_neg (by omega),if_neg (by omega),show 9 - (k+1)+1=9 - k by omega,decUg_compl k (n / 128) r (by omega) (by simp only [room] at h;omega) (by omega)]
      simp
      omega
theorem decU_canon {l:List Int}{n:Nat}{r:List Int}(hl:Byt l)(h:decU l=some (n,r)):l=encU n ++ r∧n<18446744073709551616:=by
  obtain ⟨h1,h2,-⟩:=decUg_canon l 9 n r hl (by omega) h
  rw [room9] at h2
  exact ⟨h1,h2⟩
theorem decU_compl {n:Nat}(h:n<18446744073709551616):Compl decU encU n:=fun r=>decUg_compl 9 n r (by omega) (by rw [room9];exact h) (by omega)
theorem decI_canon:Canon decI encI (fun n=>-9223372036854775808≤n∧n≤9223372036854775807):=by
  intro l x r hl h
  unfold decI at h
  cases h1:decU l with
  | none=>rw [h1] at h;simp at h
  | some y =>
    obtain ⟨z,q⟩:=y
    rw [h1] at h
    obtain ⟨rfl,rfl⟩:=Prod.mk.inj (Option.some.inj h)
    obtain ⟨h2,h3⟩:=decU_canon hl h1
    exact ⟨by unfold encI;rw [zig_zag];exact h2,zag_I z h3⟩
theorem decI_compl {n:Int}(h:-9223372036854775808≤n∧n≤9223372036854775807):Compl decI encI n:=fun r=>by
  unfold decI encI
  rw [decU_compl (zig_U n h) r]
  simp [zag_zig]
theorem decR_canon:Canon decR encR Byt:=by
  intro l x r hl h
  unfold decR at h
  cases h1:decU l with
  | none=>rw [h1] at h;simp at h
  | some y =>
    obtain ⟨z,q⟩:=y
    rw [h1] at h
    simp only [Option.bind_some] at h
    split at h
    · simp at h
    · obtain ⟨rfl,rfl⟩:=Prod.mk.inj (Option.some.inj h)
      obtain ⟨h2,h3⟩:=decU_canon hl h1
      rw [h2,Byt.app] at hl
      refine ⟨?_,fun x hx=>hl.2 x (List.mem_of_mem_take hx)⟩
      unfold encR
      rw [List.length_take,Nat.min_eq_left (by omega),List.append_assoc,List.take_append_drop]
      exact h2
theorem decR_compl {l:List Int}(h:l.length<18446744073709551616):Compl decR encR l:=fun r=>by
  unfold decR encR
  rw [List.append_assoc,decU_compl h]
  simp
theorem decN_canon {α:Type}{d:Dec α}{f:α→List Int}{G:α→Prop}(hd:Canon d f G):∀ n,Canon (decN d n) (fun l=>l.flatMap f) (fun l=>l.length=n∧∀ x ∈ l,G x)
  | 0,l,x,r,_,h=>by
    obtain ⟨rfl,rfl⟩:=Prod.mk.inj (Option.some.inj h)
    exact ⟨rfl,rfl,by simp⟩
  | n+1,l,x,r,hl,h=>by
    rw [decN] at h
    cases h1:d l with
    | none=>rw [h1] at h;simp at h
    | some y =>
      rw [h1] at h
      simp only [Option.bind_some] at h
      cases h2:decN d n y.2 with
      | none=>rw [h2] at h;simp at h
      | some z =>
        rw [h2] at h
        obtain ⟨rfl,rfl⟩:=Prod.mk.inj (Option.some.inj h)
        obtain ⟨h3,h4⟩:=hd l y.1 y.2 hl h1
        rw [h3,Byt.app] at hl
        obtain ⟨h5,h6,h7⟩:=decN_canon hd n y.2 z.1 z.2 hl.2 h2
        refine ⟨?_,by simp [h6],fun u hu=>?_⟩
        · show l=List.flatMap f (y.1 :: z.1) ++ z.2
          rw [List.flatMap_cons,List.append_assoc,← h5];exact h3
        · rcases List.mem_cons.1 hu with rfl | hu
          · exact h4
          · exact h7 u hu
theorem decN_compl {α:Type}{d:Dec α}{f:α→List Int}:∀ (l:List α),(∀ x ∈ l,Compl d f x)→∀ r,decN d l.length (l.flatMap f ++ r)=some (l,r)
  | [],_,r=>rfl
  | x :: l,h,r=>by
    rw [List.flatMap_cons,List.append_assoc,List.length_cons,decN,h x (List.mem_cons_self ..)]
    simp only [Option.bind_some]
    rw [decN_compl l (fun y hy=>h y (List.mem_cons_of_mem _ hy))]
    rfl
theorem decL_canon {α:Type}{m:Nat}{d:Dec α}{f:α→List Int}{G:α→Prop}(hd:Canon d f G):Canon (decL m d) (encL f) (fun l=>l.length≤m∧∀ x ∈ l,G x):=by
  intro l x r hl h
  unfold decL at h
  cases h1:decI l with
  | none=>rw [h1] at h;simp at h
  | some y =>
    rw [h1] at h
    simp only [Option.bind_some] at h
    split at h
    · simp at h
    · obtain ⟨h2,h3⟩:=decI_canon l y.1 y.2 hl h1
      rw [h2,Byt.app] at hl
      obtain ⟨h5,h6,h7⟩:=decN_canon hd _ y.2 x r hl.2 h
      refine ⟨?_,by omega,h7⟩
      unfold encL
      rw [h6,show ((y.1.toNat:Nat):Int)=y.1 by omega,List.append_assoc,← h5]
      exact h2
theorem decL_compl {α:Type}{m:Nat}{d:Dec α}{f:α→List Int}{l:List α}(h:∀ x ∈ l,Compl d f x)(hm:l.length≤m)(h1:l.length≤9223372036854775807):Compl (decL m d) (encL f) l:=fun r=>by
  unfold decL encL
  rw [List.append_assoc,decI_compl (by omega)]
  simp only [Option.bind_some]
  rw [if_neg (by omega),Int.toNat_natCast]
  exact decN_compl l h r
theorem decIs_canon:Canon decIs encIs (fun l=>∀ n ∈ l,-9223372036854775808≤n∧n≤9223372036854775807):=by
  intro l x r hl h
  unfold decIs at h
  cases h1:decU l with
  | none=>rw [h1] at h;simp at h
  | some y =>
    obtain ⟨z,q⟩:=y
    rw [h1] at h
    simp only [Option.bind_some] at h
    split at h
    · simp at h
    · obtain ⟨h2,h3⟩:=decU_canon hl h1
      rw [h2,Byt.app] at hl
      obtain ⟨h5,h6,h7⟩:=decN_canon decI_canon _ q x r hl.2 h
      refine ⟨?_,h7⟩
      unfold encIs
      rw [h6,List.append_assoc,← h5]
      exact h2
theorem len_flat {α:Type}(f:α→List Int)(hf:∀ x,1≤(f x).length):∀ l:List α,l.length≤(l.flatMap f).length
  | []=>by simp
  | x :: l=>by
    have:=len_flat f hf l
    have:=hf x
    simp only [List.length_cons,List.flatMap_cons,List.length_append]
    omega
theorem encU_pos (n:Nat):1≤(encU n).length:=by rw [encU];split <;> simp
theorem decIs_compl {l:List Int}(h:∀ n ∈ l,-9223372036854775808≤n∧n≤9223372036854775807)(h1:l.length<18446744073709551616):Compl decIs encIs l:=fun r=>by
  unfold decIs encIs
  rw [List.append_assoc,decU_compl h1]
  simp only [Option.bind_some]
  have:=len_flat encI (fun n=>encU_pos _) l
  rw [if_neg (by simp only [List.length_append];omega)]
  exact decN_compl l (fun n hn=>decI_compl (h n hn)) r
end Go.Proofs.YtfcplpeimcjhaaaGreatDoor
namespace Go.Proofs.YtfcplpeimcjhaaaGreatDoor
open Go.RowKit
def sB (s:ByteArray):List Int:=s.data.toList.map fun b=>(b.toNat:Int)
def encS (s:ByteArray):List Int:=encR (sB s)
def decS:Dec ByteArray:=fun l=>(decR l).map fun x=>(strOfNums x.1,x.2)
theorem sB_len (s:ByteArray):(sB s).length=s.size:=by
  unfold sB
  rw [List.length_map,Array.length_toList]
  rfl
theorem str_sB (s:ByteArray):strOfNums (sB s)=s:=by
  unfold strOfNums sB
  obtain ⟨d⟩:=s
  congr 1
  rw [List.map_map]
  have:((fun n:Int=>UInt8.ofNat n.toNat) ∘ fun b:UInt8=>(b.toNat:Int))=id:=by
    funext b
    simp
  rw [this]
  simp
theorem sB_str {l:List Int}(h:Byt l):sB (strOfNums l)=l:=by
  unfold sB
  rw [strOfNums_data,List.map_map]
  induction l with
  | nil=>rfl
  | cons x l ih =>
    have h0:=h x (List.mem_cons_self ..)
    rw [List.map_cons,ih h.tail]
    congr 1
    simp only [Function.comp]
    rw [UInt8.toNat_ofNat_of_lt' (by simp only [UInt8.size];omega)]
    omega
theorem decS_canon:Canon decS encS (fun _=>True):=by
  intro l x r hl h
  unfold decS at h
  cases h1:decR l with
  | none=>rw [h1] at h;simp at h
  | some y =>
    rw [h1] at h
    obtain ⟨rfl,rfl⟩:=Prod.mk.inj (Option.some.inj h)
    obtain ⟨h2,h3⟩:=decR_canon l y.1 y.2 hl h1
    refine ⟨?_,trivial⟩
    unfold encS
    rw [sB_str h3]
    exact h2
theorem decS_compl {s:ByteArray}(h:s.size<18446744073709551616):Compl decS encS s:=fun r=>by
  unfold decS encS
  rw [decR_compl (by rw [sB_len];exact h)]
  simp [str_sB]
theorem canon_bind {α β:Type}{d:Dec α}{f:α→List Int}{G:α→Prop}(hd:Canon d f G){l r:List Int}{y:β}{k:α × List Int→Option (β × List Int)}(hl:Byt l)(h:(d l).bind k=some (y,r)):∃ x q,l=f x ++ q∧G x∧Byt q∧k (x,q)=some (y,r):=by
  cases h1:d l with
  | none=>rw [h1] at h;simp at h
  | some x =>
    rw [h1] at h
    obtain ⟨h2,h3⟩:=hd l x.1 x.2 hl h1
    refine ⟨x.1,x.2,h2,h3,?_,h⟩
    rw [h2,Byt.app] at hl
    exact hl.2
theorem canon_map {α β:Type}{d:Dec α}{f:α→List Int}{G:α→Prop}(hd:Canon d f G){l r:List Int}{y:β}{k:α→β}(hl:Byt l)(h:(d l).map (fun x=>(k x.1,x.2))=some (y,r)):∃ x,l=f x ++ r∧G x∧k x=y:=by
  cases h1:d l with
  | none=>rw [h1] at h;simp at h
  | some x =>
    rw [h1] at h
    obtain ⟨rfl,rfl⟩:=Prod.mk.inj (Option.some.inj h)
    obtain ⟨h2,h3⟩:=hd l x.1 x.2 hl h1
    exact ⟨x.1,h2,h3,rfl⟩
end Go.Proofs.YtfcplpeimcjhaaaGreatDoor
namespace Go.Proofs.YtfcplpeimcjhaaaGreatDoor
open Go.RowKit
theorem compl_bind {α β:Type}{d:Dec α}{f:α→List Int}{x:α}{q:List Int}{k:α × List Int→Option (β × List Int)}(h:Compl d f x):(d (f x ++ q)).bind k=k (x,q):=by rw [h];rfl
end Go.Proofs.YtfcplpeimcjhaaaGreatDoor
