/- Own work: a part of the symbolic executor and of the walks of the functions that the claim reaches. -/
import Derived.Test.YtbdacbcpniegiaaGreatDoorBase2
import Derived.RangeFuncNested
import Derived.RangeFuncBound
import Derived.RangeFuncCalls
import Derived.RangeFuncLeaves
import Derived.RangeFuncBox
import Derived.Shelf.Abstract
import Derived.WalkKit
import Derived.OwnWalkIn
import Derived.TacticsInMore
import Derived.LoopNIn
import Derived.LoopIn
import Derived.Maps.AppendAt
import Derived.Shelf.Pu.Clone
import Derived.Shelf.Strings.SlTrimAscii
set_option maxRecDepth 100000
set_option maxHeartbeats 64000000
set_option linter.unusedSimpArgs false
set_option linter.unusedVariables false
set_option linter.unusedVariables false
namespace NW
abbrev Bytes := List UInt8
def varint (n : Nat) : Bytes :=
  if h : n < 128 then [UInt8.ofNat n] else UInt8.ofNat (n % 128 + 128) :: varint (n / 128)
termination_by n
decreasing_by omega
def readAt : Nat → Bytes → Option (Nat × Nat)
  | _,[] => none
  | k,b :: t =>
    if k ≥ 10 then none
    else if k = 9 ∧ b.toNat > 1 then none
    else if b.toNat < 128 then some (b.toNat * 2 ^ (7 * k),k + 1)
    else (readAt (k + 1) t).map fun r => (b.toNat % 128 * 2 ^ (7 * k) + r.1,r.2)
def readVar (s : Bytes) : Option (Nat × Nat) := readAt 0 s
structure Fld where
  num : Nat
  kind : Nat
  n : Nat
  s : Bytes
deriving DecidableEq
def body (kind : Nat) (s : Bytes) : Option (Nat × Nat × Bytes) :=
  if kind = 0 then (readVar s).map fun r => (r.1,0,s.drop r.2)
  else if kind = 1 then some (0,8,s)
  else if kind = 2 then (readVar s).map fun r => (0,r.1,s.drop r.2)
  else if kind = 5 then some (0,4,s)
  else none
def takeF (s : Bytes) : Option (Fld × Bytes) :=
  match readVar s with
  | none => none
  | some (tag,z) =>
    if tag < 8 ∨ 2 ^ 32 ≤ tag then none
    else match body (tag % 8) (s.drop z) with
      | none => none
      | some (n,size,r) => if size ≤ r.length then some (⟨tag / 8,tag % 8,n,r.take size⟩,r.drop size) else none
theorem readAt_bd (s : Bytes) : ∀ k r,readAt k s = some r → k < r.2 ∧ r.2 ≤ k + s.length ∧ r.2 ≤ 10 := by
  induction s with
  | nil => intro k r h;simp [readAt] at h
  | cons b t ih =>
    intro k r h
    simp only [readAt] at h
    split at h
    · simp at h
    · split at h
      · simp at h
      · split at h
        · simp at h;subst h;simp;omega
        · cases hr : readAt (k + 1) t with
          | none => simp [hr] at h
          | some q =>
            simp [hr] at h;subst h
            have := ih _ _ hr
            simp;omega
theorem readVar_bd {s : Bytes} {r} (h : readVar s = some r) : 1 ≤ r.2 ∧ r.2 ≤ s.length ∧ r.2 ≤ 10 := by
  have := readAt_bd s 0 r h
  omega
theorem readAt_lt (s : Bytes) : ∀ k r,k ≤ 10 → readAt k s = some r → r.1 + 2 ^ (7 * k) ≤ 2 ^ 64 + 0 ∨ r.1 < 2 ^ 64 ∧ 2 ^ (7 * k) ∣ r.1 := by
  induction s with
  | nil => intro k r _ h;simp [readAt] at h
  | cons b t ih =>
    intro k r hk h
    simp only [readAt] at h
    split at h
    · simp at h
    · rename_i h10
      split at h
      · simp at h
      · rename_i h9
        have hb := b.toNat_lt
        split at h
        · rename_i hlt
          simp at h;subst h
          right
          refine ⟨?_,Nat.dvd_mul_left _ _⟩
          simp only
          by_cases e : k = 9
          · subst e
            have : b.toNat ≤ 1 := by omega
            calc b.toNat * 2 ^ 63 ≤ 1 * 2 ^ 63 := Nat.mul_le_mul_right _ this
              _ < 2 ^ 64 := by decide
          · have h1 : 7 * k ≤ 56 := by omega
            have h2 : 2 ^ (7 * k) ≤ 2 ^ 56 := Nat.pow_le_pow_right (by decide) h1
            calc b.toNat * 2 ^ (7 * k) ≤ 128 * 2 ^ 56 := Nat.mul_le_mul (by omega) h2
              _ < 2 ^ 64 := by decide
        · cases hr : readAt (k + 1) t with
          | none => simp [hr] at h
          | some q =>
            simp [hr] at h;subst h
            have hk9 : k ≠ 9 := by
              intro e;apply h9;subst e;omega
            have h8 : k ≤ 8 := by omega
            have hpow : 2 ^ (7 * (k + 1)) = 128 * 2 ^ (7 * k) := by
              rw [show 7 * (k + 1) = 7 * k + 7 by omega,Nat.pow_add];omega
            have := ih _ _ (by omega) hr
            rcases this with this | ⟨h1,h2⟩
            · left
              simp only
              rw [hpow] at this
              have h3 : b.toNat % 128 * 2 ^ (7 * k) + 2 ^ (7 * k) ≤ 128 * 2 ^ (7 * k) := by
                rw [← Nat.succ_mul];exact Nat.mul_le_mul_right _ (by omega)
              omega
            · left
              simp only
              rw [hpow] at h2
              obtain ⟨c,hc⟩ := h2
              have h3 : b.toNat % 128 * 2 ^ (7 * k) + 2 ^ (7 * k) ≤ 128 * 2 ^ (7 * k) := by
                rw [← Nat.succ_mul];exact Nat.mul_le_mul_right _ (by omega)
              have h64 : ∃ e,2 ^ 64 = 2 ^ (7 * (k + 1)) * e := ⟨2 ^ (64 - 7 * (k + 1)),by rw [← Nat.pow_add];congr 1;omega⟩
              obtain ⟨e,he⟩ := h64
              rw [hpow] at he
              rw [he] at h1
              have hce : c < e := by
                rw [hc] at h1
                exact Nat.lt_of_mul_lt_mul_left h1
              have h5 : 128 * 2 ^ (7 * k) * (c + 1) ≤ 128 * 2 ^ (7 * k) * e := Nat.mul_le_mul_left _ (by omega)
              rw [Nat.mul_add] at h5
              rw [hc,he]
              omega
theorem readVar_lt {s : Bytes} {r} (h : readVar s = some r) : r.1 < 2 ^ 64 := by
  rcases readAt_lt s 0 r (by omega) h with h | h
  · simp at h;omega
  · exact h.1
theorem body_len {k : Nat} {p : Bytes} {n z r} (h : body k p = some (n,z,r)) : r.length ≤ p.length := by
  simp only [body] at h
  split at h
  · cases hr : readVar p with
    | none => simp [hr] at h
    | some x => simp [hr] at h;obtain ⟨_,_,rfl⟩ := h;simp
  · split at h
    · simp at h;obtain ⟨_,_,rfl⟩ := h;simp
    · split at h
      · cases hr : readVar p with
        | none => simp [hr] at h
        | some x => simp [hr] at h;obtain ⟨_,_,rfl⟩ := h;simp
      · split at h
        · simp at h;obtain ⟨_,_,rfl⟩ := h;simp
        · simp at h
theorem takeF_len {p : Bytes} {f r} (h : takeF p = some (f,r)) : r.length < p.length := by
  simp only [takeF] at h
  cases hr : readVar p with
  | none => simp [hr] at h
  | some x =>
    obtain ⟨tag,z⟩ := x
    simp only [hr] at h
    have hz := readVar_bd hr
    simp only at hz
    split at h
    · simp at h
    · cases hb : body (tag % 8) (p.drop z) with
      | none => simp [hb] at h
      | some y =>
        obtain ⟨n,size,s1⟩ := y
        simp only [hb] at h
        have := body_len hb
        simp only [List.length_drop] at this
        split at h
        · simp at h;obtain ⟨_,rfl⟩ := h;simp;omega
        · simp at h
def parse (s : Bytes) : Option (List Fld) :=
  if s = [] then some []
  else match h : takeF s with
    | none => none
    | some (f,r) => (parse r).map (f :: ·)
termination_by s.length
decreasing_by exact takeF_len h
theorem parse_nil : parse [] = some [] := by rw [parse];simp
theorem parse_none {s : Bytes} (hs : s ≠ []) (h : takeF s = none) : parse s = none := by
  rw [parse,if_neg hs];split <;> simp_all
theorem parse_some {s : Bytes} {f r} (h : takeF s = some (f,r)) : parse s = (parse r).map (f :: ·) := by
  have hs : s ≠ [] := by intro e;have := takeF_len h;simp [e] at this
  rw [parse,if_neg hs];split <;> simp_all
theorem varint_lt {n : Nat} (h : n < 128) : varint n = [UInt8.ofNat n] := by rw [varint];simp [h]
theorem varint_ge {n : Nat} (h : ¬ n < 128) : varint n = UInt8.ofNat (n % 128 + 128) :: varint (n / 128) := by rw [varint];simp [h]
theorem readAt_varint (t : Bytes) : ∀ (d n k : Nat),n < 2 ^ d → k < 10 → d + 7 * k = 64 → readAt k (varint n ++ t) = some (n * 2 ^ (7 * k),k + (varint n).length) := by
  intro d
  induction d using Nat.strongRecOn with
  | _ d ih =>
    intro n k hn hk hd
    by_cases h : n < 128
    · rw [varint_lt h]
      simp only [List.cons_append,List.nil_append,readAt,List.length_cons,List.length_nil]
      have hb : (UInt8.ofNat n).toNat = n := by simp [UInt8.toNat_ofNat'];omega
      rw [if_neg (by omega),if_neg (by
        rw [hb];intro ⟨e,h1⟩;subst e
        have : d = 1 := by omega
        subst this;omega),hb,if_pos h]
    · rw [varint_ge h]
      simp only [List.cons_append,readAt,List.length_cons]
      have hb : (UInt8.ofNat (n % 128 + 128)).toNat = n % 128 + 128 := by simp [UInt8.toNat_ofNat'];omega
      have hd7 : 8 ≤ d := by
        rcases Nat.lt_or_ge d 8 with h8 | h8
        · have : 2 ^ d ≤ 2 ^ 7 := Nat.pow_le_pow_right (by decide) (by omega)
          omega
        · exact h8
      have hn' : n / 128 < 2 ^ (d - 7) := by
        apply Nat.div_lt_of_lt_mul
        calc n < 2 ^ d := hn
          _ = 128 * 2 ^ (d - 7) := by rw [show (128 : Nat) = 2 ^ 7 by decide,← Nat.pow_add];congr 1;omega
      rw [if_neg (by omega),if_neg (by omega),hb,if_neg (by omega),ih (d - 7) (by omega) (n / 128) (k + 1) hn' (by omega) (by omega)]
      simp only [Option.map_some]
      have hpow : 2 ^ (7 * (k + 1)) = 128 * 2 ^ (7 * k) := by
        rw [show 7 * (k + 1) = 7 * k + 7 by omega,Nat.pow_add];omega
      rw [hpow]
      have e1 : (n % 128 + 128) % 128 = n % 128 := by omega
      rw [e1,← Nat.mul_assoc,← Nat.add_mul]
      have e2 : n % 128 + n / 128 * 128 = n := by omega
      rw [e2]
      congr 2
      omega
theorem readVar_varint {n : Nat} (t : Bytes) (h : n < 2 ^ 64) : readVar (varint n ++ t) = some (n,(varint n).length) := by
  have := readAt_varint t 64 n 0 h (by omega) (by omega)
  simpa [readVar] using this
theorem varint_length : ∀ (d n : Nat),n < 2 ^ (7 * d) → 1 ≤ d → (varint n).length ≤ d := by
  intro d
  induction d with
  | zero => intro n _ h;omega
  | succ d ih =>
    intro n hn _
    by_cases h : n < 128
    · rw [varint_lt h];simp
    · rw [varint_ge h]
      have hd : 1 ≤ d := by
        rcases Nat.eq_zero_or_pos d with e | e
        · subst e;simp at hn;omega
        · exact e
      have : n / 128 < 2 ^ (7 * d) := by
        apply Nat.div_lt_of_lt_mul
        calc n < 2 ^ (7 * (d + 1)) := hn
          _ = 128 * 2 ^ (7 * d) := by rw [show (128 : Nat) = 2 ^ 7 by decide,← Nat.pow_add];congr 1;omega
      have := ih _ this hd
      simp;omega
theorem varint_len10 {n : Nat} (h : n < 2 ^ 64) : (varint n).length ≤ 10 :=
  varint_length 10 n (Nat.lt_of_lt_of_le h (by decide)) (by decide)
def Fld.Ok (f : Fld) : Prop := 1 ≤ f.num ∧ f.num < 2 ^ 29 ∧ ((f.kind = 0 ∧ f.s = [] ∧ f.n < 2 ^ 64) ∨ (f.kind = 1 ∧ f.s.length = 8 ∧ f.n = 0) ∨ (f.kind = 2 ∧ f.s.length < 2 ^ 64 ∧ f.n = 0) ∨ (f.kind = 5 ∧ f.s.length = 4 ∧ f.n = 0))
def Fld.enc (f : Fld) : Bytes :=
  varint (f.num * 8 + f.kind) ++ (if f.kind = 0 then varint f.n else if f.kind = 2 then varint f.s.length else []) ++ f.s
theorem takeF_enc {f : Fld} (h : f.Ok) (t : Bytes) : takeF (f.enc ++ t) = some (f,t) := by
  obtain ⟨num,kind,n,s⟩ := f
  obtain ⟨h1,h2,h⟩ := h
  simp only at h1 h2 h
  simp only [Fld.enc,takeF]
  have hk : kind < 8 := by omega
  have htag : num * 8 + kind < 2 ^ 64 := by omega
  rw [show (varint (num * 8 + kind) ++ (if kind = 0 then varint n else if kind = 2 then varint s.length else []) ++ s ++ t) = varint (num * 8 + kind) ++ ((if kind = 0 then varint n else if kind = 2 then varint s.length else []) ++ (s ++ t)) by simp]
  rw [readVar_varint _ htag]
  simp only
  rw [if_neg (by omega),List.drop_left]
  have e1 : (num * 8 + kind) % 8 = kind := by omega
  have e2 : (num * 8 + kind) / 8 = num := by omega
  rw [e1,e2]
  rcases h with ⟨rfl,rfl,h⟩ | ⟨rfl,h,rfl⟩ | ⟨rfl,h,rfl⟩ | ⟨rfl,h,rfl⟩
  · simp only [body,if_true,List.nil_append]
    rw [readVar_varint _ h]
    simp
  · simp [body,h]
  · simp only [body]
    simp only [show ¬ ((2 : Nat) = 0) by decide,show ¬ ((2 : Nat) = 1) by decide,if_false,if_true]
    rw [readVar_varint _ h]
    simp
  · simp [body,h]
theorem parse_enc {f : Fld} (h : f.Ok) (t : Bytes) : parse (f.enc ++ t) = (parse t).map (f :: ·) := parse_some (takeF_enc h t)
def encs (l : List Fld) : Bytes := l.flatMap Fld.enc
theorem parse_encs (l : List Fld) (h : ∀ f ∈ l,f.Ok) (t : Bytes) : parse (encs l ++ t) = (parse t).map (l ++ ·) := by
  induction l with
  | nil => simp [encs]
  | cons f l ih =>
    have e : encs (f :: l) ++ t = f.enc ++ (encs l ++ t) := by simp [encs]
    rw [e,parse_enc (h f (by simp)),ih (fun g hg => h g (by simp [hg]))]
    cases parse t <;> simp
theorem parse_encs' (l : List Fld) (h : ∀ f ∈ l,f.Ok) : parse (encs l) = some l := by
  have := parse_encs l h []
  simpa [parse_nil] using this
end NW
namespace Go.Proofs.YtbdacbcpniegiaaGreatDoor
open Go Go.RowKit Go.Proofs Go.Sx
set_option maxRecDepth 10000 in
theorem or128 {x : Int} (h0 : 0 ≤ x) (h1 : x < 256) : bits .or .u8 x 128 = x % 128 + 128 := by
  have := (by decide : ∀ x : Fin 256,bits .or .u8 (x.val : Int) 128 = (x.val : Int) % 128 + 128) ⟨x.toNat,by omega⟩
  simp only [Int.toNat_of_nonneg h0] at this
  exact this
theorem varint_any (n : Nat) (hn : n < 18446744073709551616) (w : World) :
    Calls Tryz.prog 99 #[.int .u64 n] w fun e w' => e = .returned (.string (B (NW.varint n))) ∧ Below w.heap.size w w' := by
  have hlen := NW.varint_len10 (n := n) (by omega)
  refine calls_pureK (args := [.int .u64 n]) w Tryz.func99 rfl Tryz.ntmps99 (by simp) ?_
  intro X K hX hK
  have hnt : X.nt = 21 := by rw [hX]
  have hwi : X.wi = w := by rw [hX]
  have hP : X.P = Tryz.prog := by rw [hX]
  have hown : X.own = [] := by rw [hX]
  have hbl : X.base.length = 0 := by rw [hX];rfl
  clear hX
  have hT := Ty.T99 hP
  refine SX.seqK ?_
  intro N hN
  refine SX.ops ?_
  simp only [GA,↓GB,GX,simprocAttr,hnt,hT]
  refine hN _ ?_
  clear hN N
  refine SX.seqK ?_
  intro N hN
  refine SX.ops ?_
  simp only [GA,↓GB,GX,simprocAttr,hnt,hT]
  refine hN _ ?_
  clear hN N
  refine SX.seqK ?_
  intro N hN
  refine SX.block (SX.loop (ι := { p : Nat × List UInt8 // p.2 ++ NW.varint p.1 = NW.varint n ∧ p.1 < 18446744073709551616 }) (fun i => ⟨[(0,vv (.int .u64 i.1.1)),(3,.one (.c (.row 0)))],[.row 5 1 i.1.2.length (bcells i.1.2)]⟩) (fun i => i.1.1) ⟨(n,[]),by simp,hn⟩ ⟨[0],(LeR.of (by rw [hbl];decide) (by simp only [GA,↓GB,GX,simprocAttr,GDs];try (rfl)) (by simp only [GA,↓GB,GX,simprocAttr,GDs];try (rfl)) (by decide) (by simp only [GA,↓GB,GX,simprocAttr,GDs]) (by simp only [GA,↓GB,GX,simprocAttr,GDs]) (by simp only [GA,↓GB,GX,simprocAttr,GDs]))⟩ ?_)
  rintro ⟨⟨m,l⟩,hml,hm⟩
  simp only at hml hm ⊢
  have hl10 : l.length ≤ 10 := by have := congrArg List.length hml;simp at this;omega
  refine SX.seqK ?_;intro N2 hN2
  refine SX.seqK ?_;intro N3 hN3
  refine SX.ops ?_
  simp only [GA,↓GB,GX,simprocAttr,hnt,hT]
  refine hN3 _ ?_
  clear hN3 N3
  refine SX.cond (b := decide ((128 : Int) ≤ m)) rfl (fun hb => ?_) (fun hb => ?_)
  · refine SX.skip (hN2 _ ?_)
    clear hN2 N2
    have hb' : 128 ≤ m := by have := of_decide_eq_true hb;omega
    refine SX.seqK ?_;intro N4 hN4
    refine SX.block ?_
    refine SX.ops ?_
    simp only [GA,↓GB,GX,simprocAttr,hnt,hT]
    have e1 : IntKind.u8.wrap (m : Int) = ((m % 256 : Nat) : Int) := by rw [IntKind.wrap_u8];omega
    rw [e1,or128 (by omega) (by omega)]
    first | refine ⟨by omega,hN4 _ ?_⟩ | refine hN4 _ ?_
    clear hN4 N4
    refine SX.ops ?_
    simp only [GA,↓GB,GX,simprocAttr,hnt,hT]
    have e2 : (m : Int).fdiv (2 ^ (min 7 IntKind.u64.bits)) = ((m / 128 : Nat) : Int) := by
      rw [show (2 : Int) ^ (min 7 IntKind.u64.bits) = 128 from rfl,Int.fdiv_eq_ediv_of_nonneg _ (by decide)];omega
    have e3 : ((m % 256 : Nat) : Int) % 128 + 128 = ((UInt8.ofNat (m % 128 + 128)).toNat : Int) := by
      simp [UInt8.toNat_ofNat'];omega
    rw [e2,e3]
    refine ⟨⟨(m / 128,l ++ [UInt8.ofNat (m % 128 + 128)]),?_,by omega⟩,[2],(LeR.of (by rw [hbl];decide) (by simp only [GA,↓GB,GX,simprocAttr,GDs];try (simp [bcells])) (by simp only [GA,↓GB,GX,simprocAttr,GDs];try (simp [bcells])) (by decide) (by simp only [GA,↓GB,GX,simprocAttr,GDs]) (by simp only [GA,↓GB,GX,simprocAttr,GDs]) (by simp only [GA,↓GB,GX,simprocAttr,GDs])),(by show m / 128 < m;omega)⟩
    rw [← hml,NW.varint_ge (by omega : ¬ m < 128)];simp
  · refine SX.exit ?_
    simp only [GA,↓GB,GX,simprocAttr,hnt]
    have hb' : m < 128 := by have := of_decide_eq_false hb;omega
    refine hN _ ?_
    clear hN hN2 N N2
    refine SX.seqK ?_
    intro N hN
    refine SX.ops ?_
    simp only [GA,↓GB,GX,simprocAttr,hnt,hT]
    have e1 : IntKind.u8.wrap (m : Int) = ((UInt8.ofNat m).toNat : Int) := by rw [IntKind.wrap_u8];simp [UInt8.toNat_ofNat']
    rw [e1]
    refine ⟨by omega,l ++ [UInt8.ofNat m],by simp [bcells],?_⟩
    refine hN _ ?_
    clear hN N
    refine SX.ret (hK _ _ (Fin.one rfl rfl hown ?_))
    rw [hwi];intro w' hb;exact ⟨by rw [← hml,NW.varint_lt hb'],hb⟩
end Go.Proofs.YtbdacbcpniegiaaGreatDoor
namespace Go.Proofs.YtbdacbcpniegiaaGreatDoor
open Go Go.RowKit Go.Proofs Go.Sx
set_option maxRecDepth 10000 in
theorem andNot128 {x : Int} (h0 : 0 ≤ x) (h1 : x < 256) : bits .andNot .u8 x 128 = x % 128 := by
  have := (by decide : ∀ x : Fin 256,bits .andNot .u8 (x.val : Int) 128 = (x.val : Int) % 128) ⟨x.toNat,by omega⟩
  simp only [Int.toNat_of_nonneg h0] at this
  exact this
theorem wi64 {x : Int} (h0 : -9223372036854775808 ≤ x) (h1 : x < 9223372036854775808) : IntKind.i64.wrap x = x := by
  rw [IntKind.wrap_i64,Int.emod_eq_of_lt (by omega) (by omega)];omega
theorem wu64 {x : Int} (h0 : 0 ≤ x) (h1 : x < 18446744073709551616) : IntKind.u64.wrap x = x := by
  rw [IntKind.wrap_u64,Int.emod_eq_of_lt h0 h1]
theorem orShift (acc k x : Nat) (hk : k ≤ 9) (hacc : acc < 2 ^ (7 * k)) (hx : x * 2 ^ (7 * k) < 18446744073709551616) (hx8 : x < 128) :
    bits .or .u64 acc (IntKind.u64.wrap (IntKind.u64.wrap x * 2 ^ min (IntKind.i64.wrap (7 * (k : Int))).toNat IntKind.u64.bits)) = ((acc + x * 2 ^ (7 * k) : Nat) : Int) := by
  have h1 : (IntKind.i64.wrap (7 * (k : Int))).toNat = 7 * k := by rw [wi64 (by omega) (by omega)];omega
  have h2 : min (7 * k) IntKind.u64.bits = 7 * k := by have : IntKind.u64.bits = 64 := rfl;omega
  have h3 : IntKind.u64.wrap (x : Int) = x := by rw [IntKind.wrap_u64];omega
  have h4 : ((x : Int) * 2 ^ (7 * k)) = ((x * 2 ^ (7 * k) : Nat) : Int) := by simp
  have h5 : IntKind.u64.wrap ((x * 2 ^ (7 * k) : Nat) : Int) = ((x * 2 ^ (7 * k) : Nat) : Int) := by rw [IntKind.wrap_u64];omega
  have hp : 2 ^ (7 * k) ≤ 2 ^ 63 := Nat.pow_le_pow_right (by decide) (by omega)
  rw [h1,h2,h3,h4,h5,bits_or_u64_nat _ _ (by omega) hx]
  congr 1
  rw [Nat.mul_comm x,Nat.or_comm,← Nat.two_pow_add_eq_or_of_lt hacc,Nat.add_comm]
def rvR (s : List UInt8) : Nat × Nat × Bool := match NW.readVar s with | some (n,z) => (n,z,true) | none => (0,0,false)
theorem rvR_none {s : List UInt8} (h : NW.readVar s = none) : rvR s = (0,0,false) := by simp [rvR,h]
theorem rvR_some {s : List UInt8} {r : Nat × Nat} (h : NW.readVar s = some r) : rvR s = (r.1,r.2,true) := by simp [rvR,h]
theorem readVarint_any (s : List UInt8) (hs : s.length ≤ 4611686018427387904) (w : World) :
    Calls Tryz.prog 121 #[.string (B s)] w fun e w' => e = .returned (.tuple #[.int .u64 (rvR s).1,.int .i64 (rvR s).2.1,.bool (rvR s).2.2]) ∧ Below w.heap.size w w' := by
  refine calls_pureK (args := [.string (B s)]) w Tryz.func121 rfl Tryz.ntmps121 (by simp) ?_
  intro X K hX hK
  have hnt : X.nt = 36 := by rw [hX]
  have hwi : X.wi = w := by rw [hX]
  have hP : X.P = Tryz.prog := by rw [hX]
  have hown : X.own = [] := by rw [hX]
  have hbl : X.base.length = 0 := by rw [hX];rfl
  clear hX
  have hT := Ty.T121 hP
  repeat (refine SX.seqK ?_;intro N hN)
  refine SX.ops ?_
  simp only [GA,↓GB,GX,simprocAttr,hnt,hT]
  refine hN _ ?_
  clear hN N
  repeat (refine SX.seqK ?_;intro N hN)
  refine SX.ops ?_
  simp only [GA,↓GB,GX,simprocAttr,hnt,hT]
  have hmin : (if (s.length : Int) < 10 then (s.length : Int) else 10) = ((min 10 s.length : Nat) : Int) := by split <;> omega
  rw [hmin]
  refine hN _ ?_
  clear hN N
  refine SX.block (SX.loop (ι := { p : Nat × Nat // p.1 ≤ min 10 s.length ∧ p.2 < 2 ^ (7 * p.1) ∧ NW.readVar s = (NW.readAt p.1 (s.drop p.1)).map (fun r => (p.2 + r.1,r.2)) })
    (fun i => ⟨[(0,vv (.string (B s))),(2,vv (.int .u64 i.1.2)),(9,vv (.int .i64 ((min 10 s.length : Nat) : Int))),(10,vv (.int .i64 i.1.1))],[]⟩) (fun i => 10 - i.1.1)
    ⟨(0,0),by omega,by decide,by cases h : NW.readAt 0 s <;> simp [NW.readVar,h]⟩ ⟨[],(LeR.of (by rw [hbl];decide) (by simp only [GA,↓GB,GX,simprocAttr,GDs];try (exact ⟨rfl,rfl⟩)) (by simp only [GA,↓GB,GX,simprocAttr,GDs];try (exact ⟨rfl,rfl⟩)) (by decide) (by simp only [GA,↓GB,GX,simprocAttr,GDs]) (by simp only [GA,↓GB,GX,simprocAttr,GDs]) (by simp only [GA,↓GB,GX,simprocAttr,GDs]))⟩ ?_)
  rintro ⟨⟨k,acc⟩,hk,hacc,hrv⟩
  simp only at hk hacc hrv ⊢
  repeat (refine SX.seqK ?_;intro N hN)
  refine SX.ops ?_
  simp only [GA,↓GB,GX,simprocAttr,hnt,hT]
  refine hN _ ?_
  clear hN N
  repeat (refine SX.seqK ?_;intro N hN)
  refine SX.cond (b := decide ((k : Int) < ((min 10 s.length : Nat) : Int))) rfl (fun hb => ?_) (fun hb => ?_)
  · refine SX.skip (hN _ ?_);clear hN N
    have hlt : k < min 10 s.length := by have := of_decide_eq_true hb;omega
    have hdrop : s.drop k = s[k]'(by omega) :: s.drop (k + 1) := List.drop_eq_getElem_cons (by omega)
    have hget : s.getD (k) 0 = s[k]'(by omega) := by simp [List.getD_eq_getElem?_getD,show k < s.length by omega]
    rw [hdrop] at hrv
    have hb8 := (s[k]'(by omega)).toNat_lt
    repeat (refine SX.seqK ?_;intro N hN)
    refine SX.block ?_
    repeat (refine SX.seqK ?_;intro N hN)
    refine SX.ops ?_
    simp only [GA,↓GB,GX,simprocAttr,hnt,hT]
    refine hN _ ?_
    clear hN N
    repeat (refine SX.seqK ?_;intro N hN)
    refine SX.ops ?_
    simp only [GA,↓GB,GX,simprocAttr,hnt,hT]
    refine ⟨by omega,by omega,?_⟩
    rw [hget]
    generalize s[k]'(by omega) = b at *
    refine hN _ ?_
    clear hN N
    repeat (refine SX.seqK ?_;intro N hN)
    refine SX.ops ?_
    simp only [GA,↓GB,GX,simprocAttr,hnt,hT]
    refine SX.merge (d := ⟨[(21,vv (.bool (decide (k = 9) && decide (1 < b.toNat)))),(0,vv (.string (B s))),(2,vv (.int .u64 acc)),(5,vv (.int .i64 k)),(6,vv (.int .u8 b.toNat)),(9,vv (.int .i64 ((min 10 s.length : Nat) : Int))),(10,vv (.int .i64 k))],[]⟩) hN [] []
      (fun h9 => (LeR.of (by rw [hbl];decide) (by simp only [GA,↓GB,GX,simprocAttr,GDs];try ((have h9' : k = 9 := by have := eq_of_beq h9;omega);simp [h9'];omega)) (by simp only [GA,↓GB,GX,simprocAttr,GDs];try ((have h9' : k = 9 := by have := eq_of_beq h9;omega);simp [h9'];omega)) (by decide) (by simp only [GA,↓GB,GX,simprocAttr,GDs]) (by simp only [GA,↓GB,GX,simprocAttr,GDs]) (by simp only [GA,↓GB,GX,simprocAttr,GDs]))) (fun h9 => (LeR.of (by rw [hbl];decide) (by simp only [GA,↓GB,GX,simprocAttr,GDs];try (simp [show k ≠ 9 by intro e;subst e;simp at h9])) (by simp only [GA,↓GB,GX,simprocAttr,GDs];try (simp [show k ≠ 9 by intro e;subst e;simp at h9])) (by decide) (by simp only [GA,↓GB,GX,simprocAttr,GDs]) (by simp only [GA,↓GB,GX,simprocAttr,GDs]) (by simp only [GA,↓GB,GX,simprocAttr,GDs]))) ?_
    clear hN N
    repeat (refine SX.seqK ?_;intro N hN)
    refine SX.cond (b := (decide (k = 9) && decide (1 < b.toNat))) rfl (fun hb => ?_) (fun hb => ?_)
    · refine SX.exit ?_
      simp only [GA,↓GB,GX,simprocAttr,hnt]
      have hnone : NW.readVar s = none := by
        simp only [Bool.and_eq_true,decide_eq_true_eq] at hb
        obtain ⟨rfl,hb⟩ := hb
        rw [hrv,NW.readAt,if_neg (by omega),if_pos ⟨rfl,by omega⟩];rfl
      clear hN N;clear hN N
      refine hN _ ?_
      clear hN N
      repeat (refine SX.seqK ?_;intro N hN)
      refine SX.ops ?_
      simp only [GA,↓GB,GX,simprocAttr,hnt,hT]
      refine hN _ ?_
      clear hN N
      refine SX.ret (hK _ _ (Fin.three rfl rfl rfl rfl hown ?_))
      rw [hwi];intro w' hb;exact ⟨by rw [rvR_none hnone];rfl,hb⟩
    · refine SX.skip (hN _ ?_);clear hN N
      have hr : NW.readAt k (b :: s.drop (k + 1)) = if b.toNat < 128 then some (b.toNat * 2 ^ (7 * k),k + 1) else (NW.readAt (k + 1) (s.drop (k + 1))).map fun r => (b.toNat % 128 * 2 ^ (7 * k) + r.1,r.2) := by
        simp only [Bool.and_eq_false_iff,decide_eq_false_iff_not] at hb
        rw [NW.readAt,if_neg (by omega),if_neg (by omega)]
      rw [hr] at hrv
      repeat (refine SX.seqK ?_;intro N hN)
      refine SX.ops ?_
      simp only [GA,↓GB,GX,simprocAttr,hnt,hT]
      have hx8 : b.toNat % 128 < 128 := Nat.mod_lt _ (by decide)
      have hx : b.toNat % 128 * 2 ^ (7 * k) < 18446744073709551616 := by
        by_cases e9 : k = 9
        · subst e9
          have : b.toNat ≤ 1 := by simp at hb;exact hb
          omega
        · have h2 : 2 ^ (7 * k) ≤ 2 ^ 56 := Nat.pow_le_pow_right (by decide) (by omega)
          have : b.toNat % 128 * 2 ^ (7 * k) ≤ 127 * 2 ^ 56 := Nat.mul_le_mul (by omega) h2
          omega
      have hv : bits .or .u64 acc (IntKind.u64.wrap (IntKind.u64.wrap (bits .andNot .u8 b.toNat 128) * 2 ^ min (IntKind.i64.wrap (7 * (k : Int))).toNat IntKind.u64.bits)) = ((acc + b.toNat % 128 * 2 ^ (7 * k) : Nat) : Int) := by
        rw [andNot128 (by omega) (by omega)]
        have := orShift acc k (b.toNat % 128) (by omega) hacc hx hx8
        simpa using this
      rw [hv]
      refine ⟨by rw [wi64 (by omega) (by omega)];omega,?_⟩
      refine hN _ ?_
      clear hN N
      repeat (refine SX.seqK ?_;intro N hN)
      refine SX.ops ?_
      simp only [GA,↓GB,GX,simprocAttr,hnt,hT]
      refine hN _ ?_
      clear hN N
      repeat (refine SX.seqK ?_;intro N hN)
      refine SX.cond (b := decide ((b.toNat : Int) < 128)) rfl (fun hb => ?_) (fun hb => ?_)
      · have hb2 : b.toNat < 128 := by have := of_decide_eq_true ‹decide ((b.toNat : Int) < 128) = true›;omega
        rw [if_pos hb2] at hrv
        simp only [Option.map_some] at hrv
        have e1 : IntKind.i64.wrap ((k : Int) + 1) = ((k + 1 : Nat) : Int) := by rw [wi64 (by omega) (by omega)];rfl
        repeat (refine SX.seqK ?_;intro N hN)
        refine SX.ops ?_
        simp only [GA,↓GB,GX,simprocAttr,hnt,hT]
        rw [e1]
        refine hN _ ?_
        clear hN N
        refine SX.ret ?_
        simp only [GA,↓GB,GX,simprocAttr,hnt]
        refine hK _ _ (Fin.three rfl rfl rfl rfl hown ?_)
        rw [hwi];intro w' hb;exact ⟨by rw [rvR_some hrv];simp [Nat.mod_eq_of_lt hb2],hb⟩
      · have hb2 : ¬ b.toNat < 128 := by have := of_decide_eq_false ‹decide ((b.toNat : Int) < 128) = false›;omega
        rw [if_neg hb2] at hrv
        refine SX.skip ?_
        simp only [GA,↓GB,GX,simprocAttr,hnt]
        refine hN _ ?_
        clear hN N
        refine SX.ops ?_
        simp only [GA,↓GB,GX,simprocAttr,hnt,hT]
        have e1 : IntKind.i64.wrap ((k : Int) + 1) = ((k + 1 : Nat) : Int) := by rw [wi64 (by omega) (by omega)];rfl
        rw [e1]
        refine ⟨⟨(k + 1,acc + b.toNat % 128 * 2 ^ (7 * k)),by omega,?_,?_⟩,[],(LeR.of (by rw [hbl];decide) (by simp only [GA,↓GB,GX,simprocAttr,GDs];try (exact ⟨rfl,rfl⟩)) (by simp only [GA,↓GB,GX,simprocAttr,GDs];try (exact ⟨rfl,rfl⟩)) (by decide) (by simp only [GA,↓GB,GX,simprocAttr,GDs]) (by simp only [GA,↓GB,GX,simprocAttr,GDs]) (by simp only [GA,↓GB,GX,simprocAttr,GDs])),?_⟩
        · show _ < 2 ^ (7 * (k + 1))
          rw [show 7 * (k + 1) = 7 * k + 7 by omega,Nat.pow_add]
          have : b.toNat % 128 * 2 ^ (7 * k) ≤ 127 * 2 ^ (7 * k) := Nat.mul_le_mul_right _ (by omega)
          show _ + _ < _
          omega
        · rw [hrv]
          cases NW.readAt (k + 1) (s.drop (k + 1)) <;> simp
          omega
        · show 10 - (k + 1) < 10 - k
          omega
  · refine SX.exit ?_
    simp only [GA,↓GB,GX,simprocAttr,hnt]
    clear hN N
    refine hN _ ?_
    clear hN N
    repeat (refine SX.seqK ?_;intro N hN)
    refine SX.ops ?_
    simp only [GA,↓GB,GX,simprocAttr,hnt,hT]
    refine hN _ ?_
    clear hN N
    have hk' : k = min 10 s.length := by have := of_decide_eq_false hb;omega
    have hnone : NW.readVar s = none := by
      rw [hrv]
      by_cases h10 : 10 ≤ s.length
      · have : k = 10 := by omega
        subst this
        cases h : s.drop 10 <;> simp [NW.readAt]
      · rw [List.drop_eq_nil_of_le (by omega)];simp [NW.readAt]
    refine SX.ret (hK _ _ (Fin.three rfl rfl rfl rfl hown ?_))
    rw [hwi];intro w' hb;exact ⟨by rw [rvR_none hnone];rfl,hb⟩
end Go.Proofs.YtbdacbcpniegiaaGreatDoor
namespace Go.Sx
open Go Go.RowKit
def sub : List Bool → Code → Code
  | [],c => c
  | false :: p,.seq a _ => sub p a
  | true :: p,.seq _ b => sub p b
  | _ :: p,.block _ a => sub p a
  | _ :: p,.loop a => sub p a
  | false :: p,.cond _ a _ => sub p a
  | true :: p,.cond _ _ b => sub p b
  | _ :: _,c => c
section
variable {X : Ctx} {c : Cfg} {N : Cfg → Prop} {d : Option Tmp} {ty : TypeId} {pos : String} {af : Array Edge} {g : Option (Nat × Bool)}
theorem PO.slString {src dst e t n : Nat} {x : Operand} {j : Nat} {l : List SC} (bs : List UInt8) (hx : c.ev x = .one (.c (.sl j 0 n n))) (hj : c.loc[j]? = some (.cells l t)) (hl : l = (bcells bs).map SC.v) (hn : n = bs.length)
    (hs : X.P.underlying src = some (.slice e)) (he : X.P.underlying e = some (.int .u8)) (hd : X.P.underlying dst = some .string) :
    PO X ⟨d,.convert src dst x,ty,pos,af,g⟩ c (vv (.string (B bs))) := fun ρ σ a w hr => by
  subst hl
  have ex := hr.ev x
  rw [hx] at ex
  obtain ⟨b,hb,ex⟩ := ex
  obtain ⟨hw,-⟩ := hr.plainAt hj hb
  refine ⟨_,?_,rfl⟩
  simp only [execOp,ex,Sem.run_bind,hn]
  rw [run_convert_bytes_back w src dst e ⟨b,0,none⟩ _ bs hs he hd (fun i hi => by
    by_cases e0 : i = 0
    · subst e0
      simp only [World.cell?,Addr.add,hw]
      simp [bcells,hi,hw]
    · simp only [World.cell?,Addr.add,if_neg e0,hw]
      simp [bcells,hi,hw])]
  rfl
theorem VO.slString {src dst e t n : Nat} {x : Operand} {j : Nat} {l : List SC} (bs : List UInt8) (hx : c.ev x = .one (.c (.sl j 0 n n))) (hj : c.loc[j]? = some (.cells l t)) (hl : l = (bcells bs).map SC.v) (hn : n = bs.length)
    (hs : X.P.underlying src = some (.slice e)) (he : X.P.underlying e = some (.int .u8)) (hd : X.P.underlying dst = some .string) (h : nxt X d N c (vv (.string (B bs)))) :
    VO X ⟨d,.convert src dst x,ty,pos,af,g⟩ c N := .of_po (PO.slString bs hx hj hl hn hs he hd) h
end
end Go.Sx
namespace Go.Proofs.YtbdacbcpniegiaaGreatDoor
open Go Go.RowKit Go.Proofs Go.Sx
structure Wire (w : World) (es ew : Value) : Prop where
  short : w.cell? ⟨2,0,none⟩ = some es
  wrong : w.cell? ⟨3,0,none⟩ = some ew
  s1 : es.oneCell' = true
  w1 : ew.oneCell' = true
def takeS (s : List UInt8) (es ew : Value) (v : Value) : Prop := ∃ (num kind : Int) (n : Nat) (fs r : List UInt8) (ev : Value),
  v = .tuple #[.agg #[.int .i64 num,.int .i64 kind,.int .u64 n,.string (B fs)],.string (B r),ev] ∧ r.length ≤ s.length ∧
  (match NW.takeF s with | some (f,r') => num = f.num ∧ kind = f.kind ∧ n = f.n ∧ fs = f.s ∧ r = r' ∧ ev = .nilIface | none => ev = es ∨ ev = ew)
theorem take_any (s : List UInt8) (hs : s.length ≤ 1152921504606846976) (w : World) (es ew : Value) (hw : Wire w es ew) :
    Calls Tryz.prog 115 #[.string (B s)] w fun e w' => ∃ v,e = .returned v ∧ takeS s es ew v ∧ Below w.heap.size w w' := by
  have hw1 := hw.short
  have hw2 := hw.wrong
  have h1 := hw.s1
  have h2 := hw.w1
  cases h : NW.readVar s with
  | none =>
    have hT0 : NW.takeF s = none := by simp [NW.takeF,h]
    refine calls_pureK (args := [.string (B s)]) w Tryz.func115 rfl Tryz.ntmps115 (by simp) ?_
    intro X K hX hK
    have hnt : X.nt = 107 := by rw [hX]
    have hwi : X.wi = w := by rw [hX]
    have hP : X.P = Tryz.prog := by rw [hX]
    have hown : X.own = [] := by rw [hX]
    have hbl : X.base.length = 0 := by rw [hX];rfl
    clear hX
    have hT := Ty.T115 hP
    rw [← hwi] at hw1 hw2
    repeat (refine SX.seqK ?_;intro N hN)
    refine SX.ops ?_
    simp only [GA,↓GB,GX,simprocAttr,hnt,hT]
    refine hN _ ?_
    clear hN N
    repeat (refine SX.seqK ?_;intro N hN)
    refine SX.ops ?_
    simp only [GA,↓GB,GX,simprocAttr,hnt,hT]
    refine CallVC.pt (l := [_,_,_]) hP (readVarint_any s (by omega)) rfl ?_
    simp only [GA,↓GB,GX,simprocAttr,hnt,hT,rvR_none h]
    refine hN _ ?_
    clear hN N
    repeat (refine SX.seqK ?_;intro N hN)
    refine SX.ops ?_
    simp only [GA,↓GB,GX,simprocAttr,hnt,hT]
    refine hN _ ?_
    clear hN N
    repeat (refine SX.seqK ?_;intro N hN)
    refine SX.cond (b := true) rfl (fun hb => ?_) (fun hb => ?_)
    · repeat (refine SX.seqK ?_;intro N hN)
      refine SX.draw 5 (by rw [hP];kernel_rfl) (by kernel_rfl) ?_
      simp only [GA,↓GB,GX,simprocAttr,d_nil,d_cons,d_move,d_assign,d_load,d_slice,d_store,d_sto,d_sam,List.take_succ_cons,List.drop_succ_cons,List.drop_zero,List.take_zero,hnt,hT ,hw1,hw2,hown,List.not_mem_nil,not_false_eq_true]
      refine hN _ ?_
      clear hN N
      refine SX.ret (hK _ _ (Fin.res rfl hown ?_))
      simp only [GA,↓GB,GX,simprocAttr,f_a,f_b,f_n,f_c,f_B,f_v,f_g,f_0,f_1,f_2,hT,hwi]
      intro w' hb
      exact ⟨_,rfl,⟨0,0,0,[],s,es,rfl,by omega,by rw [hT0];exact .inl rfl⟩,hb⟩
    · cases hb
  | some tz =>
    obtain ⟨tag,z⟩ := tz
    have hz := NW.readVar_bd h
    have htag := NW.readVar_lt h
    simp only at hz htag
    have d1 : ((tag : Int) * 1 = tag) := by omega
    by_cases ht : tag < 8 ∨ 4294967296 ≤ tag
    · have hT0 : NW.takeF s = none := by simp [NW.takeF,h,ht]
      have hd : (decide (4294967296 ≤ (tag : Int)) || decide ((tag : Int) < 8)) = true := by simp;omega
      refine calls_pureK (args := [.string (B s)]) w Tryz.func115 rfl Tryz.ntmps115 (by simp) ?_
      intro X K hX hK
      have hnt : X.nt = 107 := by rw [hX]
      have hwi : X.wi = w := by rw [hX]
      have hP : X.P = Tryz.prog := by rw [hX]
      have hown : X.own = [] := by rw [hX]
      have hbl : X.base.length = 0 := by rw [hX];rfl
      clear hX
      have hT := Ty.T115 hP
      rw [← hwi] at hw1 hw2
      repeat (refine SX.seqK ?_;intro N hN)
      refine SX.ops ?_
      simp only [GA,↓GB,GX,simprocAttr,hnt,hT]
      refine hN _ ?_
      clear hN N
      repeat (refine SX.seqK ?_;intro N hN)
      refine SX.ops ?_
      simp only [GA,↓GB,GX,simprocAttr,hnt,hT]
      refine CallVC.pt (l := [_,_,_]) hP (readVarint_any s (by omega)) rfl ?_
      simp only [GA,↓GB,GX,simprocAttr,hnt,hT,rvR_some h]
      refine hN _ ?_
      clear hN N
      repeat (refine SX.seqK ?_;intro N hN)
      refine SX.ops ?_
      simp only [GA,↓GB,GX,simprocAttr,hnt,hT]
      refine hN _ ?_
      clear hN N
      repeat (refine SX.seqK ?_;intro N hN)
      refine SX.cond (b := false) rfl (fun hb => ?_) (fun hb => ?_)
      · cases hb
      refine SX.skip (hN _ ?_);clear hN N
      repeat (refine SX.seqK ?_;intro N hN)
      refine SX.ops ?_
      simp only [GA,↓GB,GX,simprocAttr,hnt,hT]
      refine SX.merge (d := ⟨[(31,vv (.bool true)),(0,vv (.string (B s))),(2,.one (.c (.loc 0 0))),(5,vv (.int .u64 tag)),(6,vv (.int .i64 z))],[.cells [.v (.int .i64 0),.v (.int .i64 0),.v (.int .u64 0),.v (.string ⟨#[]⟩)] 109]⟩) hN [0] [0] (fun hq => (LeR.of (by rw [hbl];decide) (by simp only [GA,↓GB,GX,simprocAttr,GDs];try (rfl)) (by simp only [GA,↓GB,GX,simprocAttr,GDs];try (rfl)) (by decide) (by simp only [GA,↓GB,GX,simprocAttr,GDs]) (by simp only [GA,↓GB,GX,simprocAttr,GDs]) (by simp only [GA,↓GB,GX,simprocAttr,GDs]))) (fun hq => (LeR.of (by rw [hbl];decide) (by simp only [GA,↓GB,GX,simprocAttr,GDs];try (have := of_decide_eq_false hq;simp;omega)) (by simp only [GA,↓GB,GX,simprocAttr,GDs];try (have := of_decide_eq_false hq;simp;omega)) (by decide) (by simp only [GA,↓GB,GX,simprocAttr,GDs]) (by simp only [GA,↓GB,GX,simprocAttr,GDs]) (by simp only [GA,↓GB,GX,simprocAttr,GDs]))) ?_
      clear hN N
      repeat (refine SX.seqK ?_;intro N hN)
      refine SX.cond (b := true) rfl (fun hb => ?_) (fun hb => ?_)
      · repeat (refine SX.seqK ?_;intro N hN)
        refine SX.draw 5 (by rw [hP];kernel_rfl) (by kernel_rfl) ?_
        simp only [GA,↓GB,GX,simprocAttr,d_nil,d_cons,d_move,d_assign,d_load,d_slice,d_store,d_sto,d_sam,List.take_succ_cons,List.drop_succ_cons,List.drop_zero,List.take_zero,hnt,hT ,hw1,hw2,hown,List.not_mem_nil,not_false_eq_true]
        refine hN _ ?_
        clear hN N
        refine SX.ret (hK _ _ (Fin.res rfl hown ?_))
        simp only [GA,↓GB,GX,simprocAttr,f_a,f_b,f_n,f_c,f_B,f_v,f_g,f_0,f_1,f_2,hT,hwi]
        intro w' hb
        exact ⟨_,rfl,⟨0,0,0,[],s,ew,rfl,by omega,by rw [hT0];exact .inr rfl⟩,hb⟩
      · cases hb
    · have g1 : decide (4294967296 ≤ (tag : Int)) = false := by simp;omega
      have g2 : decide ((tag : Int) < 8) = false := by simp;omega
      have q1 : IntKind.u64.wrap ((tag : Int).tdiv 8) = ((tag / 8 : Nat) : Int) := by rw [Int.tdiv_eq_ediv_of_nonneg (by omega),wu64 (by omega) (by omega)];omega
      have q2 : IntKind.i64.wrap ((tag / 8 : Nat) : Int) = ((tag / 8 : Nat) : Int) := wi64 (by omega) (by omega)
      have q3 : (tag : Int).tmod 8 = ((tag % 8 : Nat) : Int) := by rw [Int.tmod_eq_emod_of_nonneg (by omega)];omega
      have q4 : IntKind.i64.wrap ((tag % 8 : Nat) : Int) = ((tag % 8 : Nat) : Int) := wi64 (by omega) (by omega)
      have hk8 : tag % 8 < 8 := Nat.mod_lt _ (by decide)
      refine calls_pureK (args := [.string (B s)]) w Tryz.func115 rfl Tryz.ntmps115 (by simp) ?_
      intro X K hX hK
      have hnt : X.nt = 107 := by rw [hX]
      have hwi : X.wi = w := by rw [hX]
      have hP : X.P = Tryz.prog := by rw [hX]
      have hown : X.own = [] := by rw [hX]
      have hbl : X.base.length = 0 := by rw [hX];rfl
      clear hX
      have hT := Ty.T115 hP
      rw [← hwi] at hw1 hw2
      repeat (refine SX.seqK ?_;intro N hN)
      refine SX.ops ?_
      simp only [GA,↓GB,GX,simprocAttr,hnt,hT]
      refine hN _ ?_
      clear hN N
      repeat (refine SX.seqK ?_;intro N hN)
      refine SX.ops ?_
      simp only [GA,↓GB,GX,simprocAttr,hnt,hT]
      refine CallVC.pt (l := [_,_,_]) hP (readVarint_any s (by omega)) rfl ?_
      simp only [GA,↓GB,GX,simprocAttr,hnt,hT,rvR_some h]
      refine hN _ ?_
      clear hN N
      repeat (refine SX.seqK ?_;intro N hN)
      refine SX.ops ?_
      simp only [GA,↓GB,GX,simprocAttr,hnt,hT]
      refine hN _ ?_
      clear hN N
      repeat (refine SX.seqK ?_;intro N hN)
      refine SX.cond (b := false) rfl (fun hb => ?_) (fun hb => ?_)
      · cases hb
      refine SX.skip (hN _ ?_);clear hN N
      repeat (refine SX.seqK ?_;intro N hN)
      refine SX.ops ?_
      simp only [GA,↓GB,GX,simprocAttr,hnt,hT ,g1,g2]
      refine hN _ ?_
      clear hN N
      repeat (refine SX.seqK ?_;intro N hN)
      refine SX.cond (b := false) rfl (fun hb => ?_) (fun hb => ?_)
      · cases hb
      refine SX.skip (hN _ ?_);clear hN N
      repeat (refine SX.seqK ?_;intro N hN)
      refine SX.ops ?_
      simp only [GA,↓GB,GX,simprocAttr,hnt,hT ,q1,q2,q3,q4]
      repeat (refine and_mk (by decide) ?_)
      have hdt : List.take (s.length - z) (List.drop z s) = List.drop z s := List.take_of_length_le (by simp)
      generalize hnum : tag / 8 = num at *
      generalize hkind : tag % 8 = kind at *
      refine SX.less (d := ⟨[(0,vv (.string (B s))),(2,.one (.c (.loc 0 0))),(6,vv (.int .i64 z))],[.cells [.v (.int .i64 num),.v (.int .i64 kind),.v (.int .u64 0),.v (.string ⟨#[]⟩)] 109]⟩) hN [0] (LeR.of (by rw [hbl];decide) (by simp only [GA,↓GB,GX,simprocAttr,GDs];try (rfl)) (by simp only [GA,↓GB,GX,simprocAttr,GDs];try (rfl)) (by decide) (by simp only [GA,↓GB,GX,simprocAttr,GDs]) (by simp only [GA,↓GB,GX,simprocAttr,GDs]) (by simp only [GA,↓GB,GX,simprocAttr,GDs])) ?_
      clear hN N
      repeat (refine SX.seqK ?_;intro N hN)
      refine SX.ops ?_
      simp only [GA,↓GB,GX,simprocAttr,hnt,hT ,hdt]
      repeat (refine and_mk (by omega) ?_)
      refine hN _ ?_
      clear hN N
      repeat (refine SX.seqK ?_;intro N hN)
      refine SX.ops ?_
      simp only [GA,↓GB,GX,simprocAttr,hnt,hT]
      refine CallVC.inline (by rw [hP];exact Tryz.func98) rfl Tryz.ntmps98 rfl (by simp) ?_
      have hP0 := hP
      intro X K hU hnt hbl hK
      have hP : X.P = Tryz.prog := (by rw [hU.P,hP0])
      have hT := Ty.T98 hP
      simp only [GA,↓GB,GX,simprocAttr] at hbl ⊢
      repeat (refine SX.seqK ?_;intro N hN)
      refine SX.ops ?_
      simp only [GA,↓GB,GX,simprocAttr,hnt,hT]
      refine hN _ ?_
      clear hN N
      repeat (refine SX.seqK ?_;intro N hN)
      refine SX.ops ?_
      simp only [GA,↓GB,GX,simprocAttr,hnt,hT]
      refine hN _ ?_
      clear hN N
      refine SX.ret (hK _ _ (FinI.ret3 ?_));simp only [GA,↓GB,GX,simprocAttr,finP_s,hnt,hT];clear hT hP hP0 hK hbl hnt hU K X
      refine hN _ ?_
      clear hN N
      generalize hs2 : List.drop z s = s2
      have hs2l : s2.length + z = s.length := by rw [← hs2];simp;omega
      by_cases hk1 : kind = 1
      · have k0 : ((kind : Int) == 0) = false := by rw [hk1];rfl
        have k1 : ((kind : Int) == 1) = true := by rw [hk1];rfl
        have k2 : ((kind : Int) == 2) = false := by rw [hk1];rfl
        repeat (refine SX.seqK ?_;intro N hN)
        refine SX.ops ?_
        simp only [GA,↓GB,GX,simprocAttr,hnt,hT ,k0,k1,k2]
        refine hN _ ?_
        clear hN N
        repeat (refine SX.seqK ?_;intro N hN)
        refine SX.ops ?_
        simp only [GA,↓GB,GX,simprocAttr,hnt,hT ,wu64]
        refine hN _ ?_
        clear hN N
        repeat (refine SX.seqK ?_;intro N hN)
        refine SX.ops ?_
        simp only [GA,↓GB,GX,simprocAttr,hnt,hT ,k0,k1,k2]
        refine hN _ ?_
        clear hN N
        repeat (refine SX.seqK ?_;intro N hN)
        refine SX.cond (b := false) rfl (fun hb => ?_) (fun hb => ?_)
        · cases hb
        refine SX.skip ?_
        simp only [GA,↓GB,GX,simprocAttr,hnt]
        refine hN _ ?_
        clear hN N
        refine SX.seqK ?_;intro N hN
        refine SX.block ?_
        repeat (refine SX.seqK ?_;intro N hN)
        refine SX.ops ?_
        simp only [GA,↓GB,GX,simprocAttr,hnt,hT]
        refine hN _ ?_
        clear hN N
        repeat (refine SX.seqK ?_;intro N hN)
        refine SX.cond (b := false) rfl (fun hb => ?_) (fun hb => ?_)
        · cases hb
        have wL : IntKind.u64.wrap 8 = 8 := by decide
        have wl : IntKind.u64.wrap (s2.length : Int) = (s2.length : Int) := wu64 (by omega) (by omega)
        by_cases hl : s2.length < 8
        · have dL : decide ((s2.length : Int) < 8) = true := by simp;omega
          have hT0 : NW.takeF s = none := by
            rw [NW.takeF,h];simp only [];rw [if_neg (by omega),hkind,hs2,hk1,hnum];simp [NW.body,hl];try omega
          repeat (refine SX.seqK ?_;intro N hN)
          refine SX.ops ?_
          simp only [GA,↓GB,GX,simprocAttr,hnt,hT ,wL,wl,dL]
          refine hN _ ?_
          clear hN N
          repeat (refine SX.seqK ?_;intro N hN)
          refine SX.cond (b := true) rfl (fun hb => ?_) (fun hb => ?_)
          · repeat (refine SX.seqK ?_;intro N hN)
            refine SX.draw 5 (by rw [hP];kernel_rfl) (by kernel_rfl) ?_
            simp only [GA,↓GB,GX,simprocAttr,d_nil,d_cons,d_move,d_assign,d_load,d_slice,d_store,d_sto,d_sam,List.take_succ_cons,List.drop_succ_cons,List.drop_zero,List.take_zero,hnt,hT ,hw1,hw2,hown,List.not_mem_nil,not_false_eq_true]
            refine hN _ ?_
            clear hN N
            refine SX.ret (hK _ _ (Fin.res rfl hown ?_))
            simp only [GA,↓GB,GX,simprocAttr,f_a,f_b,f_n,f_c,f_B,f_v,f_g,f_0,f_1,f_2,hT,hwi]
            intro w' hb
            exact ⟨_,rfl,⟨num,kind,0,[],s2,es,rfl,by rw [← hs2];simp,by rw [hT0];exact .inl rfl⟩,hb⟩
          · cases hb
        · have dL : decide ((s2.length : Int) < 8) = false := by simp;omega
          have hT1 : NW.takeF s = some (⟨num,kind,0,s2.take 8⟩,s2.drop 8) := by
            rw [NW.takeF,h];simp only [];rw [if_neg (by omega),hkind,hs2,hk1,hnum];simp [NW.body];omega
          repeat (refine SX.seqK ?_;intro N hN)
          refine SX.ops ?_
          simp only [GA,↓GB,GX,simprocAttr,hnt,hT ,wL,wl,dL]
          refine hN _ ?_
          clear hN N
          repeat (refine SX.seqK ?_;intro N hN)
          refine SX.cond (b := false) rfl (fun hb => ?_) (fun hb => ?_)
          · cases hb
          refine SX.skip ?_
          simp only [GA,↓GB,GX,simprocAttr,hnt]
          refine hN _ ?_
          clear hN N
          repeat (refine SX.seqK ?_;intro N hN)
          refine SX.ops ?_
          simp only [GA,↓GB,GX,simprocAttr,hnt,hT]
          repeat (refine and_mk (by omega) ?_)
          refine hN _ ?_
          clear hN N
          repeat (refine SX.seqK ?_;intro N hN)
          refine SX.draw 5 (by rw [hP];kernel_rfl) (by kernel_rfl) ?_
          simp only [GA,↓GB,GX,simprocAttr,d_nil,d_cons,d_move,d_assign,d_load,d_slice,d_store,d_sto,d_sam,List.take_succ_cons,List.drop_succ_cons,List.drop_zero,List.take_zero,hnt,hT ,hw1,hw2,hown,List.not_mem_nil,not_false_eq_true]
          repeat (refine and_mk (by omega) ?_)
          refine hN _ ?_
          clear hN N
          refine SX.ret (hK _ _ (Fin.res rfl hown ?_))
          simp only [GA,↓GB,GX,simprocAttr,f_a,f_b,f_n,f_c,f_B,f_v,f_g,f_0,f_1,f_2,hT,hwi]
          intro w' hb
          refine ⟨_,rfl,⟨num,kind,0,s2.take 8,s2.drop 8,.nilIface,?_,by rw [List.length_drop];omega,by rw [hT1];exact ⟨rfl,by simp [hk1],rfl,rfl,rfl,rfl⟩⟩,hb⟩
          rw [show List.take (s2.length - 8) (List.drop 8 s2) = s2.drop 8 from List.take_of_length_le (by simp)];rfl
      by_cases hk5 : kind = 5
      · have k0 : ((kind : Int) == 0) = false := by rw [hk5];rfl
        have k1 : ((kind : Int) == 1) = false := by rw [hk5];rfl
        have k5 : ((kind : Int) == 5) = true := by rw [hk5];rfl
        have k2 : ((kind : Int) == 2) = false := by rw [hk5];rfl
        repeat (refine SX.seqK ?_;intro N hN)
        refine SX.ops ?_
        simp only [GA,↓GB,GX,simprocAttr,hnt,hT ,k0,k1,k5,k2]
        refine hN _ ?_
        clear hN N
        repeat (refine SX.seqK ?_;intro N hN)
        refine SX.ops ?_
        simp only [GA,↓GB,GX,simprocAttr,hnt,hT ,wu64]
        refine hN _ ?_
        clear hN N
        repeat (refine SX.seqK ?_;intro N hN)
        refine SX.ops ?_
        simp only [GA,↓GB,GX,simprocAttr,hnt,hT ,k0,k1,k5,k2]
        refine hN _ ?_
        clear hN N
        repeat (refine SX.seqK ?_;intro N hN)
        refine SX.cond (b := false) rfl (fun hb => ?_) (fun hb => ?_)
        · cases hb
        refine SX.skip ?_
        simp only [GA,↓GB,GX,simprocAttr,hnt]
        refine hN _ ?_
        clear hN N
        refine SX.seqK ?_;intro N hN
        refine SX.block ?_
        repeat (refine SX.seqK ?_;intro N hN)
        refine SX.ops ?_
        simp only [GA,↓GB,GX,simprocAttr,hnt,hT]
        refine hN _ ?_
        clear hN N
        repeat (refine SX.seqK ?_;intro N hN)
        refine SX.cond (b := false) rfl (fun hb => ?_) (fun hb => ?_)
        · cases hb
        have wL : IntKind.u64.wrap 4 = 4 := by decide
        have wl : IntKind.u64.wrap (s2.length : Int) = (s2.length : Int) := wu64 (by omega) (by omega)
        by_cases hl : s2.length < 4
        · have dL : decide ((s2.length : Int) < 4) = true := by simp;omega
          have hT0 : NW.takeF s = none := by
            rw [NW.takeF,h];simp only [];rw [if_neg (by omega),hkind,hs2,hk5,hnum];simp [NW.body,hl];try omega
          repeat (refine SX.seqK ?_;intro N hN)
          refine SX.ops ?_
          simp only [GA,↓GB,GX,simprocAttr,hnt,hT ,wL,wl,dL]
          refine hN _ ?_
          clear hN N
          repeat (refine SX.seqK ?_;intro N hN)
          refine SX.cond (b := true) rfl (fun hb => ?_) (fun hb => ?_)
          · repeat (refine SX.seqK ?_;intro N hN)
            refine SX.draw 5 (by rw [hP];kernel_rfl) (by kernel_rfl) ?_
            simp only [GA,↓GB,GX,simprocAttr,d_nil,d_cons,d_move,d_assign,d_load,d_slice,d_store,d_sto,d_sam,List.take_succ_cons,List.drop_succ_cons,List.drop_zero,List.take_zero,hnt,hT ,hw1,hw2,hown,List.not_mem_nil,not_false_eq_true]
            refine hN _ ?_
            clear hN N
            refine SX.ret (hK _ _ (Fin.res rfl hown ?_))
            simp only [GA,↓GB,GX,simprocAttr,f_a,f_b,f_n,f_c,f_B,f_v,f_g,f_0,f_1,f_2,hT,hwi]
            intro w' hb
            exact ⟨_,rfl,⟨num,kind,0,[],s2,es,rfl,by rw [← hs2];simp,by rw [hT0];exact .inl rfl⟩,hb⟩
          · cases hb
        · have dL : decide ((s2.length : Int) < 4) = false := by simp;omega
          have hT1 : NW.takeF s = some (⟨num,kind,0,s2.take 4⟩,s2.drop 4) := by
            rw [NW.takeF,h];simp only [];rw [if_neg (by omega),hkind,hs2,hk5,hnum];simp [NW.body];omega
          repeat (refine SX.seqK ?_;intro N hN)
          refine SX.ops ?_
          simp only [GA,↓GB,GX,simprocAttr,hnt,hT ,wL,wl,dL]
          refine hN _ ?_
          clear hN N
          repeat (refine SX.seqK ?_;intro N hN)
          refine SX.cond (b := false) rfl (fun hb => ?_) (fun hb => ?_)
          · cases hb
          refine SX.skip ?_
          simp only [GA,↓GB,GX,simprocAttr,hnt]
          refine hN _ ?_
          clear hN N
          repeat (refine SX.seqK ?_;intro N hN)
          refine SX.ops ?_
          simp only [GA,↓GB,GX,simprocAttr,hnt,hT]
          repeat (refine and_mk (by omega) ?_)
          refine hN _ ?_
          clear hN N
          repeat (refine SX.seqK ?_;intro N hN)
          refine SX.draw 5 (by rw [hP];kernel_rfl) (by kernel_rfl) ?_
          simp only [GA,↓GB,GX,simprocAttr,d_nil,d_cons,d_move,d_assign,d_load,d_slice,d_store,d_sto,d_sam,List.take_succ_cons,List.drop_succ_cons,List.drop_zero,List.take_zero,hnt,hT ,hw1,hw2,hown,List.not_mem_nil,not_false_eq_true]
          repeat (refine and_mk (by omega) ?_)
          refine hN _ ?_
          clear hN N
          refine SX.ret (hK _ _ (Fin.res rfl hown ?_))
          simp only [GA,↓GB,GX,simprocAttr,f_a,f_b,f_n,f_c,f_B,f_v,f_g,f_0,f_1,f_2,hT,hwi]
          intro w' hb
          refine ⟨_,rfl,⟨num,kind,0,s2.take 4,s2.drop 4,.nilIface,?_,by rw [List.length_drop];omega,by rw [hT1];exact ⟨rfl,by simp [hk5],rfl,rfl,rfl,rfl⟩⟩,hb⟩
          rw [show List.take (s2.length - 4) (List.drop 4 s2) = s2.drop 4 from List.take_of_length_le (by simp)];rfl
      have k1 : ((kind : Int) == 1) = false := by simp;omega
      have k5 : ((kind : Int) == 5) = false := by simp;omega
      by_cases hk0 : kind = 0
      · have k0 : ((kind : Int) == 0) = true := by rw [hk0];rfl
        repeat (refine SX.seqK ?_;intro N hN)
        refine SX.ops ?_
        simp only [GA,↓GB,GX,simprocAttr,hnt,hT ,k0]
        refine hN _ ?_
        clear hN N
        repeat (refine SX.seqK ?_;intro N hN)
        refine SX.ops ?_
        simp only [GA,↓GB,GX,simprocAttr,hnt,hT]
        refine hN _ ?_
        clear hN N
        repeat (refine SX.seqK ?_;intro N hN)
        refine SX.ops ?_
        simp only [GA,↓GB,GX,simprocAttr,hnt,hT ,k0]
        refine hN _ ?_
        clear hN N
        repeat (refine SX.seqK ?_;intro N hN)
        refine SX.cond (b := true) rfl (fun hb => ?_) (fun hb => ?_)
        rotate_left
        · cases hb
        repeat (refine SX.seqK ?_;intro N hN)
        refine SX.ops ?_
        simp only [GA,↓GB,GX,simprocAttr,hnt,hT]
        refine CallVC.pt (l := [_,_,_]) hP (readVarint_any s2 (by omega)) rfl ?_
        cases h3 : NW.readVar s2 with
        | none =>
          have hT0 : NW.takeF s = none := by
            rw [NW.takeF,h];simp only [];rw [if_neg (by omega),hkind,hs2,hk0];simp [NW.body,h3]
          simp only [GA,↓GB,GX,simprocAttr,hnt,hT,rvR_none h3]
          refine hN _ ?_
          clear hN N
          repeat (refine SX.seqK ?_;intro N hN)
          refine SX.ops ?_
          simp only [GA,↓GB,GX,simprocAttr,hnt,hT]
          refine hN _ ?_
          clear hN N
          repeat (refine SX.seqK ?_;intro N hN)
          refine SX.cond (b := true) rfl (fun hb => ?_) (fun hb => ?_)
          · repeat (refine SX.seqK ?_;intro N hN)
            refine SX.draw 5 (by rw [hP];kernel_rfl) (by kernel_rfl) ?_
            simp only [GA,↓GB,GX,simprocAttr,d_nil,d_cons,d_move,d_assign,d_load,d_slice,d_store,d_sto,d_sam,List.take_succ_cons,List.drop_succ_cons,List.drop_zero,List.take_zero,hnt,hT ,hw1,hw2,hown,List.not_mem_nil,not_false_eq_true]
            refine hN _ ?_
            clear hN N
            refine SX.ret (hK _ _ (Fin.res rfl hown ?_))
            simp only [GA,↓GB,GX,simprocAttr,f_a,f_b,f_n,f_c,f_B,f_v,f_g,f_0,f_1,f_2,hT,hwi]
            intro w' hb
            exact ⟨_,rfl,⟨num,kind,0,[],s2,es,rfl,by omega,by rw [hT0];exact .inl rfl⟩,hb⟩
          · cases hb
        | some vz =>
          obtain ⟨v,z2⟩ := vz
          have hz2 := NW.readVar_bd h3
          have hv := NW.readVar_lt h3
          simp only at hz2 hv
          have hdt2 : List.take (s2.length - z2) (List.drop z2 s2) = List.drop z2 s2 := List.take_of_length_le (by simp)
          simp only [GA,↓GB,GX,simprocAttr,hnt,hT,rvR_some h3]
          refine hN _ ?_
          clear hN N
          repeat (refine SX.seqK ?_;intro N hN)
          refine SX.ops ?_
          simp only [GA,↓GB,GX,simprocAttr,hnt,hT]
          refine hN _ ?_
          clear hN N
          repeat (refine SX.seqK ?_;intro N hN)
          refine SX.cond (b := false) rfl (fun hb => ?_) (fun hb => ?_)
          · cases hb
          refine SX.skip (hN _ ?_);clear hN N
          repeat (refine SX.seqK ?_;intro N hN)
          refine SX.ops ?_
          simp only [GA,↓GB,GX,simprocAttr,hnt,hT ,hdt2]
          repeat (refine and_mk (by omega) ?_)
          refine hN _ ?_
          clear hN N
          generalize hs3 : List.drop z2 s2 = s3
          have hs3l : s3.length + z2 = s2.length := by rw [← hs3];simp;omega
          have wl : IntKind.u64.wrap (s3.length : Int) = (s3.length : Int) := wu64 (by omega) (by omega)
          repeat (refine SX.seqK ?_;intro N hN)
          refine SX.ops ?_
          simp only [GA,↓GB,GX,simprocAttr,hnt,hT ,k0]
          refine hN _ ?_
          clear hN N
          repeat (refine SX.seqK ?_;intro N hN)
          refine SX.cond (b := true) rfl (fun hb => ?_) (fun hb => ?_)
          rotate_left
          · cases hb
          have hT1 : NW.takeF s = some (⟨num,kind,v,[]⟩,s3) := by
            rw [NW.takeF,h];simp only [];rw [if_neg (by omega),hkind,hs2,hk0,hnum];simp [NW.body,h3,hs3]
          have dL : decide ((s3.length : Int) < 0) = false := by simp
          have w0 : IntKind.u64.wrap 0 = 0 := by decide
          repeat (refine SX.seqK ?_;intro N hN)
          refine SX.ops ?_
          simp only [GA,↓GB,GX,simprocAttr,hnt,hT]
          refine hN _ ?_
          clear hN N
          refine SX.seqK ?_;intro N hN
          refine SX.block ?_
          repeat (refine SX.seqK ?_;intro N hN)
          refine SX.ops ?_
          simp only [GA,↓GB,GX,simprocAttr,hnt,hT]
          refine hN _ ?_
          clear hN N
          repeat (refine SX.seqK ?_;intro N hN)
          refine SX.cond (b := false) rfl (fun hb => ?_) (fun hb => ?_)
          · cases hb
          repeat (refine SX.seqK ?_;intro N hN)
          refine SX.ops ?_
          simp only [GA,↓GB,GX,simprocAttr,hnt,hT ,w0,wl,dL]
          refine hN _ ?_
          clear hN N
          repeat (refine SX.seqK ?_;intro N hN)
          refine SX.cond (b := false) rfl (fun hb => ?_) (fun hb => ?_)
          · cases hb
          refine SX.skip ?_
          simp only [GA,↓GB,GX,simprocAttr,hnt]
          refine hN _ ?_
          clear hN N
          repeat (refine SX.seqK ?_;intro N hN)
          refine SX.ops ?_
          simp only [GA,↓GB,GX,simprocAttr,hnt,hT]
          repeat (refine and_mk (by omega) ?_)
          refine hN _ ?_
          clear hN N
          repeat (refine SX.seqK ?_;intro N hN)
          refine SX.draw 5 (by rw [hP];kernel_rfl) (by kernel_rfl) ?_
          simp only [GA,↓GB,GX,simprocAttr,d_nil,d_cons,d_move,d_assign,d_load,d_slice,d_store,d_sto,d_sam,List.take_succ_cons,List.drop_succ_cons,List.drop_zero,List.take_zero,hnt,hT ,hw1,hw2,hown,List.not_mem_nil,not_false_eq_true]
          repeat (refine and_mk (by omega) ?_)
          refine hN _ ?_
          clear hN N
          refine SX.ret (hK _ _ (Fin.res rfl hown ?_))
          simp only [GA,↓GB,GX,simprocAttr,f_a,f_b,f_n,f_c,f_B,f_v,f_g,f_0,f_1,f_2,hT,hwi]
          intro w' hb
          refine ⟨_,rfl,⟨num,kind,v,[],s3,.nilIface,?_,by omega,by rw [hT1];exact ⟨rfl,by simp [hk0],rfl,rfl,rfl,rfl⟩⟩,hb⟩
          rw [show List.take (s3.length - 0) s3 = s3 from by simp]
      have k0 : ((kind : Int) == 0) = false := by simp;omega
      by_cases hk2 : kind = 2
      · have k2 : ((kind : Int) == 2) = true := by rw [hk2];rfl
        repeat (refine SX.seqK ?_;intro N hN)
        refine SX.ops ?_
        simp only [GA,↓GB,GX,simprocAttr,hnt,hT ,k0,k1,k5]
        refine hN _ ?_
        clear hN N
        repeat (refine SX.seqK ?_;intro N hN)
        refine SX.ops ?_
        simp only [GA,↓GB,GX,simprocAttr,hnt,hT]
        refine hN _ ?_
        clear hN N
        repeat (refine SX.seqK ?_;intro N hN)
        refine SX.ops ?_
        simp only [GA,↓GB,GX,simprocAttr,hnt,hT ,k0,k2]
        refine hN _ ?_
        clear hN N
        repeat (refine SX.seqK ?_;intro N hN)
        refine SX.cond (b := true) rfl (fun hb => ?_) (fun hb => ?_)
        rotate_left
        · cases hb
        repeat (refine SX.seqK ?_;intro N hN)
        refine SX.ops ?_
        simp only [GA,↓GB,GX,simprocAttr,hnt,hT]
        refine CallVC.pt (l := [_,_,_]) hP (readVarint_any s2 (by omega)) rfl ?_
        cases h3 : NW.readVar s2 with
        | none =>
          have hT0 : NW.takeF s = none := by
            rw [NW.takeF,h];simp only [];rw [if_neg (by omega),hkind,hs2,hk2];simp [NW.body,h3]
          simp only [GA,↓GB,GX,simprocAttr,hnt,hT,rvR_none h3]
          refine hN _ ?_
          clear hN N
          repeat (refine SX.seqK ?_;intro N hN)
          refine SX.ops ?_
          simp only [GA,↓GB,GX,simprocAttr,hnt,hT]
          refine hN _ ?_
          clear hN N
          repeat (refine SX.seqK ?_;intro N hN)
          refine SX.cond (b := true) rfl (fun hb => ?_) (fun hb => ?_)
          · repeat (refine SX.seqK ?_;intro N hN)
            refine SX.draw 5 (by rw [hP];kernel_rfl) (by kernel_rfl) ?_
            simp only [GA,↓GB,GX,simprocAttr,d_nil,d_cons,d_move,d_assign,d_load,d_slice,d_store,d_sto,d_sam,List.take_succ_cons,List.drop_succ_cons,List.drop_zero,List.take_zero,hnt,hT ,hw1,hw2,hown,List.not_mem_nil,not_false_eq_true]
            refine hN _ ?_
            clear hN N
            refine SX.ret (hK _ _ (Fin.res rfl hown ?_))
            simp only [GA,↓GB,GX,simprocAttr,f_a,f_b,f_n,f_c,f_B,f_v,f_g,f_0,f_1,f_2,hT,hwi]
            intro w' hb
            exact ⟨_,rfl,⟨num,kind,0,[],s2,es,rfl,by omega,by rw [hT0];exact .inl rfl⟩,hb⟩
          · cases hb
        | some vz =>
          obtain ⟨v,z2⟩ := vz
          have hz2 := NW.readVar_bd h3
          have hv := NW.readVar_lt h3
          simp only at hz2 hv
          have hdt2 : List.take (s2.length - z2) (List.drop z2 s2) = List.drop z2 s2 := List.take_of_length_le (by simp)
          simp only [GA,↓GB,GX,simprocAttr,hnt,hT,rvR_some h3]
          refine hN _ ?_
          clear hN N
          repeat (refine SX.seqK ?_;intro N hN)
          refine SX.ops ?_
          simp only [GA,↓GB,GX,simprocAttr,hnt,hT]
          refine hN _ ?_
          clear hN N
          repeat (refine SX.seqK ?_;intro N hN)
          refine SX.cond (b := false) rfl (fun hb => ?_) (fun hb => ?_)
          · cases hb
          refine SX.skip (hN _ ?_);clear hN N
          repeat (refine SX.seqK ?_;intro N hN)
          refine SX.ops ?_
          simp only [GA,↓GB,GX,simprocAttr,hnt,hT ,hdt2]
          repeat (refine and_mk (by omega) ?_)
          refine hN _ ?_
          clear hN N
          generalize hs3 : List.drop z2 s2 = s3
          have hs3l : s3.length + z2 = s2.length := by rw [← hs3];simp;omega
          have wl : IntKind.u64.wrap (s3.length : Int) = (s3.length : Int) := wu64 (by omega) (by omega)
          repeat (refine SX.seqK ?_;intro N hN)
          refine SX.ops ?_
          simp only [GA,↓GB,GX,simprocAttr,hnt,hT ,k0]
          refine hN _ ?_
          clear hN N
          repeat (refine SX.seqK ?_;intro N hN)
          refine SX.cond (b := false) rfl (fun hb => ?_) (fun hb => ?_)
          · cases hb
          repeat (refine SX.seqK ?_;intro N hN)
          refine SX.ops ?_
          simp only [GA,↓GB,GX,simprocAttr,hnt,hT]
          refine hN _ ?_
          clear hN N
          refine SX.seqK ?_;intro N hN
          refine SX.block ?_
          repeat (refine SX.seqK ?_;intro N hN)
          refine SX.ops ?_
          simp only [GA,↓GB,GX,simprocAttr,hnt,hT]
          refine hN _ ?_
          clear hN N
          repeat (refine SX.seqK ?_;intro N hN)
          refine SX.cond (b := false) rfl (fun hb => ?_) (fun hb => ?_)
          · cases hb
          by_cases hl : s3.length < v
          · have dL : decide ((s3.length : Int) < (v : Int)) = true := by simp;omega
            have hT0 : NW.takeF s = none := by
              rw [NW.takeF,h];simp only [];rw [if_neg (by omega),hkind,hs2,hk2];simp [NW.body,h3,hs3];omega
            repeat (refine SX.seqK ?_;intro N hN)
            refine SX.ops ?_
            simp only [GA,↓GB,GX,simprocAttr,hnt,hT ,wl,dL]
            refine hN _ ?_
            clear hN N
            repeat (refine SX.seqK ?_;intro N hN)
            refine SX.cond (b := true) rfl (fun hb => ?_) (fun hb => ?_)
            · repeat (refine SX.seqK ?_;intro N hN)
              refine SX.draw 5 (by rw [hP];kernel_rfl) (by kernel_rfl) ?_
              simp only [GA,↓GB,GX,simprocAttr,d_nil,d_cons,d_move,d_assign,d_load,d_slice,d_store,d_sto,d_sam,List.take_succ_cons,List.drop_succ_cons,List.drop_zero,List.take_zero,hnt,hT ,hw1,hw2,hown,List.not_mem_nil,not_false_eq_true]
              refine hN _ ?_
              clear hN N
              refine SX.ret (hK _ _ (Fin.res rfl hown ?_))
              simp only [GA,↓GB,GX,simprocAttr,f_a,f_b,f_n,f_c,f_B,f_v,f_g,f_0,f_1,f_2,hT,hwi]
              intro w' hb
              exact ⟨_,rfl,⟨num,kind,0,[],s3,es,rfl,by omega,by rw [hT0];exact .inl rfl⟩,hb⟩
            · cases hb
          · have dL : decide ((s3.length : Int) < (v : Int)) = false := by simp;omega
            have hT1 : NW.takeF s = some (⟨num,kind,0,s3.take v⟩,s3.drop v) := by
              rw [NW.takeF,h];simp only [];rw [if_neg (by omega),hkind,hs2,hk2,hnum];simp [NW.body,h3,hs3];omega
            repeat (refine SX.seqK ?_;intro N hN)
            refine SX.ops ?_
            simp only [GA,↓GB,GX,simprocAttr,hnt,hT ,wl,dL]
            refine hN _ ?_
            clear hN N
            repeat (refine SX.seqK ?_;intro N hN)
            refine SX.cond (b := false) rfl (fun hb => ?_) (fun hb => ?_)
            · cases hb
            refine SX.skip ?_
            simp only [GA,↓GB,GX,simprocAttr,hnt]
            refine hN _ ?_
            clear hN N
            repeat (refine SX.seqK ?_;intro N hN)
            refine SX.ops ?_
            simp only [GA,↓GB,GX,simprocAttr,hnt,hT]
            repeat (refine and_mk (by omega) ?_)
            refine hN _ ?_
            clear hN N
            repeat (refine SX.seqK ?_;intro N hN)
            refine SX.draw 5 (by rw [hP];kernel_rfl) (by kernel_rfl) ?_
            simp only [GA,↓GB,GX,simprocAttr,d_nil,d_cons,d_move,d_assign,d_load,d_slice,d_store,d_sto,d_sam,List.take_succ_cons,List.drop_succ_cons,List.drop_zero,List.take_zero,hnt,hT ,hw1,hw2,hown,List.not_mem_nil,not_false_eq_true]
            repeat (refine and_mk (by omega) ?_)
            refine hN _ ?_
            clear hN N
            refine SX.ret (hK _ _ (Fin.res rfl hown ?_))
            simp only [GA,↓GB,GX,simprocAttr,f_a,f_b,f_n,f_c,f_B,f_v,f_g,f_0,f_1,f_2,hT,hwi]
            intro w' hb
            refine ⟨_,rfl,⟨num,kind,0,s3.take v,s3.drop v,.nilIface,?_,by rw [List.length_drop];omega,by rw [hT1];exact ⟨rfl,by simp [hk2],rfl,rfl,rfl,rfl⟩⟩,hb⟩
            rw [show List.take (s3.length - v) (List.drop v s3) = s3.drop v from List.take_of_length_le (by simp)];simp
      have k2 : ((kind : Int) == 2) = false := by simp;omega
      have hT0 : NW.takeF s = none := by
        rw [NW.takeF,h];simp only [];rw [if_neg (by omega),hkind,hs2];simp [NW.body,hk0,hk1,hk2,hk5]
      repeat (refine SX.seqK ?_;intro N hN)
      refine SX.ops ?_
      simp only [GA,↓GB,GX,simprocAttr,hnt,hT ,k0,k1,k5]
      refine hN _ ?_
      clear hN N
      repeat (refine SX.seqK ?_;intro N hN)
      refine SX.ops ?_
      simp only [GA,↓GB,GX,simprocAttr,hnt,hT]
      refine hN _ ?_
      clear hN N
      repeat (refine SX.seqK ?_;intro N hN)
      refine SX.ops ?_
      simp only [GA,↓GB,GX,simprocAttr,hnt,hT ,k0,k2]
      refine hN _ ?_
      clear hN N
      repeat (refine SX.seqK ?_;intro N hN)
      refine SX.cond (b := false) rfl (fun hb => ?_) (fun hb => ?_)
      · cases hb
      refine SX.skip ?_
      simp only [GA,↓GB,GX,simprocAttr,hnt]
      refine hN _ ?_
      clear hN N
      refine SX.seqK ?_;intro N hN
      refine SX.block ?_
      repeat (refine SX.seqK ?_;intro N hN)
      refine SX.ops ?_
      simp only [GA,↓GB,GX,simprocAttr,hnt,hT]
      refine hN _ ?_
      clear hN N
      repeat (refine SX.seqK ?_;intro N hN)
      refine SX.cond (b := true) rfl (fun hb => ?_) (fun hb => ?_)
      · repeat (refine SX.seqK ?_;intro N hN)
        refine SX.draw 5 (by rw [hP];kernel_rfl) (by kernel_rfl) ?_
        simp only [GA,↓GB,GX,simprocAttr,d_nil,d_cons,d_move,d_assign,d_load,d_slice,d_store,d_sto,d_sam,List.take_succ_cons,List.drop_succ_cons,List.drop_zero,List.take_zero,hnt,hT ,hw1,hw2,hown,List.not_mem_nil,not_false_eq_true]
        refine hN _ ?_
        clear hN N
        refine SX.ret (hK _ _ (Fin.res rfl hown ?_))
        simp only [GA,↓GB,GX,simprocAttr,f_a,f_b,f_n,f_c,f_B,f_v,f_g,f_0,f_1,f_2,hT,hwi]
        intro w' hb
        exact ⟨_,rfl,⟨num,kind,0,[],s2,ew,rfl,by omega,by rw [hT0];exact .inr rfl⟩,hb⟩
      · cases hb
end Go.Proofs.YtbdacbcpniegiaaGreatDoor
namespace Go.Proofs.YtbdacbcpniegiaaGreatDoor
open Go Go.RowKit Go.Shelf Go.Proofs
open Go.Sx (B)
attribute [local go_sem] Oper.semAt_some
inductive It where
  | f (x : NW.Fld)
  | bad (num kind : Int) (n : Nat) (fs : List UInt8) (p : Int) (short : Bool)
structure Errs (w : World) (a0 a1 : Addr) : Prop where
  c0 : w.cell? ⟨2,0,none⟩ = some (.iface 211 (.pointer (some a0)))
  c1 : w.cell? ⟨3,0,none⟩ = some (.iface 211 (.pointer (some a1)))
  ne : a0 ≠ a1
  h0 : ∃ cs t,w.heap[a0.block]? = some (.cells cs t (0,0))
  h1 : ∃ cs t,w.heap[a1.block]? = some (.cells cs t (0,0))
theorem Errs.below {w w' : World} {a0 a1 : Addr} (h : Errs w a0 a1) (hb : Below w.heap.size w w') : Errs w' a0 a1 := by
  obtain ⟨c0,t0,h0⟩ := h.h0
  obtain ⟨c1,t1,h1⟩ := h.h1
  refine ⟨?_,?_,h.ne,⟨c0,t0,?_⟩,⟨c1,t1,?_⟩⟩
  · rw [hb.cell (p := ⟨2,0,none⟩) (World.block_lt_of_cell? w _ h.c0)];exact h.c0
  · rw [hb.cell (p := ⟨3,0,none⟩) (World.block_lt_of_cell? w _ h.c1)];exact h.c1
  · rw [hb.block _ (Array.getElem?_eq_some_iff.1 h0).1];exact h0
  · rw [hb.block _ (Array.getElem?_eq_some_iff.1 h1).1];exact h1
theorem Errs.wire {w : World} {a0 a1 : Addr} (h : Errs w a0 a1) : Wire w (.iface 211 (.pointer (some a0))) (.iface 211 (.pointer (some a1))) := ⟨h.c0,h.c1,rfl,rfl⟩
def It.encs (a0 a1 : Addr) : It → Array Value
  | .f x => #[.agg #[.int .i64 x.num,.int .i64 x.kind,.int .u64 x.n,.string (B x.s)],.nilIface]
  | .bad num kind n fs p short => #[.agg #[.int .i64 num,.int .i64 kind,.int .u64 n,.string (B fs)],.iface 187 (.agg #[.int .i64 p,.iface 211 (.pointer (some (if short then a0 else a1)))])]
def It.Ok (m : Nat) : It → Prop
  | .f x => x.s.length ≤ m
  | .bad .. => True
theorem takeF_slen {p : List UInt8} {f : NW.Fld} {r : List UInt8} (h : NW.takeF p = some (f,r)) : f.s.length ≤ p.length := by
  unfold NW.takeF at h
  split at h
  · cases h
  · rename_i tag z hr
    split at h
    · cases h
    · split at h
      · cases h
      · rename_i n size r' hb
        split at h
        · cases h
          have := NW.body_len hb
          simp only [List.length_take,List.length_drop] at this ⊢
          omega
        · cases h
structure Stab (b : Nat) (j : World → Prop) : Prop where
  below : ∀ W W',j W → Below W.heap.size W W' → j W'
  cell : ∀ W v,j W → j (W.setCell ⟨b,0,none⟩ v)
theorem cell_of_heap {W : World} {b : Nat} {v : Value} {t : TypeId} {r : Nat × Nat} (h : W.heap[b]? = some (.cells #[v] t r)) : W.cell? ⟨b,0,none⟩ = some v := by
  rw [cell_of_row W b 0 #[v] t r h];rfl
theorem frozen_of_heap {W : World} {b : Nat} {cs : Array Value} {t : TypeId} (h : W.heap[b]? = some (.cells cs t (0,0))) : W.frozen? ⟨b,0,none⟩ = false := by
  simp [World.frozen?,h]
theorem setCell_one {W : World} {b : Nat} {u v : Value} {t : TypeId} (h : W.heap[b]? = some (.cells #[u] t (0,0))) : (W.setCell ⟨b,0,none⟩ v).heap[b]? = some (.cells #[v] t (0,0)) := by
  simp only [World.setCell,Array.getElem?_modify,h];simp
def leftS (b : Nat) (W : World) : Nat := match W.cell? ⟨b,0,none⟩ with | some (.string s) => s.size | _ => 0
theorem fields1_any (w0 : World) (a0 a1 : Addr) (hE : Errs w0 a0 a1) (s0 : List UInt8) (hs : s0.length ≤ 1152921504606846976) (l b n : Nat) (hb : w0.heap.size ≤ b) (J Jx : List It → World → Prop)
    (hJ : ∀ pre,Stab b (J pre)) (hJw : ∀ pre W,J pre W → Below w0.heap.size w0 W)
    (hY : ∀ pre x W,J pre W → pre.length < s0.length → It.Ok s0.length x → YieldAt Fence.wide (n - 1) Tryz.prog l (It.encs a0 a1 x) W fun e W' => (e = .returned (.bool true) ∧ J (pre ++ [x]) W' ∧ W'.heap[b]? = W.heap[b]?) ∨ (e = .returned (.bool false) ∧ Jx (pre ++ [x]) W'))
    (W : World) (hc : W.heap[b]? = some (.cells #[.string (B s0)] 9 (0,0))) (h0 : J [] W) :
    CallsIn Fence.wide n Tryz.prog 114 #[.func (.yield l) #[] #[],.pointer (some ⟨b,0,none⟩)] W fun e W' => (∃ v,e = .returned v) ∧
      ((∃ fs,NW.parse s0 = some fs ∧ J (fs.map It.f) W') ∨ (NW.parse s0 = none ∧ ∃ pre nm k nn fs p sh,J (pre ++ [It.bad nm k nn fs p sh]) W') ∨ ∃ pre x,Jx (pre ++ [x]) W' ∧ (NW.parse s0 = none ∨ ∃ f,x = .f f)) := by
  refine callsIn_of_wp Tryz.func114 rfl trivial ?_ rfl
  simp only [Tryz.ntmps114,List.size_toArray,List.length_cons,List.length_nil,Nat.reduceAdd,Nat.reduceSub,Array.replicate_succ,Array.replicate_zero,List.push_toArray,List.append_toArray,List.nil_append,List.cons_append]
  have hcc := cell_of_heap hc
  gi_wp2
  gi_loopw [4] (fun q wr => ∃ (pre : List NW.Fld) (rest : List UInt8),NW.parse s0 = (NW.parse rest).map (pre ++ ·) ∧ wr.heap[b]? = some (.cells #[.string (B rest)] 9 (0,0)) ∧ J (pre.map It.f) wr ∧ pre.length + rest.length ≤ s0.length) (fun q wr => leftS b wr)
  case atStart => exact ⟨[],s0,by simp,hc,h0,by simp⟩
  case round =>
    obtain ⟨pre,rest,hp,hcr,hJr,hlr⟩ := hrel
    have hcc := cell_of_heap hcr
    have hE' := hE.below (hJw _ _ hJr)
    by_cases he : rest = []
    · subst he
      gi_wp2
      · exact absurd (show (!(B []).toList.isEmpty) = true by assumption) (by rw [Go.Sx.B_toList];decide)
      · go_end0
        exact ⟨⟨_,rfl⟩,.inl ⟨pre,by rw [hp,NW.parse_nil];simp,hJr⟩⟩
    · have hpos : (pre.map It.f).length < s0.length := by rw [List.length_map];have := List.length_pos_iff.2 he;omega
      have hT := take_any rest (by omega) wr _ _ hE'.wire
      have hne : (B rest).toList.isEmpty = false := by rw [Go.Sx.B_toList];cases rest with | nil => exact absurd rfl he | cons _ _ => rfl
      cases ht : NW.takeF rest with
      | none =>
        have hP0 : NW.parse s0 = none := by rw [hp,NW.parse_none he ht];rfl
        gi_wp2_with (refine ⟨trivial,fun h => (by cases h),?_⟩;refine (callsIn_wide.2 hT).mono ?_;rintro e W2 ⟨v,rfl,⟨num,kind,nn,fs,r,ev,rfl,hrl,hm⟩,hb2⟩;rw [ht] at hm;have hcc2 : W2.cell? ⟨b,0,none⟩ = some (.string (B rest)) := (hb2.cell (p := ⟨b,0,none⟩) (World.block_lt_of_cell? wr _ hcc)).trans hcc;have hlt2 := World.block_lt_of_cell? W2 _ hcc2;have hJ3 := (hJ (pre.map It.f)).below _ _ ((hJ _).below _ _ hJr hb2) ((Below.refl W2.heap.size W2).alloc (Nat.le_refl _) (Obj.cells #[Value.int IntKind.i64 num,Value.int IntKind.i64 kind,Value.int IntKind.u64 ↑nn,Value.string (B fs)] 109));rcases hm with rfl | rfl;(focus obtain ⟨fn,tmps,assign,body,hy,hR⟩ := hY _ (It.bad num kind nn fs (wrap64 (((B s0).size : Int) - ((B rest).size : Int))) true) _ hJ3 hpos trivial;dsimp only [It.encs] at hy;simp only [if_true] at hy);rotate_left;(focus obtain ⟨fn,tmps,assign,body,hy,hR⟩ := hY _ (It.bad num kind nn fs (wrap64 (((B s0).size : Int) - ((B rest).size : Int))) false) _ hJ3 hpos trivial;dsimp only [It.encs] at hy;simp only [Bool.false_eq_true,if_false] at hy))
        all_goals (refine ⟨fun h => (by cases h),hR.mono ?_⟩;rintro e W' (⟨rfl,hJ',hk⟩ | ⟨rfl,hJx'⟩))
        all_goals (gi_wp2;refine bodyPost_ret (results_none rfl _ _ _) rfl ?_)
        all_goals first
          | exact ⟨⟨_,rfl⟩,.inr (.inl ⟨hP0,_,_,_,_,_,_,_,hJ'⟩)⟩
          | exact ⟨⟨_,rfl⟩,.inr (.inr ⟨_,_,hJx',.inl hP0⟩)⟩
      | some fr =>
        obtain ⟨f,r'⟩ := fr
        have hP1 := NW.parse_some ht
        have hl := NW.takeF_len ht
        have hfl := takeF_slen ht
        gi_wp2_with (refine ⟨trivial,fun h => (by cases h),?_⟩;refine (callsIn_wide.2 hT).mono ?_;rintro e W2 ⟨v,rfl,⟨num,kind,nn,fs,r,ev,rfl,hrl,hm⟩,hb2⟩;rw [ht] at hm;have hcc2 : W2.cell? ⟨b,0,none⟩ = some (.string (B rest)) := (hb2.cell (p := ⟨b,0,none⟩) (World.block_lt_of_cell? wr _ hcc)).trans hcc;have hlt2 := World.block_lt_of_cell? W2 _ hcc2;obtain ⟨rfl,rfl,rfl,rfl,rfl,rfl⟩ := hm;have hJ3 := (hJ (pre.map It.f)).below _ _ ((hJ _).below _ _ hJr hb2) ((Below.refl W2.heap.size W2).alloc (Nat.le_refl _) (Obj.cells #[Value.int IntKind.i64 ↑f.num,Value.int IntKind.i64 ↑f.kind,Value.int IntKind.u64 ↑f.n,Value.string (B f.s)] 109));obtain ⟨fn,tmps,assign,body,hy,hR⟩ := hY _ (It.f f) _ hJ3 hpos (show f.s.length ≤ s0.length by omega);dsimp only [It.encs] at hy)
        refine ⟨fun h => (by cases h),hR.mono ?_⟩
        rintro e W' (⟨rfl,hJ',hk⟩ | ⟨rfl,hJx'⟩)
        · have hc3 : W'.heap[b]? = some (.cells #[.string (B rest)] 9 (0,0)) := by
            rw [hk,Below.heap_alloc _ _ _ hlt2,hb2.block _ (Array.getElem?_eq_some_iff.1 hcr).1];exact hcr
          have hcc3 := cell_of_heap hc3
          have hf3 := frozen_of_heap hc3
          have hs3 := setCell_one (v := .string (B r)) hc3
          have hl1 := cell_of_heap hs3
          gi_wp2
          refine ⟨⟨pre ++ [f],r,?_,hs3,?_,by simp;omega⟩,?_⟩
          · rw [hp,hP1];cases NW.parse r <;> simp
          · rw [List.map_append];exact (hJ _).cell _ _ hJ'
          · unfold leftS
            rw [hl1,hcc]
            show (B r).size < (B rest).size
            rw [Go.Sx.B_size,Go.Sx.B_size];omega
        · gi_wp2
          refine bodyPost_ret (results_none rfl _ _ _) rfl ?_
          exact ⟨⟨_,rfl⟩,.inr (.inr ⟨_,_,hJx',.inr ⟨f,rfl⟩⟩)⟩
end Go.Proofs.YtbdacbcpniegiaaGreatDoor
namespace Go.Proofs.YtbdacbcpniegiaaGreatDoor
open Go Go.RowKit Go.Shelf Go.Proofs
open Go.Sx (B)
structure StabL (B b : Nat) (j : World → Prop) : Prop where
  stab : Stab b j
  put : ∀ W k o o',B ≤ k → W.heap[k]? = some o → o.isCells = false → j W → j (W.putObj k o')
def postR {α : Type} (b : Nat) (I Ix : List α → World → Prop) (xs : List α) (W : World) : Exit → Act → World → Prop
  | .normal,_,W' => KeepsOthers W W' ∧ W'.heap[b]? = W.heap[b]? ∧ I xs W'
  | .ret,_,W' => KeepsOthers W W' ∧ Ix xs W'
  | _,_,_ => False
theorem wp_rangeS {α : Type} {n : Nat} {P : Program} {g : Operand} {ps : Array Tmp} {assign body : Code} {Q : Exit → Act → World → Prop} {a : Act} {w : World} {gf b : Nat} {lb : Array Value}
    (hg : a.eval g = .func (.func gf) #[] lb) (eg : ∀ args w,(callFunc gf args).run P w = .ok (.enter gf args) w) {encs : α → Array Value} (hps : ∀ x,(encs x).size = ps.size) (hb : b < w.heap.size)
    (I Ix : List α → World → Prop) (hI : ∀ pre,StabL w.heap.size b (I pre)) (hIx : ∀ pre,StabL w.heap.size b (Ix pre)) (h0 : I [] w) {S Sp : List α → Prop} {N : Nat} {G : α → Prop}
    (hit : ∀ (l : Nat) (J Jx : List α → World → Prop),(∀ pre,Stab b (J pre)) → (∀ pre W,J pre W → I pre W) →
      (∀ pre x W,J pre W → pre.length < N → G x → YieldAt Fence.wide (n - 1 - 1) P l (encs x) W fun e W' => (e = .returned (.bool true) ∧ J (pre ++ [x]) W' ∧ W'.heap[b]? = W.heap[b]?) ∨ (e = .returned (.bool false) ∧ Jx (pre ++ [x]) W')) →
      ∀ W,W.heap[b]? = w.heap[b]? → J [] W → CallsIn Fence.wide (n - 1) P gf (#[.func (.yield l) #[] #[]] ++ lb) W fun e W' => (∃ v,e = .returned v) ∧ ((∃ xs,S xs ∧ J xs W') ∨ ∃ xs,Sp xs ∧ Jx xs W'))
    (hround : ∀ (l : Nat) (pre : List α) (x : α) (W : World),I pre W → pre.length < N → G x → w.heap.size ≤ l → (∃ o : Obj,W.heap[l]? = some o ∧ o.isCells = false) → assign.wpIn (Fence.wide.inRound l) (n - 1 - 1) P
      (Exit.then (fun a₁ W1 => Below W.heap.size W W1 ∧ ∀ W2,W2.heap.size = W1.heap.size → (∀ k,k ≠ l → W2.heap[k]? = W1.heap[k]?) → I pre W2 → body.wpIn (Fence.wide.inRound l) (n - 1 - 1) P (postR b I Ix (pre ++ [x]) W2) a₁ W2) (fun _ _ _ => False))
      { tmps := (ps.zip (encs x)).foldl (fun t (p,v) => t.setIfInBounds p v) a.tmps,defers := [] } W)
    (hdone : ∀ xs W,S xs → I xs W → W.heap[w.heap.size]? = some (.deferred (some [])) → Q .normal { a with defers := { target := .collected w.heap.size,args := #[] } :: a.defers } W)
    (hstop : ∀ xs W,Sp xs → Ix xs W → W.heap[w.heap.size]? = some (.deferred (some [])) → Q .ret { a with defers := { target := .collected w.heap.size,args := #[] } :: a.defers } W) :
    (Code.rangeFunc g ps assign body).wpIn Fence.wide n P Q a w := by
  refine wpIn_rangeFunc fun fn _ => ?_
  obtain ⟨rec,hrec⟩ : ∃ rec : LoopState → Option Code → Loop,rec = fun st pe => { state := st,pending := pe,fn,tmps := a.tmps,params := ps,assign,body,defers := w.heap.size } := ⟨_,rfl⟩
  obtain ⟨W1,hW1⟩ : ∃ W1,(w.alloc (.deferred (some []))).alloc (.loop (rec .ready none)) = W1 := ⟨_,rfl⟩
  have hbel : Below w.heap.size w W1 := by rw [← hW1];exact ((Below.refl _ w).alloc (Nat.le_refl _) _).alloc (by simp) _
  have hrec1 : W1.heap[w.heap.size + 1]? = some (.loop (rec .ready none)) := by
    have := World.alloc_heap_new (w.alloc (.deferred (some []))) (.loop (rec .ready none))
    rw [World.size_alloc] at this
    rw [← hW1];exact this
  have hdef1 : W1.heap[w.heap.size]? = some (.deferred (some [])) := by rw [← hW1,Below.heap_alloc _ _ _ (by simp)];exact World.alloc_heap_new w _
  have hstab : ∀ (j : World → Prop) (o1 o2 : Obj),Stab b j → Stab b (fun W => j W ∧ W.heap[w.heap.size + 1]? = some o1 ∧ W.heap[w.heap.size]? = some o2) := fun j o1 o2 hj =>
    ⟨fun W W' h hB => ⟨hj.below W W' h.1 hB,(hB.block _ (Array.getElem?_eq_some_iff.1 h.2.1).1).trans h.2.1,(hB.block _ (Array.getElem?_eq_some_iff.1 h.2.2).1).trans h.2.2⟩,
      fun W v h => ⟨hj.cell W v h.1,(Below.heap_setCell W ⟨b,0,none⟩ v _ (by show _ ≠ b;omega)).trans h.2.1,(Below.heap_setCell W ⟨b,0,none⟩ v _ (by show _ ≠ b;omega)).trans h.2.2⟩⟩
  refine ⟨w.heap.size + 1,[{ target := .collected w.heap.size,args := #[] }],W1,{ target := .fn (.func gf) lb,args := #[.func (.yield (w.heap.size + 1)) #[] #[]] },W1,gf,#[.func (.yield (w.heap.size + 1)) #[] #[]] ++ lb,W1,?_,?_,(fun _ _ => trivial),?_,(fun h => by cases h),?_⟩
  · rw [← hW1,hrec];exact run_enterLoop_outer _ _ _ _ _
  · simp only [resolve,hg]
    simp [go_sem]
  · simp [invoke,go_sem,eg]
  refine (hit (w.heap.size + 1) (fun pre W => I pre W ∧ W.heap[w.heap.size + 1]? = some (.loop (rec .ready none)) ∧ W.heap[w.heap.size]? = some (.deferred (some [])))
    (fun pre W => Ix pre W ∧ W.heap[w.heap.size + 1]? = some (.loop (rec .done (some .ret))) ∧ W.heap[w.heap.size]? = some (.deferred (some [])))
    (fun pre => hstab _ _ _ (hI pre).stab) (fun pre W h => h.1) (fun pre x W h hN hG => ?_) W1 (hbel.block _ hb) ⟨(hI []).stab.below w W1 h0 hbel,hrec1,hdef1⟩).mono ?_
  · obtain ⟨hi,hl,hd⟩ := h
    have hlt : w.heap.size + 1 < W.heap.size := (Array.getElem?_eq_some_iff.1 hl).1
    have hy := run_yield (P := P) (args := encs x) hl (by rw [hrec];exact hps x)
    rw [hrec] at hy
    refine ⟨fn,_,assign,body,hy,roundIn_of_wpIn trivial (wpIn_mono (hround _ pre x W hi hN hG (by omega) ⟨_,hl,rfl⟩) ?_)⟩
    intro e a1 W2 he
    cases e with
    | normal =>
      obtain ⟨hB,hbody⟩ := he
      have hl2 : W2.heap[w.heap.size + 1]? = some (.loop (rec .ready none)) := (hB.block _ hlt).trans hl
      have hd2 : W2.heap[w.heap.size]? = some (.deferred (some [])) := (hB.block _ (by omega)).trans hd
      have hlt2 := (Array.getElem?_eq_some_iff.1 hl2).1
      refine ⟨_,run_beginRound hl2 (by rw [hrec]),?_⟩
      obtain ⟨W3,hW3⟩ : ∃ W3,W2.putObj (w.heap.size + 1) (.loop { rec .ready none with state := .busy }) = W3 := ⟨_,rfl⟩
      have hl3 : W3.heap[w.heap.size + 1]? = some (.loop { rec .ready none with state := .busy }) := by rw [← hW3];exact World.putObj_heap_same hlt2
      have ho3 : ∀ k,k ≠ w.heap.size + 1 → W3.heap[k]? = W2.heap[k]? := fun k hk => by rw [← hW3];exact World.putObj_heap_other hk
      have hi3 : I pre W3 := by rw [← hW3];exact (hI pre).put _ _ _ _ (by omega) hl2 rfl ((hI pre).stab.below _ _ hi hB)
      rw [hW3]
      refine wpIn_mono (hbody W3 (by rw [← hW3];simp) ho3 hi3) ?_
      have fin : ∀ (jump : Option Code) (W4 : World),KeepsOthers W3 W4 →
          (Instr.endRound (w.heap.size + 1) jump).run P W4 = .ok (.bool jump.isNone) (W4.putObj (w.heap.size + 1) (.loop (rec (if jump.isNone then .ready else .done) jump))) ∧
          W4.heap[w.heap.size + 1]? = some (.loop { rec .ready none with state := .busy }) ∧
          (W4.putObj (w.heap.size + 1) (.loop (rec (if jump.isNone then .ready else .done) jump))).heap[w.heap.size + 1]? = some (.loop (rec (if jump.isNone then .ready else .done) jump)) ∧
          (W4.putObj (w.heap.size + 1) (.loop (rec (if jump.isNone then .ready else .done) jump))).heap[w.heap.size]? = some (.deferred (some [])) := fun jump W4 hk => by
        have hl4 := hk.same _ _ hl3 rfl
        have hd4 := hk.same _ _ ((ho3 _ (by omega)).trans hd2) rfl
        have := run_endRound (P := P) jump hl4
        rw [hrec] at this ⊢
        exact ⟨this,by rw [hrec] at hl4;exact hl4,World.putObj_heap_same (Array.getElem?_eq_some_iff.1 hl4).1,(World.putObj_heap_other (by omega)).trans hd4⟩
      rintro e a4 W4 hp
      cases e with
      | normal =>
        obtain ⟨hk,hb4,hi4⟩ := hp
        obtain ⟨hr,hl4,hl5,hd5⟩ := fin none W4 hk
        refine ⟨_,_,hr,.inl ⟨rfl,⟨(hI _).put _ _ _ _ (by omega) hl4 rfl hi4,hl5,hd5⟩,?_⟩⟩
        rw [World.putObj_heap_other (by omega),hb4,ho3 _ (by omega)]
        exact hB.block _ (by omega)
      | ret =>
        obtain ⟨hk,hi4⟩ := hp
        obtain ⟨hr,hl4,hl5,hd5⟩ := fin (some .ret) W4 hk
        exact ⟨_,_,hr,.inr ⟨rfl,(hIx _).put _ _ _ _ (by omega) hl4 rfl hi4,hl5,hd5⟩⟩
      | exit id => exact hp.elim
      | goto t => exact hp.elim
      | panic ch => exact hp.elim
      | outgrown => exact hp.elim
    | ret => exact he.elim
    | exit id => exact he.elim
    | goto t => exact he.elim
    | panic ch => exact he.elim
    | outgrown => exact he.elim
  · rintro e W2 ⟨⟨v,rfl⟩,(⟨xs,hS,hi,hl,hd⟩ | ⟨xs,hS,hi,hl,hd⟩)⟩
    · have := run_endLoop (P := P) hl (by rw [hrec];simp)
      rw [hrec] at this
      exact ⟨none,_,this,hdone xs _ hS ((hI _).put _ _ _ _ (by omega) hl rfl hi) ((World.putObj_heap_other (by omega)).trans hd)⟩
    · have := run_endLoop (P := P) hl (by rw [hrec];simp)
      rw [hrec] at this
      exact ⟨some .ret,_,this,wpIn_ret (hstop xs _ hS ((hIx _).put _ _ _ _ (by omega) hl rfl hi) ((World.putObj_heap_other (by omega)).trans hd))⟩
end Go.Proofs.YtbdacbcpniegiaaGreatDoor
namespace Go.Proofs.YtbdacbcpniegiaaGreatDoor
open Go Go.RowKit Go.Shelf Go.Proofs
open Go.Sx (B)
attribute [local go_sem] Oper.semAt_some
def cloneRen : Ren := ⟨fun | 25 => 116 | n => n,fun | 37 => 27 | 47 => 149 | n => n,fun n => n⟩
theorem layClone : LaysPu.n25 Tryz.prog cloneRen := {
  mixed := by kernel_rfl,f25 := Tryz.func116.trans (congrArg some (by kernel_rfl)),
  t0 := Tryz.underlying0,a0 := Tryz.isAgg0,z0 := Tryz.sizeOf0,v0 := Tryz.zeroValue0,i0 := by kernel_rfl,
  t3 := Tryz.underlying3,a3 := Tryz.isAgg3,z3 := Tryz.sizeOf3,v3 := Tryz.zeroValue3,i3 := by kernel_rfl,
  t4 := Tryz.underlying4,a4 := Tryz.isAgg4,z4 := Tryz.sizeOf4,v4 := Tryz.zeroValue4,i4 := by kernel_rfl,
  t5 := Tryz.underlying5,a5 := Tryz.isAgg5,z5 := Tryz.sizeOf5,v5 := Tryz.zeroValue5,i5 := by kernel_rfl,
  t9 := Tryz.underlying9,a9 := Tryz.isAgg9,z9 := Tryz.sizeOf9,v9 := Tryz.zeroValue9,i9 := by kernel_rfl,
  t37 := Tryz.underlying27,a37 := Tryz.isAgg27,z37 := Tryz.sizeOf27,v37 := Tryz.zeroValue27,i37 := by kernel_rfl,
  t47 := Tryz.underlying149,a47 := Tryz.isAgg149,z47 := Tryz.sizeOf149,v47 := Tryz.zeroValue149,i47 := by kernel_rfl }
theorem clone_any (s : ByteArray) (hs : s.size ≤ 281474976710656) (w : World) : Calls Tryz.prog 103 #[.string s] w fun e w' => e = .returned (.string s) ∧ Below w.heap.size w w' := by
  go_enter Tryz.func103,Tryz.ntmps103
  go_wp2_with (go_at_call 116;refine (AnyPu.stringslite_Clone layClone s _ hs).mono ?_;rintro e w' ⟨rfl,hb⟩)
  go_ret
  exact ⟨rfl,hb⟩
theorem fields_any (s : ByteArray) (w : World) : Calls Tryz.prog 102 #[.string s] w fun e w' => e = .returned (.func (.func 114) #[] #[.pointer (some ⟨w.heap.size,0,none⟩)]) ∧ w' = w.alloc (.cells #[.string s] 9) := by
  go_enter Tryz.func102,Tryz.ntmps102
  go_wp2
  go_ret
  exact ⟨rfl,rfl⟩
end Go.Proofs.YtbdacbcpniegiaaGreatDoor
namespace Go.Proofs.YtbdacbcpniegiaaGreatDoor
open Go Go.RowKit Go.Shelf Go.Proofs
open Go.Sx (B)
attribute [local go_sem] Oper.semAt_some
def fcells (f : NW.Fld) : List Value := [.int .i64 f.num,.int .i64 f.kind,.int .u64 f.n,.string (B f.s)]
def flds (l : List NW.Fld) : List Value := l.flatMap fcells
theorem flds_append (a b : List NW.Fld) : flds (a ++ b) = flds a ++ flds b := by simp [flds]
theorem ownsRow_heap {W W' : World} {n₀ sz n : Nat} {e : TypeId} {v : Value} {xs : List Value} (h : W.ownsRow n₀ e sz v n xs) (hg : ∀ (g : Nat) (o : Obj),n₀ ≤ g → W.heap[g]? = some o → o.isCells = true → W'.heap[g]? = W.heap[g]?) : W'.ownsRow n₀ e sz v n xs := by
  obtain ⟨h1,h2⟩ := h
  refine ⟨h1,?_⟩
  rcases h2 with h2 | ⟨g,cap,cur,e1,hle,hh,rest⟩
  · exact .inl h2
  · exact .inr ⟨g,cap,cur,e1,hle,by rw [hg g _ hle hh rfl];exact hh,rest⟩
theorem ownsRow_not {W : World} {n₀ sz n k : Nat} {e : TypeId} {v : Value} {xs : List Value} (h : W.ownsRow n₀ e sz v n xs) (hk : k < n₀) : v.ownBlock ≠ some k := by
  obtain ⟨h1,h2⟩ := h
  rcases h2 with ⟨rfl,_⟩ | ⟨g,cap,cur,rfl,hle,hh,rest⟩
  · simp [Value.ownBlock]
  · simp [Value.ownBlock];omega
theorem keeps_below {W W' : World} (h : Below W.heap.size W W') : KeepsOthers W W' := ⟨h.size,fun k o hk _ => (h.block k (Array.getElem?_eq_some_iff.1 hk).1).trans hk⟩
structure PI (w : World) (n : Nat) (W : World) : Prop where
  r2 : W.heap[n]? = some (.cells #[.slice none 0 0] 151 (0,0))
  r3 : W.heap[n + 1]? = some (.cells #[.bool false] 4 (0,0))
  low : Below n w W
structure PO (w : World) (n : Nat) (fs : List NW.Fld) (W : World) : Prop extends PI w n W where
  out : ∃ v,W.heap[n + 2]? = some (.cells #[v] 151 (0,0)) ∧ W.ownsRow (n + 4) 109 4 v fs.length (flds fs)
theorem PI.stab {w : World} {n : Nat} : StabL (n + 4) (n + 3) (PI w n) :=
  ⟨⟨fun W W' h hB => ⟨(hB.block _ (Array.getElem?_eq_some_iff.1 h.r2).1).trans h.r2,(hB.block _ (Array.getElem?_eq_some_iff.1 h.r3).1).trans h.r3,h.low.trans (hB.mono (Nat.le_of_lt (Array.getElem?_eq_some_iff.1 h.r2).1))⟩,
    fun W v h => ⟨(Below.heap_setCell W ⟨n + 3,0,none⟩ v _ (by show _ ≠ n + 3;omega)).trans h.r2,(Below.heap_setCell W ⟨n + 3,0,none⟩ v _ (by show _ ≠ n + 3;omega)).trans h.r3,h.low.setCell (p := ⟨n + 3,0,none⟩) (by show n ≤ n + 3;omega) _⟩⟩,
   fun W k o o' hk ho hc h => ⟨(World.putObj_heap_other (by omega)).trans h.r2,(World.putObj_heap_other (by omega)).trans h.r3,h.low.trans ((Below.refl n W).grown (grownBy_putObj' W k o') (Nat.le_of_lt (Array.getElem?_eq_some_iff.1 h.r2).1) (fun j e => by cases e;omega))⟩⟩
theorem PO.stab {w : World} {n : Nat} {fs : List NW.Fld} : StabL (n + 4) (n + 3) (PO w n fs) :=
  ⟨⟨fun W W' h hB => ⟨PI.stab.stab.below W W' h.toPI hB,by
      obtain ⟨v,h1,h2⟩ := h.out
      exact ⟨v,(hB.block _ (Array.getElem?_eq_some_iff.1 h1).1).trans h1,ownsRow_heap h2 fun g o _ ho _ => hB.block g (Array.getElem?_eq_some_iff.1 ho).1⟩⟩,
    fun W v h => ⟨PI.stab.stab.cell W v h.toPI,by
      obtain ⟨u,h1,h2⟩ := h.out
      exact ⟨u,(Below.heap_setCell W ⟨n + 3,0,none⟩ v _ (by show _ ≠ n + 3;omega)).trans h1,ownsRow_heap h2 fun g o hg _ _ => Below.heap_setCell W ⟨n + 3,0,none⟩ v g (by show g ≠ n + 3;omega)⟩⟩⟩,
   fun W k o o' hk ho hc h => ⟨PI.stab.put W k o o' hk ho hc h.toPI,by
      obtain ⟨u,h1,h2⟩ := h.out
      exact ⟨u,(World.putObj_heap_other (by omega)).trans h1,ownsRow_heap h2 fun g ob hg hog hcg => World.putObj_heap_other (fun e => by subst e;rw [ho] at hog;cases hog;rw [hc] at hcg;cases hcg)⟩⟩⟩
theorem frozen_at {W : World} {b o : Nat} {cs : Array Value} {t : TypeId} (h : W.heap[b]? = some (.cells cs t (0,0))) : W.frozen? ⟨b,o,none⟩ = false := by
  simp [World.frozen?,h]
theorem setCell_row {W : World} {b o : Nat} {v : Value} {cs : Array Value} {t : TypeId} (h : W.heap[b]? = some (.cells cs t (0,0))) : (W.setCell ⟨b,o,none⟩ v).heap[b]? = some (.cells (cs.setIfInBounds o v) t (0,0)) := by
  simp only [World.setCell,Array.getElem?_modify,h];simp
theorem round_end {w W2 W3 w1 : World} {n k : Nat} {u v v' : Value} {o : Obj} {fs : List NW.Fld} {x : NW.Fld} (hPI : PI w n W2) (hv : W2.heap[n + 2]? = some (.cells #[v] 151 (0,0))) (hk : n + 4 ≤ k) (hk2 : k < W2.heap.size) (hB3 : Below W2.heap.size W2 W3)
    (hrow4 : (W3.setCell ⟨k,3,none⟩ u).ownsRow (n + 4) 109 4 v fs.length (flds fs)) (hgrow : ((W3.setCell ⟨k,3,none⟩ u).alloc o).grownBy w1 v.ownBlock) (hown' : w1.ownsRow (n + 4) 109 4 v' (fs.length + 1) (flds fs ++ fcells x)) :
    KeepsOthers W2 (w1.setCell ⟨n + 2,0,none⟩ v') ∧ (w1.setCell ⟨n + 2,0,none⟩ v').heap[n + 3]? = W2.heap[n + 3]? ∧ PO w n (fs ++ [x]) (w1.setCell ⟨n + 2,0,none⟩ v') := by
  have hs3 := hB3.size
  have hh1 : ∀ j,j < n + 4 → w1.heap[j]? = W2.heap[j]? := fun j hj => by
    rw [hgrow.block j (by simp [World.setCell];omega) (fun e => ownsRow_not hrow4 hj e.symm),Below.heap_alloc _ _ _ (by simp [World.setCell];omega),Below.heap_setCell _ _ _ _ (by show j ≠ k;omega)]
    exact hB3.block j (by omega)
  have hh : ∀ j,j < n + 4 → j ≠ n + 2 → (w1.setCell ⟨n + 2,0,none⟩ v').heap[j]? = W2.heap[j]? := fun j hj hj2 => by
    rw [Below.heap_setCell _ _ _ _ (by show j ≠ n + 2;omega)];exact hh1 j hj
  have hsz1 : W2.heap.size ≤ w1.heap.size := by have := hgrow.size;simp [World.setCell] at this;omega
  refine ⟨?_,hh _ (by omega) (by omega),⟨(hh n (by omega) (by omega)).trans hPI.r2,(hh (n + 1) (by omega) (by omega)).trans hPI.r3,?_⟩,v',?_,?_⟩
  · refine ((keeps_below hB3).trans ((KeepsOthers.setCell W3 _ _).trans ((KeepsOthers.alloc _ o).trans (KeepsOthers.of_grownBy hgrow ?_)))).trans (KeepsOthers.setCell _ _ _)
    intro j ob ej hj
    obtain ⟨h1,h2⟩ := hrow4
    rcases h2 with ⟨rfl,_⟩ | ⟨g,cap,cur,rfl,hle,hh4,rest⟩
    · simp [Value.ownBlock] at ej
    · simp [Value.ownBlock] at ej
      subst ej
      rw [Below.heap_alloc _ _ _ (Array.getElem?_eq_some_iff.1 hh4).1,hh4] at hj
      cases hj;rfl
  · refine hPI.low.trans ⟨?_,?_,?_,?_,fun j hj => hh j (by omega) (by omega)⟩
    · show w1.os = W2.os
      rw [hgrow.os];exact hB3.os
    · show w1.tape = W2.tape
      rw [hgrow.tape];exact hB3.tape
    · show w1.output = W2.output
      rw [hgrow.output];exact hB3.output
    · simp [World.setCell];exact hsz1
  · rw [setCell_row (by rw [hh1 _ (by omega)];exact hv)];rfl
  · rw [flds_append,List.length_append]
    have e : flds [x] = fcells x := by simp [flds]
    rw [e]
    exact ownsRow_heap hown' fun g ob hg _ _ => Below.heap_setCell _ _ _ _ (by show g ≠ n + 2;omega)
theorem out_kept {W4 w1 : World} {n : Nat} {v : Value} {o X : Obj} {fs : List NW.Fld} (hrow4 : W4.ownsRow (n + 4) 109 4 v fs.length (flds fs)) (hgrow : (W4.alloc o).grownBy w1 v.ownBlock) (hv4 : W4.heap[n + 2]? = some X) : w1.heap[n + 2]? = some X := by
  have hlt := (Array.getElem?_eq_some_iff.1 hv4).1
  rw [hgrow.block _ (by simp;omega) (fun e => ownsRow_not hrow4 (by omega) e.symm),Below.heap_alloc _ _ _ hlt]
  exact hv4
theorem fieldInfo : (Tryz.prog.info? 109).map (fun i => (i.zero,i.size,i.bytes)) = some (some (.agg #[.int .i64 0,.int .i64 0,.int .u64 0,.string ⟨#[]⟩]),4,40) := by kernel_rfl
abbrev fobj (x : NW.Fld) : Obj := .cells #[.int .i64 x.num,.int .i64 x.kind,.int .u64 x.n,.string (B x.s)] 109
theorem map_f_inj {a b : List NW.Fld} (h : a.map It.f = b.map It.f) : a = b := by
  induction a generalizing b with
  | nil => cases b with | nil => rfl | cons _ _ => simp at h
  | cons x a ih => cases b with
    | nil => simp at h
    | cons y b => simp at h;rw [h.1,ih h.2]
theorem results_cc {fn : Func} {p q : Tmp} {t u : TypeId} {P : Program} {W : World} {tmps : Array Value} {a b : Addr} {v1 v2 : Value} (h : fn.results = #[.cell p t,.cell q u]) (ha : tmps.getD p undef = .pointer (some a)) (hb : tmps.getD q undef = .pointer (some b))
    (t1 : ∀ w,(isAgg t).run P w = .ok false w) (t2 : ∀ w,(isAgg u).run P w = .ok false w) (h1 : W.cell? a = some v1) (h2 : W.cell? b = some v2) : (results fn tmps).run P W = .ok (.tuple #[v1,v2]) W := by
  have e1 : (do loadVar t (← asAddr (.pointer (some a))) : Sem Value).run P W = .ok v1 W := by simp [asAddr,loadVar,t1,h1]
  have e2 : (do loadVar u (← asAddr (.pointer (some b))) : Sem Value).run P W = .ok v2 W := by simp [asAddr,loadVar,t2,h2]
  rw [Go.Sx.results_eq,h]
  simp [Go.Sx.resF,ha,hb,e1,e2,asAddr,loadVar,t1,t2,h1,h2]
def parseR (n : Nat) (r : Option (List NW.Fld)) (e : Ending) (W' : World) : Prop := match r with
  | none => e = .returned (.tuple #[.slice none 0 0,.bool false])
  | some l => ∃ v,e = .returned (.tuple #[v,.bool true]) ∧ W'.ownsRow (n + 4) 109 4 v l.length (flds l)
theorem ownsRow_slice {W : World} {n₀ sz n : Nat} {e : TypeId} {v : Value} {xs : List Value} (h : W.ownsRow n₀ e sz v n xs) : ∃ q m c,v = .slice q m c := by
  obtain ⟨h1,h2⟩ := h
  rcases h2 with ⟨rfl,_⟩ | ⟨g,cap,cur,rfl,hle,hh,rest⟩
  · exact ⟨_,_,_,rfl⟩
  · exact ⟨_,_,_,rfl⟩
theorem parse_any (s : List UInt8) (hs : s.length ≤ 1099511627776) (w : World) (a0 a1 : Addr) (hE : Errs w a0 a1) : Calls Tryz.prog 86 #[.string (B s)] w fun e W' => Below w.heap.size w W' ∧ parseR w.heap.size (NW.parse s) e W' := by
  refine (callsIn_wide (n := 5)).1 ?_
  refine callsIn_of_wp_marks Tryz.func86 rfl trivial ?_ rfl
  simp only [Tryz.ntmps86,List.size_toArray,List.length_cons,List.length_nil,Nat.reduceAdd,Nat.reduceSub,Array.replicate_succ,Array.replicate_zero,List.push_toArray,List.append_toArray,List.nil_append,List.cons_append]
  gi_wp2_with (refine ⟨trivial,?_⟩;refine (callsIn_wide.2 (fields_any _ _)).mono ?_;rintro e w' ⟨rfl,rfl⟩)
  obtain ⟨W0,hW0⟩ : ∃ W0,(((w.alloc (.cells #[.slice none 0 0] 151)).alloc (.cells #[.bool false] 4)).alloc (.cells #[.slice none 0 0] 151)).alloc (.cells #[.string (B s)] 9) = W0 := ⟨_,rfl⟩
  have hsz : W0.heap.size = w.heap.size + 4 := by rw [← hW0];simp
  have hlow : Below w.heap.size w W0 := by rw [← hW0];exact ((((Below.refl _ w).alloc (Nat.le_refl _) _).alloc (by simp) _).alloc (by simp <;> omega) _).alloc (by simp <;> omega) _
  have hc2 : W0.heap[w.heap.size]? = some (.cells #[.slice none 0 0] 151 (0,0)) := by rw [← hW0];rw [Below.heap_alloc _ _ _ (by simp <;> omega),Below.heap_alloc _ _ _ (by simp <;> omega),Below.heap_alloc _ _ _ (by simp)];exact World.alloc_heap_new w _
  have hc3 : W0.heap[w.heap.size + 1]? = some (.cells #[.bool false] 4 (0,0)) := by
    rw [← hW0];rw [Below.heap_alloc _ _ _ (by simp <;> omega),Below.heap_alloc _ _ _ (by simp)]
    have := World.alloc_heap_new (w.alloc (.cells #[.slice none 0 0] 151)) (.cells #[.bool false] 4)
    rw [World.size_alloc] at this;exact this
  have hc4 : W0.heap[w.heap.size + 2]? = some (.cells #[.slice none 0 0] 151 (0,0)) := by
    rw [← hW0];rw [Below.heap_alloc _ _ _ (by simp)]
    have := World.alloc_heap_new ((w.alloc (.cells #[.slice none 0 0] 151)).alloc (.cells #[.bool false] 4)) (.cells #[.slice none 0 0] 151)
    rw [World.size_alloc,World.size_alloc] at this;exact this
  have hc5 : W0.heap[w.heap.size + 3]? = some (.cells #[.string (B s)] 9 (0,0)) := by
    rw [← hW0]
    have := World.alloc_heap_new (((w.alloc (.cells #[.slice none 0 0] 151)).alloc (.cells #[.bool false] 4)).alloc (.cells #[.slice none 0 0] 151)) (.cells #[.string (B s)] 9)
    rw [World.size_alloc,World.size_alloc,World.size_alloc] at this;exact this
  rw [hW0]
  have hst : ∀ pre : List It,StabL W0.heap.size (w.heap.size + 3) (fun W => ∃ fs,pre = fs.map It.f ∧ PO w w.heap.size fs W) := fun pre => by
    rw [hsz]
    exact ⟨⟨fun W W' ⟨fs,e,h⟩ hB => ⟨fs,e,PO.stab.stab.below W W' h hB⟩,fun W v ⟨fs,e,h⟩ => ⟨fs,e,PO.stab.stab.cell W v h⟩⟩,fun W k o o' hk ho hc ⟨fs,e,h⟩ => ⟨fs,e,PO.stab.put W k o o' hk ho hc h⟩⟩
  have hsx : ∀ pre : List It,StabL W0.heap.size (w.heap.size + 3) (fun W => (∃ q x,pre = q ++ [x] ∧ ∀ f,x ≠ It.f f) ∧ PI w w.heap.size W) := fun pre => by
    rw [hsz]
    exact ⟨⟨fun W W' ⟨e,h⟩ hB => ⟨e,PI.stab.stab.below W W' h hB⟩,fun W v ⟨e,h⟩ => ⟨e,PI.stab.stab.cell W v h⟩⟩,fun W k o o' hk ho hc ⟨e,h⟩ => ⟨e,PI.stab.put W k o o' hk ho hc h⟩⟩
  refine wp_rangeS (n := 5) (encs := It.encs a0 a1) (b := w.heap.size + 3) rfl (enters_of Tryz.func114 (by kernel_rfl) rfl) (fun x => by cases x <;> rfl) (by rw [hsz];omega) (fun pre W => ∃ fs,pre = fs.map It.f ∧ PO w w.heap.size fs W) (fun pre W => (∃ q x,pre = q ++ [x] ∧ ∀ f,x ≠ It.f f) ∧ PI w w.heap.size W)
    hst hsx ⟨[],rfl,⟨hc2,hc3,hlow⟩,_,hc4,World.ownsRow_nil _ _ _ _⟩
    (S := fun xs => ∃ fs,NW.parse s = some fs ∧ xs = fs.map It.f) (Sp := fun xs => NW.parse s = none ∨ ∃ q f,xs = q ++ [It.f f]) (N := s.length) (G := It.Ok s.length) ?it ?round ?done ?stop
  case it =>
    intro l J Jx hJ hJI hY W hWb h0
    have h0' := hJI _ _ h0
    refine (fields1_any w a0 a1 hE s (by omega) l (w.heap.size + 3) 4 (by omega) J Jx hJ (fun pre W h => ?_) hY W (by rw [hWb];exact hc5) h0).mono ?_
    · obtain ⟨fs,_,h⟩ := hJI _ _ h
      exact h.low
    · rintro e W' ⟨hv,(⟨fs,h1,h2⟩ | ⟨h1,pre,nm,k,nn,fs,p,sh,h2⟩ | ⟨pre,x,h1,h2⟩)⟩
      · exact ⟨hv,.inl ⟨_,⟨fs,h1,rfl⟩,h2⟩⟩
      · obtain ⟨fs',h3,_⟩ := hJI _ _ h2
        have : It.bad nm k nn fs p sh ∈ fs'.map It.f := by rw [← h3];simp
        simp at this
      · refine ⟨hv,.inr ⟨_,?_,h1⟩⟩
        rcases h2 with h2 | ⟨f,rfl⟩
        · exact .inl h2
        · exact .inr ⟨_,_,rfl⟩
  case round =>
    rintro l pre x W ⟨fs,rfl,hO⟩ hN hG hl ⟨ol,hol,hcl⟩
    rw [hsz] at hl
    have hlW := (Array.getElem?_eq_some_iff.1 hol).1
    cases x with
    | f x =>
      simp only [It.encs]
      gi_wp2
      refine ⟨(Below.refl _ _).alloc (Nat.le_refl _) _,?_⟩
      rintro W2 hs2 ho2 ⟨fs',he,hO2⟩
      obtain rfl := map_f_inj he
      have hE2 := hE.below hO2.low
      have hg0 := hE2.c0
      have hg1 := hE2.c1
      have hbox2 : W2.heap[W.heap.size]? = some (.cells #[.int .i64 x.num,.int .i64 x.kind,.int .u64 x.n,.string (B x.s)] 109 (0,0)) := by rw [ho2 _ (by omega)];exact World.alloc_heap_new W _
      obtain ⟨v,hv0,hrow⟩ := hO.out
      have hv0lt := (Array.getElem?_eq_some_iff.1 hv0).1
      have hW21 : ∀ (j : Nat) (o : Obj),W.heap[j]? = some o → o.isCells = true → W2.heap[j]? = W.heap[j]? := fun j o hj hc => by
        have hjl : j ≠ l := fun e => by subst e;rw [hol] at hj;cases hj;rw [hcl] at hc;cases hc
        rw [ho2 j hjl];exact Below.heap_alloc _ _ _ (Array.getElem?_eq_some_iff.1 hj).1
      have hv2 := (hW21 _ _ hv0 rfl).trans hv0
      obtain ⟨i0,hi,hz0,hz1,hz2⟩ := info_parts fieldInfo
      have hb0 := cell_of_row W2 W.heap.size 0 _ _ _ hbox2
      have hb1 := cell_of_row W2 W.heap.size 1 _ _ _ hbox2
      have hb2 := cell_of_row W2 W.heap.size 2 _ _ _ hbox2
      have hb3 := cell_of_row W2 W.heap.size 3 _ _ _ hbox2
      have hne2 : ∀ W3 : World,w.heap.size + 2 ≠ (⟨W.heap.size,3,none⟩ : Addr).block := fun _ => by show w.heap.size + 2 ≠ W.heap.size;omega
      have hgo : ∀ W3,Below W2.heap.size W2 W3 → ∀ (g : Nat) (o : Obj),w.heap.size + 4 ≤ g → W.heap[g]? = some o → o.isCells = true → (W3.setCell ⟨W.heap.size,3,none⟩ (.string (B x.s))).heap[g]? = W.heap[g]? := fun W3 hB3 g o _ ho hc => by
        have hlt := (Array.getElem?_eq_some_iff.1 ho).1
        rw [Below.heap_setCell _ _ _ _ (by show g ≠ W.heap.size;omega),hB3.block g (by rw [hs2];simp;omega)]
        exact hW21 g o ho hc
      have hlen : fs.length < s.length := by simpa using hN
      gi_wp2_with (first|(refine ⟨trivial,?_⟩;gi_at_call 89;refine (CallsIn.inRound l (callsIn_wide.2 (is_nil _ _))).mono ?_;rintro e w' ⟨rfl,rfl⟩)|(refine ⟨trivial,?_⟩;gi_at_call 103;refine (CallsIn.inRound l (callsIn_wide.2 (clone_any _ ?_ _))).mono ?_;rotate_left;rintro e W3 ⟨rfl,hB3⟩;have hbox3 := (hB3.block _ (Array.getElem?_eq_some_iff.1 hbox2).1).trans hbox2;have hv3 := (hB3.block _ (Array.getElem?_eq_some_iff.1 hv2).1).trans hv2;have hf3 := frozen_at (o := 3) hbox3;have hb33 := cell_of_row W3 W.heap.size 3 _ _ _ hbox3;have hbox4 := setCell_row (o := 3) (v := .string (B x.s)) hbox3;have hv4 := (Below.heap_setCell W3 ⟨W.heap.size,3,none⟩ (.string (B x.s)) (w.heap.size + 2) (hne2 W3)).trans hv3;have hb40 := cell_of_row _ W.heap.size 0 _ _ _ hbox4;have hb41 := cell_of_row _ W.heap.size 1 _ _ _ hbox4;have hb42 := cell_of_row _ W.heap.size 2 _ _ _ hbox4;have hb43 := cell_of_row _ W.heap.size 3 _ _ _ hbox4;have hrow4 : (W3.setCell ⟨W.heap.size,3,none⟩ (.string (B x.s))).ownsRow (w.heap.size + 4) 109 4 v fs.length (flds fs) := ownsRow_heap hrow (hgo W3 hB3);have hvc4 : (W3.setCell ⟨W.heap.size,3,none⟩ (.string (B x.s))).cell? ⟨w.heap.size + 1 + 1,0,none⟩ = some v := cell_of_row _ (w.heap.size + 2) 0 _ _ _ hv4)|(gi_at_builtin;refine wpListIn_append_own _ rfl _ _ 151 rfl (w.heap.size + 4) 109 i0 (.agg #[.int .i64 0,.int .i64 0,.int .u64 0,.string ⟨#[]⟩]) 4 40 Tryz.underlying151 hi hz0 hz1 hz2 rfl (by decide) v fs.length (flds fs) rfl (hrow4.alloc _) _ 1 1 (fcells x) rfl rfl ?_ ?_ ?_ ?_ ?_ ?_;rotate_left 5;intro v' w1 hown' hgrow _;obtain ⟨g',cap',rfl⟩ := ownsRow_succ hown';have hv1 := out_kept hrow4 hgrow hv4;have hvc1 : w1.cell? ⟨w.heap.size + 1 + 1,0,none⟩ = some v := cell_of_row _ (w.heap.size + 2) 0 _ _ _ hv1;have hvf1 : w1.frozen? ⟨w.heap.size + 1 + 1,0,none⟩ = false := frozen_at (b := w.heap.size + 2) hv1))
      · obtain ⟨k1,k2,k3⟩ := round_end hO2.toPI hv2 (by omega) (by rw [hs2];simp) hB3 hrow4 hgrow hown'
        exact ⟨k1,k2,fs ++ [x],by simp,k3⟩
      · intro j u hj
        have hj4 : j < 4 := by have := (List.getElem?_eq_some_iff.1 hj).1;simpa [fcells] using this
        have e := World.alloc_heap_new (W3.setCell ⟨W.heap.size,3,none⟩ (.string (B x.s))) (fobj x)
        have := cell_of_row _ (W3.setCell ⟨W.heap.size,3,none⟩ (.string (B x.s))).heap.size j _ _ _ e
        rw [show W3.heap.size = (W3.setCell ⟨W.heap.size,3,none⟩ (.string (B x.s))).heap.size by simp [World.setCell],Go.Sx.add_add,Nat.zero_add,this]
        simpa [fcells] using hj
      · intro u hu
        simp [fcells] at hu
        rcases hu with rfl | rfl | rfl | rfl <;> rfl
      · unfold maxLen;omega
      · omega
      · have := hB3.size;rw [hs2,World.size_alloc] at this;simp [World.setCell];omega
      · rw [Go.Sx.B_size];have : x.s.length ≤ s.length := hG;omega
    | bad num kind nn gs p sh =>
      have fin : ∀ (W2 W3 : World),PI w w.heap.size W2 → Below W2.heap.size W2 W3 → KeepsOthers W2 ((W3.setCell ⟨w.heap.size,0,none⟩ (.slice none 0 0)).setCell ⟨w.heap.size + 1,0,none⟩ (.bool false)) ∧ PI w w.heap.size ((W3.setCell ⟨w.heap.size,0,none⟩ (.slice none 0 0)).setCell ⟨w.heap.size + 1,0,none⟩ (.bool false)) := fun W2 W3 h hB => by
        have k2 := (hB.block _ (Array.getElem?_eq_some_iff.1 h.r2).1).trans h.r2
        have k3 := (hB.block _ (Array.getElem?_eq_some_iff.1 h.r3).1).trans h.r3
        refine ⟨((keeps_below hB).trans (KeepsOthers.setCell _ _ _)).trans (KeepsOthers.setCell _ _ _),?_,?_,?_⟩
        · rw [Below.heap_setCell _ _ _ _ (by show w.heap.size ≠ w.heap.size + 1;omega),setCell_row k2];rfl
        · rw [setCell_row (by rw [Below.heap_setCell _ _ _ _ (by show w.heap.size + 1 ≠ w.heap.size;omega)];exact k3)];rfl
        · exact ((h.low.trans (hB.mono (Nat.le_of_lt (Array.getElem?_eq_some_iff.1 h.r2).1))).setCell (p := ⟨w.heap.size,0,none⟩) (Nat.le_refl _) _).setCell (p := ⟨w.heap.size + 1,0,none⟩) (by show w.heap.size ≤ w.heap.size + 1;omega) _
      simp only [It.encs]
      cases sh with
      | true =>
        simp only [if_true]
        gi_wp2
        refine ⟨(Below.refl _ _).alloc (Nat.le_refl _) _,?_⟩
        rintro W2 hs2 ho2 ⟨fs',he,hO2⟩
        have hE2 := hE.below hO2.low
        have hg0 := hE2.c0
        have hg1 := hE2.c1
        have c2 := cell_of_heap hO2.r2
        have c3 := cell_of_heap hO2.r3
        gi_wp2
        refine ⟨trivial,?_⟩
        refine (CallsIn.inRound l (callsIn_wide.2 (is_at_same _ _ _))).mono ?_
        rintro e W3 ⟨rfl,hB3⟩
        have k2 := (hB3.block _ (Array.getElem?_eq_some_iff.1 hO2.r2).1).trans hO2.r2
        have k3 := (hB3.block _ (Array.getElem?_eq_some_iff.1 hO2.r3).1).trans hO2.r3
        have kc2 := cell_of_heap k2
        have kc3 := cell_of_heap k3
        have kf2 := frozen_at (o := 0) k2
        have kf3 := frozen_at (o := 0) k3
        gi_wp2
        refine ⟨trivial,?_⟩
        gi_wp2
        obtain ⟨f1,f2⟩ := fin W2 W3 hO2.toPI hB3
        exact ⟨f1,⟨_,_,rfl,fun f => by simp⟩,f2⟩
      | false =>
        simp only [Bool.false_eq_true,if_false]
        gi_wp2
        refine ⟨(Below.refl _ _).alloc (Nat.le_refl _) _,?_⟩
        rintro W2 hs2 ho2 ⟨fs',he,hO2⟩
        have hE2 := hE.below hO2.low
        have hg0 := hE2.c0
        have hg1 := hE2.c1
        obtain ⟨ca,ta,ha⟩ := hE2.h0
        obtain ⟨cb,tb,hbb⟩ := hE2.h1
        gi_wp2
        refine ⟨trivial,?_⟩
        refine (CallsIn.inRound l (callsIn_wide.2 (is_at_other _ a1 a0 _ _ _ _ _ hE2.ne.symm hbb ha))).mono ?_
        rintro e W3 ⟨rfl,hB3⟩
        have hE3 := hE2.below hB3
        have hg1' := hE3.c1
        gi_wp2
        refine ⟨trivial,?_⟩
        refine (CallsIn.inRound l (callsIn_wide.2 (is_at_same _ _ _))).mono ?_
        rintro e W4 ⟨rfl,hB4⟩
        have hB34 : Below W2.heap.size W2 W4 := hB3.trans (hB4.mono hB3.size)
        have k2 := (hB34.block _ (Array.getElem?_eq_some_iff.1 hO2.r2).1).trans hO2.r2
        have k3 := (hB34.block _ (Array.getElem?_eq_some_iff.1 hO2.r3).1).trans hO2.r3
        have kc2 := cell_of_heap k2
        have kc3 := cell_of_heap k3
        have kf2 := frozen_at (o := 0) k2
        have kf3 := frozen_at (o := 0) k3
        gi_wp2
        obtain ⟨f1,f2⟩ := fin W2 W4 hO2.toPI hB34
        exact ⟨f1,⟨_,_,rfl,fun f => by simp⟩,f2⟩
  case done =>
    rintro xs W ⟨fs,hp,rfl⟩ ⟨fs',he,hO⟩ hK
    obtain rfl := map_f_inj he
    obtain ⟨v,hv,hrow⟩ := hO.out
    obtain ⟨qv,mv,cv,rfl⟩ := ownsRow_slice hrow
    have hk2 : W.cell? ⟨w.heap.size,0,none⟩ = some (.slice none 0 0) := cell_of_row W w.heap.size 0 _ _ _ hO.r2
    have hk3 : W.cell? ⟨w.heap.size + 1,0,none⟩ = some (.bool false) := cell_of_row W (w.heap.size + 1) 0 _ _ _ hO.r3
    have hkv : W.cell? ⟨w.heap.size + 1 + 1,0,none⟩ = some (.slice qv mv cv) := cell_of_row W (w.heap.size + 2) 0 _ _ _ hv
    have hf2 := frozen_at (o := 0) hO.r2
    have hf3 := frozen_at (o := 0) hO.r3
    gi_wp2
    refine ⟨by simp,.inl ⟨_,_,rfl,run_takeDeferred (by rw [Below.heap_setCell _ _ _ _ (by show w.heap.size + 4 ≠ w.heap.size + 1;omega),Below.heap_setCell _ _ _ _ (by show w.heap.size + 4 ≠ w.heap.size;omega),← hsz];exact hK),?_⟩⟩
    have hl2 := setCell_row (o := 0) (v := .slice qv mv cv) hO.r2
    have hl3 : ((W.setCell ⟨w.heap.size,0,none⟩ (.slice qv mv cv)).setCell ⟨w.heap.size + 1,0,none⟩ (.bool true)).heap[w.heap.size + 1]? = some (.cells #[.bool true] 4 (0,0)) := by
      rw [setCell_row (by rw [Below.heap_setCell _ _ _ _ (by show w.heap.size + 1 ≠ w.heap.size;omega)];exact hO.r3)];rfl
    have hl2' : ((W.setCell ⟨w.heap.size,0,none⟩ (.slice qv mv cv)).setCell ⟨w.heap.size + 1,0,none⟩ (.bool true)).heap[w.heap.size]? = some (.cells #[.slice qv mv cv] 151 (0,0)) := by
      rw [Below.heap_setCell _ _ _ _ (by show w.heap.size ≠ w.heap.size + 1;omega),hl2];rfl
    refine ⟨_,results_cc rfl rfl rfl Tryz.isAgg151 Tryz.isAgg4 (cell_of_heap (by rw [World.putObj_heap_other (by omega)];exact hl2')) (cell_of_heap (by rw [World.putObj_heap_other (by omega)];exact hl3)),?_,?_⟩
    · refine ((hO.low.setCell (p := ⟨w.heap.size,0,none⟩) (Nat.le_refl _) _).setCell (p := ⟨w.heap.size + 1,0,none⟩) (by show w.heap.size ≤ w.heap.size + 1;omega) _).trans ((Below.refl _ _).grown (grownBy_putObj' _ _ _) (by simp [World.setCell];have := (Array.getElem?_eq_some_iff.1 hO.r2).1;omega) (fun j e => by cases e;omega))
    · refine ⟨_,rfl,ownsRow_heap hrow fun g o hg ho hc => ?_⟩
      have hgD : g ≠ w.heap.size + 4 := fun e => by subst e;rw [hsz] at hK;rw [hK] at ho;cases ho;cases hc
      rw [World.putObj_heap_other hgD,Below.heap_setCell _ _ _ _ (by show g ≠ w.heap.size + 1;omega),Below.heap_setCell _ _ _ _ (by show g ≠ w.heap.size;omega)]
  case stop =>
    rintro xs W hS ⟨⟨q,x,rfl,hx⟩,hI⟩ hK
    have hP0 : NW.parse s = none := by
      rcases hS with h | ⟨q',f,h⟩
      · exact h
      · have := (List.append_inj' h rfl).2
        simp at this
        exact absurd this (hx f)
    have hk2 : W.cell? ⟨w.heap.size,0,none⟩ = some (.slice none 0 0) := cell_of_row W w.heap.size 0 _ _ _ hI.r2
    have hk3 : W.cell? ⟨w.heap.size + 1,0,none⟩ = some (.bool false) := cell_of_row W (w.heap.size + 1) 0 _ _ _ hI.r3
    gi_wp2
    refine ⟨by simp,.inl ⟨_,_,rfl,run_takeDeferred hK,?_⟩⟩
    refine ⟨_,results_cc rfl rfl rfl Tryz.isAgg151 Tryz.isAgg4 (cell_of_heap (by rw [World.putObj_heap_other (by omega)];exact hI.r2)) (cell_of_heap (by rw [World.putObj_heap_other (by omega)];exact hI.r3)),?_,?_⟩
    · exact hI.low.trans ((Below.refl _ _).grown (grownBy_putObj' _ _ _) (by have := (Array.getElem?_eq_some_iff.1 hI.r2).1;omega) (fun j e => by cases e;omega))
    · rw [hP0];rfl
end Go.Proofs.YtbdacbcpniegiaaGreatDoor
namespace Go.Proofs.YtbdacbcpniegiaaGreatDoor
open Go Go.RowKit Go.Proofs Go.Sx
structure EA where
  k : Addr
  f : Addr
  s : Addr
  w : Addr
def tK : List UInt8 := [111,102,32,97,110,111,116,104,101,114,32,107,105,110,100]
def tF : List UInt8 := [110,111,32,115,117,99,104,32,109,101,115,115,97,103,101]
def tS : List UInt8 := [116,111,111,32,102,101,119,32,98,121,116,101,115]
def tW : List UInt8 := [110,111,32,115,117,99,104,32,102,105,101,108,100]
abbrev errV (a : Addr) : Value := .iface 211 (.pointer (some a))
def GE (e : EA) : List (Addr × Value) := [(⟨1,0,none⟩,errV e.k),(⟨0,0,none⟩,errV e.f),(⟨2,0,none⟩,errV e.s),(⟨3,0,none⟩,errV e.w),(e.k,.string (B tK)),(e.f,.string (B tF)),(e.s,.string (B tS)),(e.w,.string (B tW))]
def GW (e : EA) : List (Addr × Value) := [(⟨2,0,none⟩,errV e.s),(⟨3,0,none⟩,errV e.w),(e.s,.string (B tS)),(e.w,.string (B tW))]
theorem GW_sub (e : EA) : ∀ p ∈ GW e,p ∈ GE e := by
  intro p hp
  simp only [GW,List.mem_cons,List.not_mem_nil,or_false] at hp
  rcases hp with rfl | rfl | rfl | rfl <;> simp [GE]
theorem Ctr.moreG {P : Program} {G G' : List (Addr × Value)} (hs : ∀ p ∈ G,p ∈ G') {f : FuncId} {os : List LO} {args : List SV} {R : List LO → SV → Prop} (h : Ctr P G f os args R) : Ctr P G' f os args R :=
  fun X hP hG => h X hP (fun p hp => hG p (hs p hp))
structure EA.Ok (e : EA) : Prop where
  kf : e.k ≠ e.f
  sw : e.s ≠ e.w
theorem Known.cells {X : Ctx} {G : List (Addr × Value)} (h : Known X G) {ρ : List (List Nat)} {σ : List Value} {a : Act} {w : World} {c : Cfg} (hr : Rel X c ρ σ a w) {p : Addr × Value} (hp : p ∈ G) : w.cell? p.1 = some p.2 ∧ loneStr w p := by
  obtain ⟨h1,h2,h3⟩ := h p hp
  refine ⟨hr.old h1 h2,?_⟩
  unfold loneStr at h3 ⊢
  split
  · rename_i s hs
    rw [hs] at h3
    obtain ⟨cs,t,h4⟩ := h3
    exact ⟨cs,t,(hr.low.block _ (Array.getElem?_eq_some_iff.1 h4).1 h2).trans h4⟩
  · trivial
theorem Known.errs {X : Ctx} {e : EA} (he : e.Ok) (h : Known X (GW e)) {ρ : List (List Nat)} {σ : List Value} {a : Act} {w : World} {c : Cfg} (hr : Rel X c ρ σ a w) : Errs w e.s e.w :=
  ⟨(Known.cells h hr (p := (⟨2,0,none⟩,errV e.s)) (by simp [GW])).1,(Known.cells h hr (p := (⟨3,0,none⟩,errV e.w)) (by simp [GW])).1,he.sw,
    (Known.cells h hr (p := (e.s,.string (B tS))) (by simp [GW])).2,(Known.cells h hr (p := (e.w,.string (B tW))) (by simp [GW])).2⟩
@[reducible] def frow (l : List NW.Fld) : LO := .row 109 4 l.length (flds l)
theorem ownBlock_of_row {W : World} {n₀ sz n : Nat} {e : TypeId} {v : Value} {xs : List Value} (h : W.ownsRow n₀ e sz v n xs) : v.oneCell' = true ∧ ∃ fp : List Nat,fp.Nodup ∧ (∀ b ∈ fp,n₀ ≤ b ∧ b < W.heap.size) ∧ (∀ k,v.ownBlock = some k → k ∈ fp) ∧ W.ownsRow 0 e sz v n xs := by
  obtain ⟨h1,h2⟩ := h
  rcases h2 with ⟨rfl,h3⟩ | ⟨g,cap,cur,rfl,hle,hh,rest⟩
  · exact ⟨rfl,[],by simp,by simp,by simp [Value.ownBlock],h1,.inl ⟨rfl,h3⟩⟩
  · refine ⟨rfl,[g],by simp,fun b hb => ?_,fun k hk => ?_,h1,.inr ⟨g,cap,cur,rfl,Nat.zero_le _,hh,rest⟩⟩
    · simp at hb;subst hb;exact ⟨hle,(Array.getElem?_eq_some_iff.1 hh).1⟩
    · simp [Value.ownBlock] at hk;subst hk;simp
def parsedO : Option (List NW.Fld) → List LO
  | none => []
  | some l => [frow l]
def parsedV : Option (List NW.Fld) → SV
  | none => .tup [.c (.v (.slice none 0 0)),.c (.v (.bool false))]
  | some l => .tup [.c (.row 0),.c (.v (.bool true))]
theorem parse_ctrW {e : EA} (he : e.Ok) (s : List UInt8) (hs : s.length ≤ 1099511627776) : Ctr Tryz.prog (GW e) 86 [] [vv (.string (B s))] (fun os v => os = parsedO (NW.parse s) ∧ v = parsedV (NW.parse s)) := by
  intro X hP hG N hN ρ σ a w hr vals ha
  match vals,ha with
  | [v0],ha =>
    obtain rfl : v0 = .string (B s) := ha.1
    rw [hP]
    refine (parse_any s hs w e.s e.w (Known.errs he hG hr)).mono ?_
    rintro en W' ⟨hb,hR⟩
    cases hp : NW.parse s with
    | none =>
      rw [hp] at hR hN
      obtain rfl : en = _ := hR
      exact ⟨_,⟨[],[]⟩,ρ,σ,parsedV none,rfl,hr.below hb,⟨[.slice none 0 0,.bool false],rfl,rfl,rfl,trivial⟩,hN _ _ ⟨rfl,rfl⟩⟩
    | some l =>
      rw [hp] at hR hN
      obtain ⟨v,rfl,hrow⟩ := hR
      obtain ⟨h1,fp,hnd,hfp,hk,h0⟩ := ownBlock_of_row hrow
      have hR := hr.push (o := frow l) (fp := fp) (v := v) hb (fun b hb => ⟨by have := (hfp b hb).1;omega,(hfp b hb).2⟩) hnd ⟨h0,hk⟩ h1
      refine ⟨_,⟨[],[frow l]⟩,_,_,parsedV (some l),rfl,hR,⟨[v,.bool true],rfl,?_,rfl,trivial⟩,hN _ _ ⟨rfl,rfl⟩⟩
      show (σ ++ [v])[0]? = some v
      have : σ.length = 0 := by rw [hr.lenS];rfl
      rw [List.getElem?_append_right (by omega),this];rfl
theorem parse_ctr {e : EA} (he : e.Ok) (s : List UInt8) (hs : s.length ≤ 1099511627776) : Ctr Tryz.prog (GE e) 86 [] [vv (.string (B s))] (fun os v => os = parsedO (NW.parse s) ∧ v = parsedV (NW.parse s)) := Ctr.moreG (GW_sub e) (parse_ctrW he s hs)
end Go.Proofs.YtbdacbcpniegiaaGreatDoor
namespace Go.Proofs.YtbdacbcpniegiaaGreatDoor
open Go Go.RowKit Go.Proofs Go.Sx
theorem ldG {X : Ctx} {p : Addr × Value} {N : Value → Prop} (h : X.wi.cell? p.1 = some p.2 ∧ p.1.block ∉ X.own ∧ loneStr X.wi p) (hN : N p.2) : p.1.block ∉ X.own ∧ ∃ v,X.wi.cell? p.1 = some v ∧ N v := ⟨h.2.1,_,h.1,hN⟩
theorem GE0 (e : EA) : ((⟨1,0,none⟩ : Addr),errV e.k) ∈ GE e := by simp [GE]
theorem GE1 (e : EA) : ((⟨0,0,none⟩ : Addr),errV e.f) ∈ GE e := by simp [GE]
theorem Ctr.ofV {P : Program} {G : List (Addr × Value)} {f : FuncId} {args : List Value} {r : Value} (h : ∀ w,(∀ p ∈ G,w.cell? p.1 = some p.2 ∧ loneStr w p) → Calls P f args.toArray w (fun e w' => e = .returned r ∧ Below w.heap.size w w')) :
    Ctr P G f [] (args.map vv) (fun os v => os = [] ∧ v = vv r) := by
  intro X hP hG N hN ρ σ a w hr vals ha
  have hv : vals = args := by
    have : ∀ {l : List Value} {m : List Value},All2 (DV σ) (l.map vv) m → m = l := by
      intro l
      induction l with
      | nil => intro m h;cases m with | nil => rfl | cons _ _ => exact h.elim
      | cons x l ih => intro m h;cases m with | nil => exact h.elim | cons y m => rw [ih h.2];congr 1;exact h.1
    exact this ha
  rw [hv,hP]
  refine (h w (fun p hp => ?_)).mono ?_
  · obtain ⟨h1,h2,h3⟩ := hG p hp
    refine ⟨hr.old h1 h2,?_⟩
    unfold loneStr at h3 ⊢
    split
    · rename_i s hs
      rw [hs] at h3
      obtain ⟨cs,t,h4⟩ := h3
      exact ⟨cs,t,(hr.low.block _ (Array.getElem?_eq_some_iff.1 h4).1 h2).trans h4⟩
    · trivial
  · rintro en w' ⟨rfl,hb⟩
    exact ⟨r,⟨[],[]⟩,ρ,σ,vv r,rfl,hr.below hb,rfl,hN _ _ ⟨rfl,rfl⟩⟩
theorem isNil_ctr (b : Addr) : Ctr Tryz.prog [] 89 [] [vv .nilIface,vv (errV b)] (fun os v => os = [] ∧ v = vv (.bool false)) :=
  Ctr.ofV (args := [.nilIface,errV b]) fun w _ => (is_nil b w).mono fun e w' h => ⟨h.1,h.2 ▸ Below.refl _ _⟩
theorem isSame_ctr (b : Addr) : Ctr Tryz.prog [] 89 [] [vv (errV b),vv (errV b)] (fun os v => os = [] ∧ v = vv (.bool true)) :=
  Ctr.ofV (args := [errV b,errV b]) fun w _ => (is_same b w).mono fun e w' h => ⟨h.1,h.2 ▸ Below.refl _ _⟩
theorem isOther_ctr {e : EA} (he : e.Ok) : Ctr Tryz.prog (GE e) 89 [] [vv (errV e.f),vv (errV e.k)] (fun os v => os = [] ∧ v = vv (.bool false)) :=
  Ctr.ofV (args := [errV e.f,errV e.k]) fun w hw => by
    obtain ⟨_,c1,t1,h1⟩ := hw (e.f,.string (B tF)) (by simp [GE])
    obtain ⟨_,c2,t2,h2⟩ := hw (e.k,.string (B tK)) (by simp [GE])
    exact (is_other e.f e.k c1 c2 t1 t2 w he.kf.symm h1 h2).mono fun e w' h => ⟨h.1,h.2 ▸ Below.refl _ _⟩
def kindL (s : List UInt8) : Int := match s with
  | [] => 0
  | b :: _ => if b.toNat < 1 ∨ 4 < b.toNat then 0 else b.toNat
theorem bad_nil {e : EA} (he : e.Ok) : Ctr Tryz.prog (GE e) 55 [] [vv .nilIface] (fun os v => os = [] ∧ v = vv (.bool false)) := by
  intro X0 hP0 hG0 N0 hN0
  refine CallVC.inline (f := 55) (by rw [hP0];exact Tryz.func55) rfl Tryz.ntmps55 rfl (by simp) ?_
  intro X K hU hnt hbl hK
  have hP : X.P = Tryz.prog := hU.P.trans hP0
  have hG := hG0.under hU
  have hT := Ty.T55 hP
  simp only [GA,↓GB,GX,simprocAttr] at hbl ⊢
  repeat' (first|(refine SX.seqK ?_;intro N hN)|((first | (refine SX.ops ?_));simp only [GA,↓GB,GX,simprocAttr,hnt,hT])|((first | refine SX.skip ?_ | refine SX.exit ?_ | refine SX.label ?_ | refine SX.ret ?_);try simp only [GA,↓GB,GX,simprocAttr])|(refine hN _ ?_;clear hN N)|((first | refine hK _ _ (FinI.ret3 ?_) | refine hK _ _ (FinI.nrm3 ?_));simp only [GA,↓GB,GX,simprocAttr,finP_s,hnt,hT];refine Done.out ?_)|(refine bif2.mk (fun hb => ?_) (fun hb => ?_) <;> (try simp only [hb,GA,↓GB,GX,simprocAttr,hnt,hT]) <;> ((first | cases hb | (simp only [HBs] at hb) | skip) <;> (first | (exfalso;omega) | skip)))|((first | (refine Ctr.use (isNil_ctr e.k) hP ?_ [] ?_ rfl rfl ?_;(focus (intro p hp;cases hp));(focus (refine LeR.of rfl trivial ?_ ?_ ?_ ?_ ?_ <;> first | decide | (simp only [GA,↓GB,GX,simprocAttr,GDs];done)));intro os' s hR;obtain ⟨rfl,rfl⟩ := hR) | (refine Ctr.use (isNil_ctr e.f) hP ?_ [] ?_ rfl rfl ?_;(focus (intro p hp;cases hp));(focus (refine LeR.of rfl trivial ?_ ?_ ?_ ?_ ?_ <;> first | decide | (simp only [GA,↓GB,GX,simprocAttr,GDs];done)));intro os' s hR;obtain ⟨rfl,rfl⟩ := hR));simp only [GA,↓GB,GX,simprocAttr,hnt,hT])|(refine ldG (p := (⟨1,0,none⟩,errV e.k)) (hG _ (GE0 e)) ?_;simp only [GA,↓GB,GX,simprocAttr,hnt,hT])|(refine ldG (p := (⟨0,0,none⟩,errV e.f)) (hG _ (GE1 e)) ?_;simp only [GA,↓GB,GX,simprocAttr,hnt,hT])|(refine and_mk ?_ ?_;(focus first | decide | omega | rfl | assumption | (simp only [LBs];omega) | (simp;done)))|(refine And.intro ?_ ?_))
  all_goals (try refine Done.mk ?_)
  all_goals exact hN0 _ _ ⟨rfl,rfl⟩
theorem bad_form {e : EA} (he : e.Ok) : Ctr Tryz.prog (GE e) 55 [] [vv (errV e.f)] (fun os v => os = [] ∧ v = vv (.bool true)) := by
  intro X0 hP0 hG0 N0 hN0
  refine CallVC.inline (f := 55) (by rw [hP0];exact Tryz.func55) rfl Tryz.ntmps55 rfl (by simp) ?_
  intro X K hU hnt hbl hK
  have hP : X.P = Tryz.prog := hU.P.trans hP0
  have hG := hG0.under hU
  have hT := Ty.T55 hP
  simp only [GA,↓GB,GX,simprocAttr] at hbl ⊢
  repeat' (first|(refine SX.seqK ?_;intro N hN)|((first | (refine SX.ops ?_));simp only [GA,↓GB,GX,simprocAttr,hnt,hT])|((first | refine SX.skip ?_ | refine SX.exit ?_ | refine SX.label ?_ | refine SX.ret ?_);try simp only [GA,↓GB,GX,simprocAttr])|(refine hN _ ?_;clear hN N)|((first | refine hK _ _ (FinI.ret3 ?_) | refine hK _ _ (FinI.nrm3 ?_));simp only [GA,↓GB,GX,simprocAttr,finP_s,hnt,hT];refine Done.out ?_)|(refine bif2.mk (fun hb => ?_) (fun hb => ?_) <;> (try simp only [hb,GA,↓GB,GX,simprocAttr,hnt,hT]) <;> ((first | cases hb | (simp only [HBs] at hb) | skip) <;> (first | (exfalso;omega) | skip)))|((first | (refine Ctr.use (isOther_ctr he) hP hG [] ?_ rfl rfl ?_;(focus (refine LeR.of rfl trivial ?_ ?_ ?_ ?_ ?_ <;> first | decide | (simp only [GA,↓GB,GX,simprocAttr,GDs];done)));intro os' s hR;obtain ⟨rfl,rfl⟩ := hR) | (refine Ctr.use (isSame_ctr e.f) hP ?_ [] ?_ rfl rfl ?_;(focus (intro p hp;cases hp));(focus (refine LeR.of rfl trivial ?_ ?_ ?_ ?_ ?_ <;> first | decide | (simp only [GA,↓GB,GX,simprocAttr,GDs];done)));intro os' s hR;obtain ⟨rfl,rfl⟩ := hR));simp only [GA,↓GB,GX,simprocAttr,hnt,hT])|(refine ldG (p := (⟨1,0,none⟩,errV e.k)) (hG _ (GE0 e)) ?_;simp only [GA,↓GB,GX,simprocAttr,hnt,hT])|(refine ldG (p := (⟨0,0,none⟩,errV e.f)) (hG _ (GE1 e)) ?_;simp only [GA,↓GB,GX,simprocAttr,hnt,hT])|(refine and_mk ?_ ?_;(focus first | decide | omega | rfl | assumption | (simp only [LBs];omega) | (simp;done)))|(refine And.intro ?_ ?_))
  all_goals (try refine Done.mk ?_)
  all_goals exact hN0 _ _ ⟨rfl,rfl⟩
theorem bad_kind {e : EA} (he : e.Ok) : Ctr Tryz.prog (GE e) 55 [] [vv (errV e.k)] (fun os v => os = [] ∧ v = vv (.bool true)) := by
  intro X0 hP0 hG0 N0 hN0
  refine CallVC.inline (f := 55) (by rw [hP0];exact Tryz.func55) rfl Tryz.ntmps55 rfl (by simp) ?_
  intro X K hU hnt hbl hK
  have hP : X.P = Tryz.prog := hU.P.trans hP0
  have hG := hG0.under hU
  have hT := Ty.T55 hP
  simp only [GA,↓GB,GX,simprocAttr] at hbl ⊢
  repeat' (first|(refine SX.seqK ?_;intro N hN)|((first | (refine SX.ops ?_));simp only [GA,↓GB,GX,simprocAttr,hnt,hT])|((first | refine SX.skip ?_ | refine SX.exit ?_ | refine SX.label ?_ | refine SX.ret ?_);try simp only [GA,↓GB,GX,simprocAttr])|(refine hN _ ?_;clear hN N)|((first | refine hK _ _ (FinI.ret3 ?_) | refine hK _ _ (FinI.nrm3 ?_));simp only [GA,↓GB,GX,simprocAttr,finP_s,hnt,hT];refine Done.out ?_)|(refine bif2.mk (fun hb => ?_) (fun hb => ?_) <;> (try simp only [hb,GA,↓GB,GX,simprocAttr,hnt,hT]) <;> ((first | cases hb | (simp only [HBs] at hb) | skip) <;> (first | (exfalso;omega) | skip)))|((first | (refine Ctr.use (isSame_ctr e.k) hP ?_ [] ?_ rfl rfl ?_;(focus (intro p hp;cases hp));(focus (refine LeR.of rfl trivial ?_ ?_ ?_ ?_ ?_ <;> first | decide | (simp only [GA,↓GB,GX,simprocAttr,GDs];done)));intro os' s hR;obtain ⟨rfl,rfl⟩ := hR));simp only [GA,↓GB,GX,simprocAttr,hnt,hT])|(refine ldG (p := (⟨1,0,none⟩,errV e.k)) (hG _ (GE0 e)) ?_;simp only [GA,↓GB,GX,simprocAttr,hnt,hT])|(refine ldG (p := (⟨0,0,none⟩,errV e.f)) (hG _ (GE1 e)) ?_;simp only [GA,↓GB,GX,simprocAttr,hnt,hT])|(refine and_mk ?_ ?_;(focus first | decide | omega | rfl | assumption | (simp only [LBs];omega) | (simp;done)))|(refine And.intro ?_ ?_))
  all_goals (try refine Done.mk ?_)
  all_goals exact hN0 _ _ ⟨rfl,rfl⟩
theorem kind_any (s : List UInt8) (w : World) : Calls Tryz.prog 19 #[.string (B s)] w fun e w' => e = .returned (.int .i64 (kindL s)) ∧ Below w.heap.size w w' := by
  cases s with
  | nil =>
    refine calls_pureK (args := [.string (B [])]) w Tryz.func19 rfl Tryz.ntmps19 (by simp) ?_
    intro X K hX hK
    have hnt : X.nt = 18 := by rw [hX]
    have hwi : X.wi = w := by rw [hX]
    have hP : X.P = Tryz.prog := by rw [hX]
    have hown : X.own = [] := by rw [hX]
    have hbl : X.base.length = 0 := by rw [hX];rfl
    clear hX
    have hT := Ty.T19 hP
    repeat' (first|(refine SX.seqK ?_;intro N hN)|((first | (refine SX.ops ?_));simp only [GA,↓GB,GX,simprocAttr,hnt,hT])|((first | refine SX.skip ?_ | refine SX.exit ?_ | refine SX.label ?_ | refine SX.ret ?_);try simp only [GA,↓GB,GX,simprocAttr])|(refine hN _ ?_;clear hN N)|(refine hK _ _ (Fin.res rfl hown ?_);simp only [GA,↓GB,GX,simprocAttr,f_a,f_b,f_n,f_c,f_B,f_v,f_g,f_0,f_1,f_2,hT,hwi];intro w' hbel;refine Done.out ?_)|((first | refine SX.cond rfl (fun hb => ?_) (fun hb => ?_) | (refine bif2.mk (fun hb => ?_) (fun hb => ?_) <;> (try simp only [hb,GA,↓GB,GX,simprocAttr,hnt,hT]))) <;> ((first | cases hb | (simp only [HBs] at hb) | skip) <;> (first | (exfalso;omega) | skip)))|(refine and_mk ?_ ?_;(focus first | decide | omega | rfl | assumption | (simp only [LBs];omega) | (simp;done)))|(refine And.intro ?_ ?_))
    all_goals (try refine Done.mk ?_)
    all_goals exact ⟨rfl,hbel⟩
  | cons b r =>
    refine calls_pureK (args := [.string (B (b :: r))]) w Tryz.func19 rfl Tryz.ntmps19 (by simp) ?_
    intro X K hX hK
    have hnt : X.nt = 18 := by rw [hX]
    have hwi : X.wi = w := by rw [hX]
    have hP : X.P = Tryz.prog := by rw [hX]
    have hown : X.own = [] := by rw [hX]
    have hbl : X.base.length = 0 := by rw [hX];rfl
    clear hX
    have hT := Ty.T19 hP
    repeat' (first|(refine SX.seqK ?_;intro N hN)|((first | (refine SX.ops ?_));simp only [GA,↓GB,GX,simprocAttr,hnt,hT])|((first | refine SX.skip ?_ | refine SX.exit ?_ | refine SX.label ?_ | refine SX.ret ?_);try simp only [GA,↓GB,GX,simprocAttr])|(refine hN _ ?_;clear hN N)|(refine hK _ _ (Fin.res rfl hown ?_);simp only [GA,↓GB,GX,simprocAttr,f_a,f_b,f_n,f_c,f_B,f_v,f_g,f_0,f_1,f_2,hT,hwi];intro w' hbel;refine Done.out ?_)|((first | refine SX.cond rfl (fun hb => ?_) (fun hb => ?_) | (refine bif2.mk (fun hb => ?_) (fun hb => ?_) <;> (try simp only [hb,GA,↓GB,GX,simprocAttr,hnt,hT]))) <;> ((first | cases hb | (simp only [HBs] at hb) | skip) <;> (first | (exfalso;omega) | skip)))|(refine and_mk ?_ ?_;(focus first | decide | omega | rfl | assumption | (simp only [LBs];omega) | (simp;done)))|(refine And.intro ?_ ?_))
    all_goals (try refine Done.mk ?_)
    · exact ⟨by rw [kindL,if_pos (by omega)],hbel⟩
    · exact ⟨by rw [kindL,if_pos (by omega)],hbel⟩
    · exact ⟨by have := b.toNat_lt;rw [kindL,if_neg (by omega),wI64 (by omega) (by omega)],hbel⟩
end Go.Proofs.YtbdacbcpniegiaaGreatDoor
namespace Go.Proofs.YtbdacbcpniegiaaGreatDoor
open Go Go.RowKit Go.Proofs Go.Sx
def takeP : List NW.Fld → Nat → Nat × Bool
  | [],n => (n,true)
  | f :: fs,n => if f.num = 1 then (if f.kind = 0 then takeP fs f.n else (n,false)) else takeP fs n
def okV (e : EA) (b : Bool) : Value := if b then .nilIface else errV e.f
theorem numBlk1 {X : Ctx} {code : Code} {c : Cfg} {K : Exit → Cfg → Prop} {id : Nat} (x : Nat) (h1 : (x : Int) = 1 → SX X code c (bx id K)) (h0 : ((x : Int) == 1) = false → SX X code c (bx id K)) : SX X (.block id code) c K := by
  refine SX.block ?_
  by_cases h : (x : Int) = 1
  · exact h1 h
  · exact h0 (by simpa using h)
instance : Inhabited NW.Fld := ⟨⟨0,0,0,[]⟩⟩
theorem flds_cell (l : List NW.Fld) (i : Nat) (h : i < l.length) : ((flds l).drop (i * 4)).take 4 = fcells (l.getD i default) := by
  induction l generalizing i with
  | nil => simp at h
  | cons f l ih =>
    cases i with
    | zero => simp [flds,fcells]
    | succ i =>
      have : flds (f :: l) = fcells f ++ flds l := rfl
      rw [this,show (i + 1) * 4 = 4 + i * 4 by omega,← List.drop_drop]
      simp only [List.getD_cons_succ]
      exact ih i (by simpa using h)
def takeR (s : List UInt8) (n : Nat) : Nat × Bool := match NW.parse s with
  | none => (n,false)
  | some l => takeP l n
@[reducible] def pingO (n : Nat) : List LO := [.map [(.int .i64 1,.agg [.v (.int .i64 0),.clo 88 [] [.loc 1 0]])],.cells [.loc 2 0] 117,.cells [.v (.int .u64 n)] 22]
theorem parse_len_aux : ∀ (n : Nat) (s : List UInt8) (l : List NW.Fld),s.length ≤ n → NW.parse s = some l → l.length ≤ s.length
  | n,[],l,_,h => by rw [NW.parse_nil] at h;cases h;simp
  | 0,b :: s,l,hn,h => by simp at hn
  | n + 1,b :: s,l,hn,h => by
    cases ht : NW.takeF (b :: s) with
    | none => rw [NW.parse_none (by simp) ht] at h;cases h
    | some fr =>
      obtain ⟨f,r⟩ := fr
      have hl := NW.takeF_len ht
      rw [NW.parse_some ht] at h
      cases hr : NW.parse r with
      | none => rw [hr] at h;cases h
      | some l' =>
        rw [hr] at h;cases h
        have := parse_len_aux n r l' (by simp only [List.length_cons] at hl hn;omega) hr
        simp only [List.length_cons] at *
        omega
theorem parse_len {s : List UInt8} {l : List NW.Fld} (h : NW.parse s = some l) : l.length ≤ s.length := parse_len_aux _ s l (Nat.le_refl _) h
theorem drop_getD {l : List NW.Fld} {i : Nat} (h : i < l.length) : l.drop i = l.getD i default :: l.drop (i + 1) := by
  rw [List.drop_eq_getElem_cons h];congr 1
  rw [List.getD_eq_getElem?_getD,List.getElem?_eq_getElem h];rfl
theorem takePing_ctr {e : EA} (he : e.Ok) (s : List UInt8) (hs : s.length ≤ 1099511627776) (n0 : Nat) : Ctr Tryz.prog (GE e) 52 (pingO n0) [vv (.string (B s)),.one (.c (.row 0))]
    (fun os v => os = pingO (takeR s n0).1 ∧ v = vv (okV e (takeR s n0).2)) := by
  have hk1 := True.intro
  have hpc := parse_ctr he s hs
  refine Ctr.less ?_
  cases hp : NW.parse s with
  | none =>
    rw [show takeR s n0 = (n0,false) by rw [takeR,hp]]
    rw [hp] at hpc;simp only [parsedO,parsedV] at hpc
    intro X0 hP0 hG0 N0 hN0
    refine CallVC.inline (f := 52) (by rw [hP0];exact Tryz.func52) rfl Tryz.ntmps52 rfl (by simp) ?_
    intro X K hU hnt hbl hK
    have hP : X.P = Tryz.prog := hU.P.trans hP0
    have hG := hG0.under hU
    have hT := Ty.T52 hP
    simp only [GA,↓GB,GX,simprocAttr] at hbl ⊢
    repeat' (first|(refine SX.seqK ?_;intro N hN)|((first | (refine SX.ops ?_));simp only [GA,↓GB,GX,simprocAttr,hnt,hT])|((first | refine SX.skip ?_ | refine SX.exit ?_ | refine SX.label ?_ | refine SX.ret ?_);try simp only [GA,↓GB,GX,simprocAttr])|(refine hN _ ?_;clear hN N)|((first | refine hK _ _ (FinI.ret3 ?_) | refine hK _ _ (FinI.nrm3 ?_));simp only [GA,↓GB,GX,simprocAttr,finP_s,hnt,hT];refine Done.out ?_)|(clear hN N;first | (refine hN _ ?_;clear hN N) | (clear hN N;refine hN _ ?_;clear hN N))|((first | refine SX.cond rfl (fun hb => ?_) (fun hb => ?_) | (refine bif2.mk (fun hb => ?_) (fun hb => ?_) <;> (try simp only [hb,GA,↓GB,GX,simprocAttr,hnt,hT]))) <;> ((first | cases hb | (simp only [HBs] at hb) | skip) <;> (first | (exfalso;omega) | skip)))|((first | (refine Ctr.use (hpc) hP hG [] ?_ rfl rfl ?_;(focus (refine LeR.of rfl trivial ?_ ?_ ?_ ?_ ?_ <;> first | decide | (simp only [GA,↓GB,GX,simprocAttr,GDs];done)));intro os' s hR;obtain ⟨rfl,rfl⟩ := hR));simp only [GA,↓GB,GX,simprocAttr,hnt,hT])|(refine ldG (p := (⟨0,0,none⟩,errV e.f)) (hG _ (GE1 e)) ?_;simp only [GA,↓GB,GX,simprocAttr,hnt,hT])|(refine SX.block ?_)|(refine and_mk ?_ ?_;(focus first | decide | omega | rfl | assumption | (simp only [LBs];omega) | (simp;done)))|(refine And.intro ?_ ?_))
    all_goals (try refine Done.mk ?_)
    all_goals ((refine hN0 _ _ ⟨[0,1,2],_,_,?_,?_,?_,⟨rfl,rfl⟩⟩;(focus exact LeR.of rfl trivial (by simp only [GA,↓GB,GX,simprocAttr,GDs]) (by decide) rfl rfl rfl);rotate_left;(focus rfl));rfl)
  | some l =>
    rw [show takeR s n0 = takeP l n0 by rw [takeR,hp]]
    have hll := parse_len hp
    rw [hp] at hpc;simp only [parsedO,parsedV] at hpc
    intro X0 hP0 hG0 N0 hN0
    refine CallVC.inline (f := 52) (by rw [hP0];exact Tryz.func52) rfl Tryz.ntmps52 rfl (by simp) ?_
    intro X K hU hnt hbl hK
    have hP : X.P = Tryz.prog := hU.P.trans hP0
    have hG := hG0.under hU
    have hT := Ty.T52 hP
    simp only [GA,↓GB,GX,simprocAttr] at hbl ⊢
    have hk9 : calleeOk X.P 88 = true := by rw [hP];kernel_rfl
    have hnt1 := True.intro;have hT1 := True.intro;have hU1P := True.intro
    repeat' (first|(refine numBlk1 (id := 1) (l.getD i default).num (fun hk1 => ?_) (fun hk1 => ?_))|(refine SX.seqK ?_;intro N hN)|((first | (refine SX.ops ?_));simp only [GA,↓GB,GX,simprocAttr,hnt,hT,hnt1,hT1,hU1P,hk1,hk9])|((first | refine SX.skip ?_ | refine SX.exit ?_ | refine SX.label ?_ | refine SX.ret ?_);try simp only [GA,↓GB,GX,simprocAttr])|(refine hN _ ?_;clear hN N)|((first | refine hK1 _ _ (FinI.ret3 ?_) | refine hK1 _ _ (FinI.nrm3 ?_));(repeat (clear hN N));clear hK1 K1;simp only [GA,↓GB,GX,simprocAttr,finP_s,hnt,hT,hnt1,hT1,hU1P,hk1,hk9])|((first | refine hK _ _ (FinI.ret3 ?_) | refine hK _ _ (FinI.nrm3 ?_));simp only [GA,↓GB,GX,simprocAttr,finP_s,hnt,hT,hnt1,hT1,hU1P,hk1,hk9];refine Done.out ?_)|(clear hN N;first | (refine hN _ ?_;clear hN N) | (clear hN N;refine hN _ ?_;clear hN N))|((first | refine SX.cond rfl (fun hb => ?_) (fun hb => ?_) | (refine bif2.mk (fun hb => ?_) (fun hb => ?_) <;> (try simp only [hb,GA,↓GB,GX,simprocAttr,hnt,hT,hnt1,hT1,hU1P,hk1,hk9]))) <;> ((first | cases hb | (simp only [HBs] at hb) | skip) <;> (first | (exfalso;omega) | skip)))|((first | (refine Ctr.use (hpc) hP hG [] ?_ rfl rfl ?_;(focus (refine LeR.of rfl trivial ?_ ?_ ?_ ?_ ?_ <;> first | decide | (simp only [GA,↓GB,GX,simprocAttr,GDs];done)));intro os' s hR;obtain ⟨rfl,rfl⟩ := hR));simp only [GA,↓GB,GX,simprocAttr,hnt,hT,hnt1,hT1,hU1P,hk1,hk9])|(refine CallVC.inline (f := 88) ?_ rfl Tryz.ntmps88 rfl ?_ ?_;(focus rw [hP];exact Tryz.func88);(focus simp);have hT1 := Ty.T88 hP;intro X1 K1 hU1 hnt1 hbl1 hK1;have hU1P := hU1.P;simp only [GA,↓GB,GX,simprocAttr] at hbl1 ⊢)|(refine ldG (p := (⟨0,0,none⟩,errV e.f)) (hG _ (GE1 e)) ?_;simp only [GA,↓GB,GX,simprocAttr,hnt,hT])|(refine ⟨fcells (l.getD i default),rfl,flds_cell _ _ (by omega),?_⟩ <;> simp only [fcells,GA,↓GB,GX,simprocAttr,hnt,hT,hk1])|(refine SX.loop (ι := { p : Nat × Nat // p.1 ≤ l.length ∧ takeP l n0 = takeP (l.drop p.1) p.2 }) (fun p => ⟨[(1,.one (.c (.row 0))),(19,.one (.c (.row 3))),(20,vv (.int .i64 l.length)),(21,vv (.int .i64 p.1.1))],[.map [(.int .i64 1,.agg [.v (.int .i64 0),.clo 88 [] [.loc 1 0]])],.cells [.loc 2 0] 117,.cells [.v (.int .u64 p.1.2)] 22,frow l]⟩) (fun p => l.length - p.1.1) ⟨(0,n0),Nat.zero_le _,rfl⟩ ⟨[0,1,2,3],(LeR.of (by rw [hbl];decide) (by simp only [GA,↓GB,GX,simprocAttr,GDs];try (rfl)) (by simp only [GA,↓GB,GX,simprocAttr,GDs];try (rfl)) (by decide) (by simp only [GA,↓GB,GX,simprocAttr,GDs]) (by simp only [GA,↓GB,GX,simprocAttr,GDs]) (by simp only [GA,↓GB,GX,simprocAttr,GDs]))⟩ ?_ <;> rintro ⟨⟨i,m⟩,hi,hm⟩ <;> simp only [] at hi hm ⊢)|((first | (refine Ctr.use (hpc) (hU1P.trans hP) (hG.under hU1) [] ?_ rfl rfl ?_;(focus (refine LeR.of rfl trivial ?_ ?_ ?_ ?_ ?_ <;> first | decide | (simp only [GA,↓GB,GX,simprocAttr,GDs];done)));intro os' s hR;obtain ⟨rfl,rfl⟩ := hR));simp only [GA,↓GB,GX,simprocAttr,hnt,hT,hnt1,hT1,hU1P,hk1,hk9])|(refine SX.block ?_)|(refine and_mk ?_ ?_;(focus first | decide | omega | rfl | assumption | (simp only [LBs];omega) | (simp;done)))|(refine And.intro ?_ ?_))
    all_goals (try refine Done.mk ?_)
    · have hmm : takeP l n0 = (m,false) := by rw [hm,drop_getD (by omega),takeP,if_pos (by omega),if_neg (by omega)]
      rw [hmm] at hN0
      (refine hN0 _ _ ⟨[0,1,2],_,_,?_,?_,?_,⟨rfl,rfl⟩⟩;(focus exact LeR.of rfl trivial (by simp only [GA,↓GB,GX,simprocAttr,GDs]) (by decide) rfl rfl rfl);rotate_left;(focus rfl))
      rfl
    · have hk0 : (l.getD i default).kind = 0 := by have := bne_eq_false_iff_eq.1 hb;omega
      refine ⟨⟨(i + 1,(l.getD i default).n),by show i + 1 ≤ l.length;omega,by rw [hm,drop_getD (by omega),takeP,if_pos (by omega),if_pos hk0]⟩,[0,1,2,3],(LeR.of (by rw [hbl];decide) (by simp only [GA,↓GB,GX,simprocAttr,GDs];try (first | (rw [wI64 (by omega) (by omega)];rfl) | rfl)) (by simp only [GA,↓GB,GX,simprocAttr,GDs];try (first | (rw [wI64 (by omega) (by omega)];rfl) | rfl)) (by decide) (by simp only [GA,↓GB,GX,simprocAttr,GDs]) (by simp only [GA,↓GB,GX,simprocAttr,GDs]) (by simp only [GA,↓GB,GX,simprocAttr,GDs])),by show l.length - (i + 1) < l.length - i;omega⟩
    · have hk0 : ¬ (l.getD i default).num = 1 := fun h => by rw [h] at hk1;cases hk1
      refine ⟨⟨(i + 1,m),by show i + 1 ≤ l.length;omega,by rw [hm,drop_getD (by omega),takeP,if_neg hk0]⟩,[0,1,2,3],(LeR.of (by rw [hbl];decide) (by simp only [GA,↓GB,GX,simprocAttr,GDs];try (first | (rw [wI64 (by omega) (by omega)];rfl) | rfl)) (by simp only [GA,↓GB,GX,simprocAttr,GDs];try (first | (rw [wI64 (by omega) (by omega)];rfl) | rfl)) (by decide) (by simp only [GA,↓GB,GX,simprocAttr,GDs]) (by simp only [GA,↓GB,GX,simprocAttr,GDs]) (by simp only [GA,↓GB,GX,simprocAttr,GDs])),by show l.length - (i + 1) < l.length - i;omega⟩
    · have hmm : takeP l n0 = (m,true) := by rw [hm,List.drop_of_length_le (by omega),takeP]
      rw [hmm] at hN0
      (refine hN0 _ _ ⟨[0,1,2],_,_,?_,?_,?_,⟨rfl,rfl⟩⟩;(focus exact LeR.of rfl trivial (by simp only [GA,↓GB,GX,simprocAttr,GDs]) (by decide) rfl rfl rfl);rotate_left;(focus rfl))
      rfl
end Go.Proofs.YtbdacbcpniegiaaGreatDoor
namespace Go.Proofs.YtbdacbcpniegiaaGreatDoor
open Go Go.RowKit Go.Proofs Go.Sx
def pingR (s : List UInt8) : Option Nat := if kindL s = 3 then (if (takeR (s.drop 1) 0).2 = true then some (takeR (s.drop 1) 0).1 else none) else none
theorem drop1 (s : List UInt8) : List.take (s.length - 1) (List.drop 1 s) = s.drop 1 := List.take_of_length_le (by simp)
theorem getPing_no {e : EA} (he : e.Ok) (s : List UInt8) (hk : ¬ kindL s = 3) (n0 : Nat) : Ctr Tryz.prog (GE e) 56 (pingO n0) [vv (.string (B s)),vv (.int .i64 3),.one (.c (.row 0))] (fun os v => os = pingO n0 ∧ v = vv (errV e.k)) := by
  have hk1 : (kindL s != 3) = true := by simpa using hk
  refine Ctr.less ?_
  intro X0 hP0 hG0 N0 hN0
  refine CallVC.inline (f := 56) (by rw [hP0];exact Tryz.func56) rfl Tryz.ntmps56 rfl (by simp) ?_
  intro X K hU hnt hbl hK
  have hP : X.P = Tryz.prog := hU.P.trans hP0
  have hG := hG0.under hU
  have hT := Ty.T56 hP
  simp only [GA,↓GB,GX,simprocAttr] at hbl ⊢
  repeat' (first|(refine SX.seqK ?_;intro N hN)|((first | (refine SX.ops ?_));simp only [GA,↓GB,GX,simprocAttr,hnt,hT,hk1])|((first | refine SX.skip ?_ | refine SX.exit ?_ | refine SX.label ?_ | refine SX.ret ?_);try simp only [GA,↓GB,GX,simprocAttr])|(refine hN _ ?_;clear hN N)|((first | refine hK _ _ (FinI.ret3 ?_) | refine hK _ _ (FinI.nrm3 ?_));simp only [GA,↓GB,GX,simprocAttr,finP_s,hnt,hT,hk1];refine Done.out ?_)|((first | refine SX.cond rfl (fun hb => ?_) (fun hb => ?_) | (refine bif2.mk (fun hb => ?_) (fun hb => ?_) <;> (try simp only [hb,GA,↓GB,GX,simprocAttr,hnt,hT,hk1]))) <;> ((first | cases hb | (simp only [HBs] at hb) | skip) <;> (first | (exfalso;omega) | skip)))|((first | (refine CallVC.pv hP (kind_any s) rfl ?_) | (refine CallQ.pv hP (kind_any s) rfl ?_));simp only [GA,↓GB,GX,simprocAttr,hnt,hT,hk1])|(refine ldG (p := (⟨1,0,none⟩,errV e.k)) (hG _ (GE0 e)) ?_;simp only [GA,↓GB,GX,simprocAttr,hnt,hT])|(refine and_mk ?_ ?_;(focus first | decide | omega | rfl | assumption | (simp only [LBs];omega) | (simp;done)))|(refine And.intro ?_ ?_))
  all_goals (try refine Done.mk ?_)
  all_goals ((refine hN0 _ _ ⟨[0,1,2],_,_,?_,?_,?_,⟨rfl,rfl⟩⟩;(focus exact LeR.of rfl trivial (by simp only [GA,↓GB,GX,simprocAttr,GDs]) (by decide) rfl rfl rfl);rotate_left;(focus rfl));rfl)
theorem getPing_yes {e : EA} (he : e.Ok) (s : List UInt8) (hs : s.length ≤ 1099511627776) (hk : kindL s = 3) (n0 : Nat) : Ctr Tryz.prog (GE e) 56 (pingO n0) [vv (.string (B s)),vv (.int .i64 3),.one (.c (.row 0))]
    (fun os v => os = pingO (takeR (s.drop 1) n0).1 ∧ v = vv (okV e (takeR (s.drop 1) n0).2)) := by
  have hd := drop1 s
  have h1 : 1 ≤ s.length := by cases s with | nil => simp [kindL] at hk | cons _ _ => simp
  refine Ctr.less ?_
  intro X0 hP0 hG0 N0 hN0
  refine CallVC.inline (f := 56) (by rw [hP0];exact Tryz.func56) rfl Tryz.ntmps56 rfl (by simp) ?_
  intro X K hU hnt hbl hK
  have hP : X.P = Tryz.prog := hU.P.trans hP0
  have hG := hG0.under hU
  have hT := Ty.T56 hP
  simp only [GA,↓GB,GX,simprocAttr] at hbl ⊢
  repeat' (first|(refine SX.seqK ?_;intro N hN)|((first | (refine SX.ops ?_));simp only [GA,↓GB,GX,simprocAttr,hnt,hT,hk,hd])|((first | refine SX.skip ?_ | refine SX.exit ?_ | refine SX.label ?_ | refine SX.ret ?_);try simp only [GA,↓GB,GX,simprocAttr])|(refine hN _ ?_;clear hN N)|((first | refine hK _ _ (FinI.ret3 ?_) | refine hK _ _ (FinI.nrm3 ?_));simp only [GA,↓GB,GX,simprocAttr,finP_s,hnt,hT,hk,hd];refine Done.out ?_)|((first | refine SX.cond rfl (fun hb => ?_) (fun hb => ?_) | (refine bif2.mk (fun hb => ?_) (fun hb => ?_) <;> (try simp only [hb,GA,↓GB,GX,simprocAttr,hnt,hT,hk,hd]))) <;> ((first | cases hb | (simp only [HBs] at hb) | skip) <;> (first | (exfalso;omega) | skip)))|((first | (refine CallVC.pv hP (kind_any s) rfl ?_) | (refine CallQ.pv hP (kind_any s) rfl ?_) | (refine Ctr.use (takePing_ctr he (s.drop 1) (by rw [List.length_drop];omega) n0) hP hG [0,1,2] ?_ rfl rfl ?_;(focus (refine LeR.of rfl trivial ?_ ?_ ?_ ?_ ?_ <;> first | decide | (simp only [GA,↓GB,GX,simprocAttr,GDs];done)));intro os' s hR;obtain ⟨rfl,rfl⟩ := hR));simp only [GA,↓GB,GX,simprocAttr,hnt,hT,hk,hd])|(refine and_mk ?_ ?_;(focus first | decide | omega | rfl | assumption | (simp only [LBs];omega) | (simp;done)))|(refine And.intro ?_ ?_))
  all_goals (try refine Done.mk ?_)
  all_goals ((refine hN0 _ _ ⟨[0,1,2],_,_,?_,?_,?_,⟨rfl,rfl⟩⟩;(focus exact LeR.of rfl trivial (by simp only [GA,↓GB,GX,simprocAttr,GDs]) (by decide) rfl rfl rfl);rotate_left;(focus rfl));rfl)
theorem getPing_ctr {e : EA} (he : e.Ok) (s : List UInt8) (hs : s.length ≤ 1099511627776) : Ctr Tryz.prog (GE e) 27 [] [vv (.string (B s))]
    (fun os v => os = [] ∧ v = .tup [.c (.v (.int .u64 ((pingR s).getD 0))),.c (.v (.bool (pingR s).isSome))]) := by
  refine Ctr.less ?_
  by_cases hk : kindL s = 3
  · cases hr : (takeR (s.drop 1) 0).2 with
    | true =>
      rw [show pingR s = some (takeR (s.drop 1) 0).1 by rw [pingR,if_pos hk,if_pos hr]]
      have hg := getPing_yes he s hs hk 0
      rw [hr] at hg
      have hb := bad_nil he
      intro X0 hP0 hG0 N0 hN0
      refine CallVC.inline (f := 27) (by rw [hP0];exact Tryz.func27) rfl Tryz.ntmps27 rfl (by simp) ?_
      intro X K hU hnt hbl hK
      have hP : X.P = Tryz.prog := hU.P.trans hP0
      have hG := hG0.under hU
      have hT := Ty.T27 hP
      simp only [GA,↓GB,GX,simprocAttr] at hbl ⊢
      have hk8 : aggOf X.P 113 = some true := by rw [hP];kernel_rfl
      have hnt1 := True.intro;have hT1 := True.intro;have hU1P := True.intro
      repeat' (first|(refine SX.seqK ?_;intro N hN)|((first | (refine SX.ops ?_));simp only [GA,↓GB,GX,simprocAttr,hnt,hT,hnt1,hT1,hU1P,hk8])|((first | refine SX.skip ?_ | refine SX.exit ?_ | refine SX.label ?_ | refine SX.ret ?_);try simp only [GA,↓GB,GX,simprocAttr])|(refine hN _ ?_;clear hN N)|((first | refine hK1 _ _ (FinI.ret3 ?_) | refine hK1 _ _ (FinI.nrm3 ?_));(repeat (clear hN N));clear hK1 K1;simp only [GA,↓GB,GX,simprocAttr,finP_s,hnt,hT,hnt1,hT1,hU1P,hk8])|((first | refine hK _ _ (FinI.ret3 ?_) | refine hK _ _ (FinI.nrm3 ?_));simp only [GA,↓GB,GX,simprocAttr,finP_s,hnt,hT,hnt1,hT1,hU1P,hk8];refine Done.out ?_)|((first | refine SX.cond rfl (fun hb => ?_) (fun hb => ?_) | (refine bif2.mk (fun hb => ?_) (fun hb => ?_) <;> (try simp only [hb,GA,↓GB,GX,simprocAttr,hnt,hT,hnt1,hT1,hU1P,hk8]))) <;> ((first | cases hb | (simp only [HBs] at hb) | skip) <;> (first | (exfalso;omega) | skip)))|((first | (refine Ctr.use (hg) hP hG [1,2,0] ?_ rfl rfl ?_;(focus (refine LeR.of rfl trivial ?_ ?_ ?_ ?_ ?_ <;> first | decide | (simp only [GA,↓GB,GX,simprocAttr,GDs];done)));intro os' s hR;obtain ⟨rfl,rfl⟩ := hR) | (refine Ctr.use (hb) hP hG [] ?_ rfl rfl ?_;(focus (refine LeR.of rfl trivial ?_ ?_ ?_ ?_ ?_ <;> first | decide | (simp only [GA,↓GB,GX,simprocAttr,GDs];done)));intro os' s hR;obtain ⟨rfl,rfl⟩ := hR));simp only [GA,↓GB,GX,simprocAttr,hnt,hT,hnt1,hT1,hU1P,hk8])|(refine CallVC.inline (f := 54) ?_ rfl Tryz.ntmps54 rfl ?_ ?_;(focus rw [hP];exact Tryz.func54);(focus simp);have hT1 := Ty.T54 hP;intro X1 K1 hU1 hnt1 hbl1 hK1;have hU1P := hU1.P;simp only [GA,↓GB,GX,simprocAttr] at hbl1 ⊢)|((first | (refine Ctr.use (hg) (hU1P.trans hP) (hG.under hU1) [1,2,0] ?_ rfl rfl ?_;(focus (refine LeR.of rfl trivial ?_ ?_ ?_ ?_ ?_ <;> first | decide | (simp only [GA,↓GB,GX,simprocAttr,GDs];done)));intro os' s hR;obtain ⟨rfl,rfl⟩ := hR) | (refine Ctr.use (hb) (hU1P.trans hP) (hG.under hU1) [] ?_ rfl rfl ?_;(focus (refine LeR.of rfl trivial ?_ ?_ ?_ ?_ ?_ <;> first | decide | (simp only [GA,↓GB,GX,simprocAttr,GDs];done)));intro os' s hR;obtain ⟨rfl,rfl⟩ := hR));simp only [GA,↓GB,GX,simprocAttr,hnt,hT,hnt1,hT1,hU1P,hk8])|(refine and_mk ?_ ?_;(focus first | decide | omega | rfl | assumption | (simp only [LBs];omega) | (simp;done)))|(refine And.intro ?_ ?_))
      all_goals (try refine Done.mk ?_)
      all_goals ((refine hN0 _ _ ⟨[],_,_,?_,?_,?_,⟨rfl,rfl⟩⟩;(focus exact LeR.of rfl trivial (by simp only [GA,↓GB,GX,simprocAttr,GDs]) (by decide) rfl rfl rfl);rotate_left;(focus rfl));rfl)
    | false =>
      rw [show pingR s = none by rw [pingR,if_pos hk,hr];rfl]
      have hg := getPing_yes he s hs hk 0
      rw [hr] at hg
      have hb := bad_form he
      intro X0 hP0 hG0 N0 hN0
      refine CallVC.inline (f := 27) (by rw [hP0];exact Tryz.func27) rfl Tryz.ntmps27 rfl (by simp) ?_
      intro X K hU hnt hbl hK
      have hP : X.P = Tryz.prog := hU.P.trans hP0
      have hG := hG0.under hU
      have hT := Ty.T27 hP
      simp only [GA,↓GB,GX,simprocAttr] at hbl ⊢
      have hk8 : aggOf X.P 113 = some true := by rw [hP];kernel_rfl
      have hnt1 := True.intro;have hT1 := True.intro;have hU1P := True.intro
      repeat' (first|(refine SX.seqK ?_;intro N hN)|((first | (refine SX.ops ?_));simp only [GA,↓GB,GX,simprocAttr,hnt,hT,hnt1,hT1,hU1P,hk8])|((first | refine SX.skip ?_ | refine SX.exit ?_ | refine SX.label ?_ | refine SX.ret ?_);try simp only [GA,↓GB,GX,simprocAttr])|(refine hN _ ?_;clear hN N)|((first | refine hK1 _ _ (FinI.ret3 ?_) | refine hK1 _ _ (FinI.nrm3 ?_));(repeat (clear hN N));clear hK1 K1;simp only [GA,↓GB,GX,simprocAttr,finP_s,hnt,hT,hnt1,hT1,hU1P,hk8])|((first | refine hK _ _ (FinI.ret3 ?_) | refine hK _ _ (FinI.nrm3 ?_));simp only [GA,↓GB,GX,simprocAttr,finP_s,hnt,hT,hnt1,hT1,hU1P,hk8];refine Done.out ?_)|((first | refine SX.cond rfl (fun hb => ?_) (fun hb => ?_) | (refine bif2.mk (fun hb => ?_) (fun hb => ?_) <;> (try simp only [hb,GA,↓GB,GX,simprocAttr,hnt,hT,hnt1,hT1,hU1P,hk8]))) <;> ((first | cases hb | (simp only [HBs] at hb) | skip) <;> (first | (exfalso;omega) | skip)))|((first | (refine Ctr.use (hg) hP hG [1,2,0] ?_ rfl rfl ?_;(focus (refine LeR.of rfl trivial ?_ ?_ ?_ ?_ ?_ <;> first | decide | (simp only [GA,↓GB,GX,simprocAttr,GDs];done)));intro os' s hR;obtain ⟨rfl,rfl⟩ := hR) | (refine Ctr.use (hb) hP hG [] ?_ rfl rfl ?_;(focus (refine LeR.of rfl trivial ?_ ?_ ?_ ?_ ?_ <;> first | decide | (simp only [GA,↓GB,GX,simprocAttr,GDs];done)));intro os' s hR;obtain ⟨rfl,rfl⟩ := hR));simp only [GA,↓GB,GX,simprocAttr,hnt,hT,hnt1,hT1,hU1P,hk8])|(refine CallVC.inline (f := 54) ?_ rfl Tryz.ntmps54 rfl ?_ ?_;(focus rw [hP];exact Tryz.func54);(focus simp);have hT1 := Ty.T54 hP;intro X1 K1 hU1 hnt1 hbl1 hK1;have hU1P := hU1.P;simp only [GA,↓GB,GX,simprocAttr] at hbl1 ⊢)|((first | (refine Ctr.use (hg) (hU1P.trans hP) (hG.under hU1) [1,2,0] ?_ rfl rfl ?_;(focus (refine LeR.of rfl trivial ?_ ?_ ?_ ?_ ?_ <;> first | decide | (simp only [GA,↓GB,GX,simprocAttr,GDs];done)));intro os' s hR;obtain ⟨rfl,rfl⟩ := hR) | (refine Ctr.use (hb) (hU1P.trans hP) (hG.under hU1) [] ?_ rfl rfl ?_;(focus (refine LeR.of rfl trivial ?_ ?_ ?_ ?_ ?_ <;> first | decide | (simp only [GA,↓GB,GX,simprocAttr,GDs];done)));intro os' s hR;obtain ⟨rfl,rfl⟩ := hR));simp only [GA,↓GB,GX,simprocAttr,hnt,hT,hnt1,hT1,hU1P,hk8])|(refine and_mk ?_ ?_;(focus first | decide | omega | rfl | assumption | (simp only [LBs];omega) | (simp;done)))|(refine And.intro ?_ ?_))
      all_goals (try refine Done.mk ?_)
      all_goals ((refine hN0 _ _ ⟨[],_,_,?_,?_,?_,⟨rfl,rfl⟩⟩;(focus exact LeR.of rfl trivial (by simp only [GA,↓GB,GX,simprocAttr,GDs]) (by decide) rfl rfl rfl);rotate_left;(focus rfl));rfl)
  · rw [show pingR s = none by rw [pingR,if_neg hk]]
    have hg := getPing_no he s hk 0
    have hb := bad_kind he
    intro X0 hP0 hG0 N0 hN0
    refine CallVC.inline (f := 27) (by rw [hP0];exact Tryz.func27) rfl Tryz.ntmps27 rfl (by simp) ?_
    intro X K hU hnt hbl hK
    have hP : X.P = Tryz.prog := hU.P.trans hP0
    have hG := hG0.under hU
    have hT := Ty.T27 hP
    simp only [GA,↓GB,GX,simprocAttr] at hbl ⊢
    have hk8 : aggOf X.P 113 = some true := by rw [hP];kernel_rfl
    have hnt1 := True.intro;have hT1 := True.intro;have hU1P := True.intro
    repeat' (first|(refine SX.seqK ?_;intro N hN)|((first | (refine SX.ops ?_));simp only [GA,↓GB,GX,simprocAttr,hnt,hT,hnt1,hT1,hU1P,hk8])|((first | refine SX.skip ?_ | refine SX.exit ?_ | refine SX.label ?_ | refine SX.ret ?_);try simp only [GA,↓GB,GX,simprocAttr])|(refine hN _ ?_;clear hN N)|((first | refine hK1 _ _ (FinI.ret3 ?_) | refine hK1 _ _ (FinI.nrm3 ?_));(repeat (clear hN N));clear hK1 K1;simp only [GA,↓GB,GX,simprocAttr,finP_s,hnt,hT,hnt1,hT1,hU1P,hk8])|((first | refine hK _ _ (FinI.ret3 ?_) | refine hK _ _ (FinI.nrm3 ?_));simp only [GA,↓GB,GX,simprocAttr,finP_s,hnt,hT,hnt1,hT1,hU1P,hk8];refine Done.out ?_)|((first | refine SX.cond rfl (fun hb => ?_) (fun hb => ?_) | (refine bif2.mk (fun hb => ?_) (fun hb => ?_) <;> (try simp only [hb,GA,↓GB,GX,simprocAttr,hnt,hT,hnt1,hT1,hU1P,hk8]))) <;> ((first | cases hb | (simp only [HBs] at hb) | skip) <;> (first | (exfalso;omega) | skip)))|((first | (refine Ctr.use (hg) hP hG [1,2,0] ?_ rfl rfl ?_;(focus (refine LeR.of rfl trivial ?_ ?_ ?_ ?_ ?_ <;> first | decide | (simp only [GA,↓GB,GX,simprocAttr,GDs];done)));intro os' s hR;obtain ⟨rfl,rfl⟩ := hR) | (refine Ctr.use (hb) hP hG [] ?_ rfl rfl ?_;(focus (refine LeR.of rfl trivial ?_ ?_ ?_ ?_ ?_ <;> first | decide | (simp only [GA,↓GB,GX,simprocAttr,GDs];done)));intro os' s hR;obtain ⟨rfl,rfl⟩ := hR));simp only [GA,↓GB,GX,simprocAttr,hnt,hT,hnt1,hT1,hU1P,hk8])|(refine CallVC.inline (f := 54) ?_ rfl Tryz.ntmps54 rfl ?_ ?_;(focus rw [hP];exact Tryz.func54);(focus simp);have hT1 := Ty.T54 hP;intro X1 K1 hU1 hnt1 hbl1 hK1;have hU1P := hU1.P;simp only [GA,↓GB,GX,simprocAttr] at hbl1 ⊢)|((first | (refine Ctr.use (hg) (hU1P.trans hP) (hG.under hU1) [1,2,0] ?_ rfl rfl ?_;(focus (refine LeR.of rfl trivial ?_ ?_ ?_ ?_ ?_ <;> first | decide | (simp only [GA,↓GB,GX,simprocAttr,GDs];done)));intro os' s hR;obtain ⟨rfl,rfl⟩ := hR) | (refine Ctr.use (hb) (hU1P.trans hP) (hG.under hU1) [] ?_ rfl rfl ?_;(focus (refine LeR.of rfl trivial ?_ ?_ ?_ ?_ ?_ <;> first | decide | (simp only [GA,↓GB,GX,simprocAttr,GDs];done)));intro os' s hR;obtain ⟨rfl,rfl⟩ := hR));simp only [GA,↓GB,GX,simprocAttr,hnt,hT,hnt1,hT1,hU1P,hk8])|(refine and_mk ?_ ?_;(focus first | decide | omega | rfl | assumption | (simp only [LBs];omega) | (simp;done)))|(refine And.intro ?_ ?_))
    all_goals (try refine Done.mk ?_)
    all_goals ((refine hN0 _ _ ⟨[],_,_,?_,?_,?_,⟨rfl,rfl⟩⟩;(focus exact LeR.of rfl trivial (by simp only [GA,↓GB,GX,simprocAttr,GDs]) (by decide) rfl rfl rfl);rotate_left;(focus rfl));rfl)
end Go.Proofs.YtbdacbcpniegiaaGreatDoor
namespace Go.Proofs.YtbdacbcpniegiaaGreatDoor
open Go Go.RowKit Go.Proofs Go.Sx
def takeG {S : Type} (step : NW.Fld → S → Option S) : List NW.Fld → S → S × Bool
  | [],s => (s,true)
  | f :: fs,s => match step f s with | some s' => takeG step fs s' | none => (s,false)
theorem takeG_no {S : Type} {step : NW.Fld → S → Option S} {l : List NW.Fld} {s0 m : S} {i : Nat} (h : takeG step l s0 = takeG step (l.drop i) m) (hi : i < l.length) (hs : step (l.getD i default) m = none) : takeG step l s0 = (m,false) := by
  rw [h,drop_getD hi,takeG,hs]
theorem takeG_go {S : Type} {step : NW.Fld → S → Option S} {l : List NW.Fld} {s0 m m' : S} {i : Nat} (h : takeG step l s0 = takeG step (l.drop i) m) (hi : i < l.length) (hs : step (l.getD i default) m = some m') : takeG step l s0 = takeG step (l.drop (i + 1)) m' := by
  rw [h,drop_getD hi,takeG,hs]
theorem takeG_end {S : Type} {step : NW.Fld → S → Option S} {l : List NW.Fld} {s0 m : S} {i : Nat} (h : takeG step l s0 = takeG step (l.drop i) m) (hi : l.length ≤ i) : takeG step l s0 = (m,true) := by
  rw [h,List.drop_of_length_le hi,takeG]
def takeB {S : Type} (step : NW.Fld → S → Option S) (s : List UInt8) (m : S) : S × Bool := match NW.parse s with
  | none => (m,false)
  | some l => takeG step l m
theorem numBlk5 {X : Ctx} {code : Code} {c : Cfg} {K : Exit → Cfg → Prop} {id : Nat} (x : Nat) (h1 : (x : Int) = 1 → SX X code c (bx id K)) (h2 : (x : Int) = 2 → SX X code c (bx id K)) (h3 : (x : Int) = 3 → SX X code c (bx id K)) (h4 : (x : Int) = 4 → SX X code c (bx id K)) (h5 : (x : Int) = 5 → SX X code c (bx id K))
    (h0 : ((x : Int) == 1) = false ∧ ((x : Int) == 2) = false ∧ ((x : Int) == 3) = false ∧ ((x : Int) == 4) = false ∧ ((x : Int) == 5) = false → SX X code c (bx id K)) : SX X (.block id code) c K := by
  refine SX.block ?_
  by_cases e1 : (x : Int) = 1
  · exact h1 e1
  by_cases e2 : (x : Int) = 2
  · exact h2 e2
  by_cases e3 : (x : Int) = 3
  · exact h3 e3
  by_cases e4 : (x : Int) = 4
  · exact h4 e4
  by_cases e5 : (x : Int) = 5
  · exact h5 e5
  exact h0 ⟨by simpa using e1,by simpa using e2,by simpa using e3,by simpa using e4,by simpa using e5⟩
structure StS where
  kind : Nat
  name : List UInt8
  seq : Nat
  fine : Nat
  det : List UInt8
def StS.zero : StS := ⟨0,[],0,0,[]⟩
def stepS (f : NW.Fld) (m : StS) : Option StS :=
  if f.num = 1 then (if f.kind = 0 then some { m with kind := f.n } else none)
  else if f.num = 2 then (if f.kind = 2 then some { m with name := f.s } else none)
  else if f.num = 3 then (if f.kind = 0 then some { m with seq := f.n } else none)
  else if f.num = 4 then (if f.kind = 0 then some { m with fine := f.n } else none)
  else if f.num = 5 then (if f.kind = 2 then some { m with det := f.s } else none)
  else some m
@[reducible] def statMap : LO := .map [(.int .i64 1,.agg [.v (.int .i64 0),.clo 88 [] [.loc 1 0]]),(.int .i64 2,.agg [.v (.int .i64 2),.clo 87 [] [.loc 2 0]]),(.int .i64 3,.agg [.v (.int .i64 0),.clo 88 [] [.loc 3 0]]),(.int .i64 4,.agg [.v (.int .i64 0),.clo 88 [] [.loc 4 0]]),(.int .i64 5,.agg [.v (.int .i64 2),.clo 87 [] [.loc 5 0]])]
@[reducible] def statO (m : StS) : List LO := [statMap,.cells [.loc 6 0] 117,.cells [.loc 8 1] 115,.cells [.loc 8 2] 117,.cells [.loc 7 0] 117,.cells [.loc 8 4] 115,.cells [.v (.int .u64 m.kind)] 22,.cells [.v (.int .u64 m.fine)] 22,
  .cells [.v (.int .i64 0),.v (.string (B m.name)),.v (.int .u64 m.seq),.v (.bool false),.v (.string (B m.det))] 52]
theorem takeStat_ctr {e : EA} (he : e.Ok) (s : List UInt8) (hs : s.length ≤ 1099511627776) (m0 : StS) : Ctr Tryz.prog (GE e) 52 (statO m0) [vv (.string (B s)),.one (.c (.row 0))]
    (fun os v => os = statO (takeB stepS s m0).1 ∧ v = vv (okV e (takeB stepS s m0).2)) := by
  have hk1 := True.intro
  have hpc := parse_ctr he s hs
  refine Ctr.less ?_
  cases hp : NW.parse s with
  | none =>
    rw [show takeB stepS s m0 = (m0,false) by rw [takeB,hp]]
    rw [hp] at hpc;simp only [parsedO,parsedV] at hpc
    intro X0 hP0 hG0 N0 hN0
    refine CallVC.inline (f := 52) (by rw [hP0];exact Tryz.func52) rfl Tryz.ntmps52 rfl (by simp) ?_
    intro X K hU hnt hbl hK
    have hP : X.P = Tryz.prog := hU.P.trans hP0
    have hG := hG0.under hU
    have hT := Ty.T52 hP
    simp only [GA,↓GB,GX,simprocAttr] at hbl ⊢
    repeat' (first|(refine SX.seqK ?_;intro N hN)|((first | (refine SX.ops ?_));simp only [GA,↓GB,GX,simprocAttr,hnt,hT])|((first | refine SX.skip ?_ | refine SX.exit ?_ | refine SX.label ?_ | refine SX.ret ?_);try simp only [GA,↓GB,GX,simprocAttr])|(refine hN _ ?_;clear hN N)|((first | refine hK _ _ (FinI.ret3 ?_) | refine hK _ _ (FinI.nrm3 ?_));simp only [GA,↓GB,GX,simprocAttr,finP_s,hnt,hT];refine Done.out ?_)|(clear hN N;first | (refine hN _ ?_;clear hN N) | (clear hN N;refine hN _ ?_;clear hN N))|((first | refine SX.cond rfl (fun hb => ?_) (fun hb => ?_) | (refine bif2.mk (fun hb => ?_) (fun hb => ?_) <;> (try simp only [hb,GA,↓GB,GX,simprocAttr,hnt,hT]))) <;> ((first | cases hb | (simp only [HBs] at hb) | skip) <;> (first | (exfalso;omega) | skip)))|((first | (refine Ctr.use (hpc) hP hG [] ?_ rfl rfl ?_;(focus (refine LeR.of rfl trivial ?_ ?_ ?_ ?_ ?_ <;> first | decide | (simp only [GA,↓GB,GX,simprocAttr,GDs];done)));intro os' s hR;obtain ⟨rfl,rfl⟩ := hR));simp only [GA,↓GB,GX,simprocAttr,hnt,hT])|(refine ldG (p := (⟨0,0,none⟩,errV e.f)) (hG _ (GE1 e)) ?_;simp only [GA,↓GB,GX,simprocAttr,hnt,hT])|(refine SX.block ?_)|(refine and_mk ?_ ?_;(focus first | decide | omega | rfl | assumption | (simp only [LBs];omega) | (simp;done)))|(refine And.intro ?_ ?_))
    all_goals (try refine Done.mk ?_)
    all_goals ((refine hN0 _ _ ⟨[0,1,2,3,4,5,6,7,8],_,_,?_,?_,?_,⟨rfl,rfl⟩⟩;(focus exact LeR.of rfl trivial (by simp only [GA,↓GB,GX,simprocAttr,GDs]) (by decide) rfl rfl rfl);rotate_left;(focus rfl));rfl)
  | some l =>
    rw [show takeB stepS s m0 = takeG stepS l m0 by rw [takeB,hp]]
    have hll := parse_len hp
    rw [hp] at hpc;simp only [parsedO,parsedV] at hpc
    intro X0 hP0 hG0 N0 hN0
    refine CallVC.inline (f := 52) (by rw [hP0];exact Tryz.func52) rfl Tryz.ntmps52 rfl (by simp) ?_
    intro X K hU hnt hbl hK
    have hP : X.P = Tryz.prog := hU.P.trans hP0
    have hG := hG0.under hU
    have hT := Ty.T52 hP
    simp only [GA,↓GB,GX,simprocAttr] at hbl ⊢
    have hk9 : calleeOk X.P 88 = true := by rw [hP];kernel_rfl
    have hk8 : calleeOk X.P 87 = true := by rw [hP];kernel_rfl
    have hnt1 := True.intro;have hT1 := True.intro;have hU1P := True.intro
    repeat' (first|(refine numBlk5 (id := 1) (l.getD i default).num (fun hk1 => ?_) (fun hk1 => ?_) (fun hk1 => ?_) (fun hk1 => ?_) (fun hk1 => ?_) (fun hk1 => ?_))|(refine SX.seqK ?_;intro N hN)|((first | (refine SX.ops ?_));simp only [GA,↓GB,GX,simprocAttr,hnt,hT,hnt1,hT1,hU1P,hk1,hk9,hk8])|((first | refine SX.skip ?_ | refine SX.exit ?_ | refine SX.label ?_ | refine SX.ret ?_);try simp only [GA,↓GB,GX,simprocAttr])|(refine hN _ ?_;clear hN N)|((first | refine hK1 _ _ (FinI.ret3 ?_) | refine hK1 _ _ (FinI.nrm3 ?_));(repeat (clear hN N));clear hK1 K1;simp only [GA,↓GB,GX,simprocAttr,finP_s,hnt,hT,hnt1,hT1,hU1P,hk1,hk9,hk8])|((first | refine hK _ _ (FinI.ret3 ?_) | refine hK _ _ (FinI.nrm3 ?_));simp only [GA,↓GB,GX,simprocAttr,finP_s,hnt,hT,hnt1,hT1,hU1P,hk1,hk9,hk8];refine Done.out ?_)|(clear hN N;first | (refine hN _ ?_;clear hN N) | (clear hN N;refine hN _ ?_;clear hN N))|((first | refine SX.cond rfl (fun hb => ?_) (fun hb => ?_) | (refine bif2.mk (fun hb => ?_) (fun hb => ?_) <;> (try simp only [hb,GA,↓GB,GX,simprocAttr,hnt,hT,hnt1,hT1,hU1P,hk1,hk9,hk8]))) <;> ((first | cases hb | (simp only [HBs] at hb) | skip) <;> (first | (exfalso;omega) | skip)))|((first | (refine Ctr.use (hpc) hP hG [] ?_ rfl rfl ?_;(focus (refine LeR.of rfl trivial ?_ ?_ ?_ ?_ ?_ <;> first | decide | (simp only [GA,↓GB,GX,simprocAttr,GDs];done)));intro os' s hR;obtain ⟨rfl,rfl⟩ := hR));simp only [GA,↓GB,GX,simprocAttr,hnt,hT,hnt1,hT1,hU1P,hk1,hk9,hk8])|(refine CallVC.inline (f := 88) ?_ rfl Tryz.ntmps88 rfl ?_ ?_;(focus rw [hP];exact Tryz.func88);(focus simp);have hT1 := Ty.T88 hP;intro X1 K1 hU1 hnt1 hbl1 hK1;have hU1P := hU1.P;simp only [GA,↓GB,GX,simprocAttr] at hbl1 ⊢)|(refine CallVC.inline (f := 87) ?_ rfl Tryz.ntmps87 rfl ?_ ?_;(focus rw [hP];exact Tryz.func87);(focus simp);have hT1 := Ty.T87 hP;intro X1 K1 hU1 hnt1 hbl1 hK1;have hU1P := hU1.P;simp only [GA,↓GB,GX,simprocAttr] at hbl1 ⊢)|(refine ldG (p := (⟨0,0,none⟩,errV e.f)) (hG _ (GE1 e)) ?_;simp only [GA,↓GB,GX,simprocAttr,hnt,hT])|(refine ⟨fcells (l.getD i default),rfl,flds_cell _ _ (by omega),?_⟩ <;> simp only [fcells,GA,↓GB,GX,simprocAttr,hnt,hT,hk1])|(refine SX.loop (ι := { p : Nat × StS // p.1 ≤ l.length ∧ takeG stepS l m0 = takeG stepS (l.drop p.1) p.2 }) (fun p => ⟨[(1,.one (.c (.row 0))),(19,.one (.c (.row 9))),(20,vv (.int .i64 l.length)),(21,vv (.int .i64 p.1.1))],[statMap,.cells [.loc 6 0] 117,.cells [.loc 8 1] 115,.cells [.loc 8 2] 117,.cells [.loc 7 0] 117,.cells [.loc 8 4] 115,.cells [.v (.int .u64 p.1.2.kind)] 22,.cells [.v (.int .u64 p.1.2.fine)] 22,.cells [.v (.int .i64 0),.v (.string (B p.1.2.name)),.v (.int .u64 p.1.2.seq),.v (.bool false),.v (.string (B p.1.2.det))] 52,frow l]⟩) (fun p => l.length - p.1.1) ⟨(0,m0),Nat.zero_le _,rfl⟩ ⟨[0,1,2,3,4,5,6,7,8,9],(LeR.of (by rw [hbl];decide) (by simp only [GA,↓GB,GX,simprocAttr,GDs];try (rfl)) (by simp only [GA,↓GB,GX,simprocAttr,GDs];try (rfl)) (by decide) (by simp only [GA,↓GB,GX,simprocAttr,GDs]) (by simp only [GA,↓GB,GX,simprocAttr,GDs]) (by simp only [GA,↓GB,GX,simprocAttr,GDs]))⟩ ?_ <;> rintro ⟨⟨i,m⟩,hi,hm⟩ <;> simp only [] at hi hm ⊢)|((first | (refine Ctr.use (hpc) (hU1P.trans hP) (hG.under hU1) [] ?_ rfl rfl ?_;(focus (refine LeR.of rfl trivial ?_ ?_ ?_ ?_ ?_ <;> first | decide | (simp only [GA,↓GB,GX,simprocAttr,GDs];done)));intro os' s hR;obtain ⟨rfl,rfl⟩ := hR));simp only [GA,↓GB,GX,simprocAttr,hnt,hT,hnt1,hT1,hU1P,hk1,hk9,hk8])|(refine SX.block ?_)|(refine and_mk ?_ ?_;(focus first | decide | omega | rfl | assumption | (simp only [LBs];omega) | (simp;done)))|(refine And.intro ?_ ?_))
    all_goals (try refine Done.mk ?_)
    · have hj : (l.getD i default).num = 1 := by omega
      have hq : ¬ (l.getD i default).kind = 0 := by omega
      rw [takeG_no hm (by omega) (by simp [-List.getD_eq_getElem?_getD,stepS,hj,hq])] at hN0
      (refine hN0 _ _ ⟨[0,1,2,3,4,5,6,7,8],_,_,?_,?_,?_,⟨rfl,rfl⟩⟩;(focus exact LeR.of rfl trivial (by simp only [GA,↓GB,GX,simprocAttr,GDs]) (by decide) rfl rfl rfl);rotate_left;(focus rfl))
      rfl
    · have hj : (l.getD i default).num = 1 := by omega
      have hq : (l.getD i default).kind = 0 := by have := bne_eq_false_iff_eq.1 hb;omega
      exact ⟨⟨(i + 1,{ m with kind := (l.getD i default).n }),by show i + 1 ≤ l.length;omega,takeG_go hm (by omega) (by simp [-List.getD_eq_getElem?_getD,stepS,hj,hq])⟩,[0,1,2,3,4,5,6,7,8,9],(LeR.of (by rw [hbl];decide) (by simp only [GA,↓GB,GX,simprocAttr,GDs];try (first | (rw [wI64 (by omega) (by omega)];rfl) | rfl)) (by simp only [GA,↓GB,GX,simprocAttr,GDs];try (first | (rw [wI64 (by omega) (by omega)];rfl) | rfl)) (by decide) (by simp only [GA,↓GB,GX,simprocAttr,GDs]) (by simp only [GA,↓GB,GX,simprocAttr,GDs]) (by simp only [GA,↓GB,GX,simprocAttr,GDs])),by show l.length - (i + 1) < l.length - i;omega⟩
    · have hj : (l.getD i default).num = 2 := by omega
      have hq : ¬ (l.getD i default).kind = 2 := by omega
      rw [takeG_no hm (by omega) (by simp [-List.getD_eq_getElem?_getD,stepS,hj,hq])] at hN0
      (refine hN0 _ _ ⟨[0,1,2,3,4,5,6,7,8],_,_,?_,?_,?_,⟨rfl,rfl⟩⟩;(focus exact LeR.of rfl trivial (by simp only [GA,↓GB,GX,simprocAttr,GDs]) (by decide) rfl rfl rfl);rotate_left;(focus rfl))
      rfl
    · have hj : (l.getD i default).num = 2 := by omega
      have hq : (l.getD i default).kind = 2 := by have := bne_eq_false_iff_eq.1 hb;omega
      exact ⟨⟨(i + 1,{ m with name := (l.getD i default).s }),by show i + 1 ≤ l.length;omega,takeG_go hm (by omega) (by simp [-List.getD_eq_getElem?_getD,stepS,hj,hq])⟩,[0,1,2,3,4,5,6,7,8,9],(LeR.of (by rw [hbl];decide) (by simp only [GA,↓GB,GX,simprocAttr,GDs];try (first | (rw [wI64 (by omega) (by omega)];rfl) | rfl)) (by simp only [GA,↓GB,GX,simprocAttr,GDs];try (first | (rw [wI64 (by omega) (by omega)];rfl) | rfl)) (by decide) (by simp only [GA,↓GB,GX,simprocAttr,GDs]) (by simp only [GA,↓GB,GX,simprocAttr,GDs]) (by simp only [GA,↓GB,GX,simprocAttr,GDs])),by show l.length - (i + 1) < l.length - i;omega⟩
    · have hj : (l.getD i default).num = 3 := by omega
      have hq : ¬ (l.getD i default).kind = 0 := by omega
      rw [takeG_no hm (by omega) (by simp [-List.getD_eq_getElem?_getD,stepS,hj,hq])] at hN0
      (refine hN0 _ _ ⟨[0,1,2,3,4,5,6,7,8],_,_,?_,?_,?_,⟨rfl,rfl⟩⟩;(focus exact LeR.of rfl trivial (by simp only [GA,↓GB,GX,simprocAttr,GDs]) (by decide) rfl rfl rfl);rotate_left;(focus rfl))
      rfl
    · have hj : (l.getD i default).num = 3 := by omega
      have hq : (l.getD i default).kind = 0 := by have := bne_eq_false_iff_eq.1 hb;omega
      exact ⟨⟨(i + 1,{ m with seq := (l.getD i default).n }),by show i + 1 ≤ l.length;omega,takeG_go hm (by omega) (by simp [-List.getD_eq_getElem?_getD,stepS,hj,hq])⟩,[0,1,2,3,4,5,6,7,8,9],(LeR.of (by rw [hbl];decide) (by simp only [GA,↓GB,GX,simprocAttr,GDs];try (first | (rw [wI64 (by omega) (by omega)];rfl) | rfl)) (by simp only [GA,↓GB,GX,simprocAttr,GDs];try (first | (rw [wI64 (by omega) (by omega)];rfl) | rfl)) (by decide) (by simp only [GA,↓GB,GX,simprocAttr,GDs]) (by simp only [GA,↓GB,GX,simprocAttr,GDs]) (by simp only [GA,↓GB,GX,simprocAttr,GDs])),by show l.length - (i + 1) < l.length - i;omega⟩
    · have hj : (l.getD i default).num = 4 := by omega
      have hq : ¬ (l.getD i default).kind = 0 := by omega
      rw [takeG_no hm (by omega) (by simp [-List.getD_eq_getElem?_getD,stepS,hj,hq])] at hN0
      (refine hN0 _ _ ⟨[0,1,2,3,4,5,6,7,8],_,_,?_,?_,?_,⟨rfl,rfl⟩⟩;(focus exact LeR.of rfl trivial (by simp only [GA,↓GB,GX,simprocAttr,GDs]) (by decide) rfl rfl rfl);rotate_left;(focus rfl))
      rfl
    · have hj : (l.getD i default).num = 4 := by omega
      have hq : (l.getD i default).kind = 0 := by have := bne_eq_false_iff_eq.1 hb;omega
      exact ⟨⟨(i + 1,{ m with fine := (l.getD i default).n }),by show i + 1 ≤ l.length;omega,takeG_go hm (by omega) (by simp [-List.getD_eq_getElem?_getD,stepS,hj,hq])⟩,[0,1,2,3,4,5,6,7,8,9],(LeR.of (by rw [hbl];decide) (by simp only [GA,↓GB,GX,simprocAttr,GDs];try (first | (rw [wI64 (by omega) (by omega)];rfl) | rfl)) (by simp only [GA,↓GB,GX,simprocAttr,GDs];try (first | (rw [wI64 (by omega) (by omega)];rfl) | rfl)) (by decide) (by simp only [GA,↓GB,GX,simprocAttr,GDs]) (by simp only [GA,↓GB,GX,simprocAttr,GDs]) (by simp only [GA,↓GB,GX,simprocAttr,GDs])),by show l.length - (i + 1) < l.length - i;omega⟩
    · have hj : (l.getD i default).num = 5 := by omega
      have hq : ¬ (l.getD i default).kind = 2 := by omega
      rw [takeG_no hm (by omega) (by simp [-List.getD_eq_getElem?_getD,stepS,hj,hq])] at hN0
      (refine hN0 _ _ ⟨[0,1,2,3,4,5,6,7,8],_,_,?_,?_,?_,⟨rfl,rfl⟩⟩;(focus exact LeR.of rfl trivial (by simp only [GA,↓GB,GX,simprocAttr,GDs]) (by decide) rfl rfl rfl);rotate_left;(focus rfl))
      rfl
    · have hj : (l.getD i default).num = 5 := by omega
      have hq : (l.getD i default).kind = 2 := by have := bne_eq_false_iff_eq.1 hb;omega
      exact ⟨⟨(i + 1,{ m with det := (l.getD i default).s }),by show i + 1 ≤ l.length;omega,takeG_go hm (by omega) (by simp [-List.getD_eq_getElem?_getD,stepS,hj,hq])⟩,[0,1,2,3,4,5,6,7,8,9],(LeR.of (by rw [hbl];decide) (by simp only [GA,↓GB,GX,simprocAttr,GDs];try (first | (rw [wI64 (by omega) (by omega)];rfl) | rfl)) (by simp only [GA,↓GB,GX,simprocAttr,GDs];try (first | (rw [wI64 (by omega) (by omega)];rfl) | rfl)) (by decide) (by simp only [GA,↓GB,GX,simprocAttr,GDs]) (by simp only [GA,↓GB,GX,simprocAttr,GDs]) (by simp only [GA,↓GB,GX,simprocAttr,GDs])),by show l.length - (i + 1) < l.length - i;omega⟩
    · obtain ⟨g1,g2,g3,g4,g5⟩ := hk1
      have k1 : ¬ (l.getD i default).num = 1 := fun h => by rw [h] at g1;cases g1
      have k2 : ¬ (l.getD i default).num = 2 := fun h => by rw [h] at g2;cases g2
      have k3 : ¬ (l.getD i default).num = 3 := fun h => by rw [h] at g3;cases g3
      have k4 : ¬ (l.getD i default).num = 4 := fun h => by rw [h] at g4;cases g4
      have k5 : ¬ (l.getD i default).num = 5 := fun h => by rw [h] at g5;cases g5
      exact ⟨⟨(i + 1,m),by show i + 1 ≤ l.length;omega,takeG_go hm (by omega) (by simp [-List.getD_eq_getElem?_getD,stepS,k1,k2,k3,k4,k5])⟩,[0,1,2,3,4,5,6,7,8,9],(LeR.of (by rw [hbl];decide) (by simp only [GA,↓GB,GX,simprocAttr,GDs];try (first | (rw [wI64 (by omega) (by omega)];rfl) | rfl)) (by simp only [GA,↓GB,GX,simprocAttr,GDs];try (first | (rw [wI64 (by omega) (by omega)];rfl) | rfl)) (by decide) (by simp only [GA,↓GB,GX,simprocAttr,GDs]) (by simp only [GA,↓GB,GX,simprocAttr,GDs]) (by simp only [GA,↓GB,GX,simprocAttr,GDs])),by show l.length - (i + 1) < l.length - i;omega⟩
    · rw [takeG_end hm (by omega)] at hN0
      (refine hN0 _ _ ⟨[0,1,2,3,4,5,6,7,8],_,_,?_,?_,?_,⟨rfl,rfl⟩⟩;(focus exact LeR.of rfl trivial (by simp only [GA,↓GB,GX,simprocAttr,GDs]) (by decide) rfl rfl rfl);rotate_left;(focus rfl))
      rfl
end Go.Proofs.YtbdacbcpniegiaaGreatDoor
namespace Go.Proofs.YtbdacbcpniegiaaGreatDoor
open Go Go.RowKit Go.Proofs Go.Sx
end Go.Proofs.YtbdacbcpniegiaaGreatDoor
namespace Go.Proofs.YtbdacbcpniegiaaGreatDoor
open Go Go.RowKit Go.Proofs Go.Sx
def cmpKey (a : Int) (s : List UInt8) (b : Int) (t : List UInt8) : Int := if cmpI a b ≠ 0 then cmpI a b else cmpS s t
end Go.Proofs.YtbdacbcpniegiaaGreatDoor
namespace Go.Proofs
open Go.Shelf
def Tryz.lays160_ren : Go.Shelf.Ren := ⟨fun | 160 => 94 | 232 => 108 | 231 => 107 | 227 => 109 | 234 => 111 | 233 => 110 | 236 => 113 | 235 => 112 | 228 => 117 | 271 => 120 | 151 => 119 | 197 => 118 | 120 => 124 | 152 => 123 | 260 => 122 | 137 => 125 | 119 => 126 | 224 => 127 | 225 => 128 | 217 => 129 | 266 => 130 | n => n,fun | 9 => 9 | 4 => 4 | 3 => 3 | 5 => 5 | 117 => 179 | 116 => 178 | 0 => 0 | 124 => 182 | 21 => 21 | 105 => 199 | 46 => 53 | 119 => 203 | 139 => 206 | 138 => 205 | n => n,fun | 3 => 4 | 4 => 5 | n => n⟩
theorem Tryz.lays160 : Lays.n160 Tryz.prog Tryz.lays160_ren := {
  mixed := by kernel_rfl,
  f119 := Tryz.func126.trans (congrArg some (by kernel_rfl)),
  f120 := Tryz.func124.trans (congrArg some (by kernel_rfl)),
  f137 := Tryz.func125.trans (congrArg some (by kernel_rfl)),
  f151 := Tryz.func119.trans (congrArg some (by kernel_rfl)),
  f152 := Tryz.func123.trans (congrArg some (by kernel_rfl)),
  f160 := Tryz.func94.trans (congrArg some (by kernel_rfl)),
  f197 := Tryz.func118.trans (congrArg some (by kernel_rfl)),
  f217 := Tryz.func129.trans (congrArg some (by kernel_rfl)),
  f224 := Tryz.func127.trans (congrArg some (by kernel_rfl)),
  f225 := Tryz.func128.trans (congrArg some (by kernel_rfl)),
  f227 := Tryz.func109.trans (congrArg some (by kernel_rfl)),
  f228 := Tryz.func117.trans (congrArg some (by kernel_rfl)),
  f231 := Tryz.func107.trans (congrArg some (by kernel_rfl)),
  f232 := Tryz.func108.trans (congrArg some (by kernel_rfl)),
  f233 := Tryz.func110.trans (congrArg some (by kernel_rfl)),
  f234 := Tryz.func111.trans (congrArg some (by kernel_rfl)),
  f235 := Tryz.func112.trans (congrArg some (by kernel_rfl)),
  f236 := Tryz.func113.trans (congrArg some (by kernel_rfl)),
  f260 := Tryz.func122.trans (congrArg some (by kernel_rfl)),
  f266 := Tryz.func130.trans (congrArg some (by kernel_rfl)),
  f271 := Tryz.func120.trans (congrArg some (by kernel_rfl)),
  t0 := Tryz.underlying0,
  a0 := Tryz.isAgg0,
  z0 := Tryz.sizeOf0,
  v0 := Tryz.zeroValue0,
  t3 := Tryz.underlying3,
  a3 := Tryz.isAgg3,
  z3 := Tryz.sizeOf3,
  v3 := Tryz.zeroValue3,
  t4 := Tryz.underlying4,
  a4 := Tryz.isAgg4,
  z4 := Tryz.sizeOf4,
  v4 := Tryz.zeroValue4,
  t5 := Tryz.underlying5,
  a5 := Tryz.isAgg5,
  z5 := Tryz.sizeOf5,
  v5 := Tryz.zeroValue5,
  t9 := Tryz.underlying9,
  a9 := Tryz.isAgg9,
  z9 := Tryz.sizeOf9,
  v9 := Tryz.zeroValue9,
  t21 := Tryz.underlying21,
  a21 := Tryz.isAgg21,
  z21 := Tryz.sizeOf21,
  v21 := Tryz.zeroValue21,
  t46 := Tryz.underlying53,
  a46 := Tryz.isAgg53,
  z46 := Tryz.sizeOf53,
  v46 := Tryz.zeroValue53,
  t105 := Tryz.underlying199,
  a105 := Tryz.isAgg199,
  z105 := Tryz.sizeOf199,
  v105 := Tryz.zeroValue199,
  t116 := Tryz.underlying178,
  a116 := Tryz.isAgg178,
  z116 := Tryz.sizeOf178,
  t117 := Tryz.underlying179,
  a117 := Tryz.isAgg179,
  z117 := Tryz.sizeOf179,
  v117 := Tryz.zeroValue179,
  t119 := Tryz.underlying203,
  a119 := Tryz.isAgg203,
  z119 := Tryz.sizeOf203,
  t124 := Tryz.underlying182,
  a124 := Tryz.isAgg182,
  z124 := Tryz.sizeOf182,
  v124 := Tryz.zeroValue182,
  t138 := Tryz.underlying205,
  a138 := Tryz.isAgg205,
  z138 := Tryz.sizeOf205,
  v138 := Tryz.zeroValue205,
  t139 := Tryz.underlying206,
  a139 := Tryz.isAgg206,
  z139 := Tryz.sizeOf206,
  v139 := Tryz.zeroValue206,
  g3 := by kernel_rfl,
  g4 := by kernel_rfl }
end Go.Proofs
namespace Go.Proofs.YtbdacbcpniegiaaGreatDoor
open Go Go.RowKit Go.Proofs Go.Sx
def nameCs : List UInt8 := [97,98,99,100,101,102,103,104,105,106,107,108,109,110,111,112,113,114,115,116,117,118,119,120,121,122,48,49,50,51,52,53,54,55,56,57,45,46,47]
theorem trim_any (s : List UInt8) (hs : s.length ≤ 9223372036854775807) (w : World) : Calls Tryz.prog 94 #[.string (B s),.string (B nameCs)] w fun e w' => e = .returned (.string (B (Lib.trimS s nameCs))) ∧ Below w.heap.size w w' := by
  have h := Any.strings_Trim_laid Tryz.lays160 (by kernel_rfl) (B s) (B nameCs) w (by rw [B_size];exact hs) (by decide) (ascii_of_all (by decide))
  exact h
end Go.Proofs.YtbdacbcpniegiaaGreatDoor
namespace Go.Proofs.YtbdacbcpniegiaaGreatDoor
open Go Go.RowKit Go.Proofs Go.Sx
def nameB (s : List UInt8) : Bool := !(s == []) && decide ((s.length : Int) ≤ 64) && (Lib.trimS s nameCs == [])
theorem name_any (s : List UInt8) (hs : s.length ≤ 9223372036854775807) (w : World) : Calls Tryz.prog 66 #[.string (B s)] w fun e w' => e = .returned (.bool (nameB s)) ∧ Below w.heap.size w w' := by
  refine calls_pureK (args := [.string (B s)]) w Tryz.func66 rfl Tryz.ntmps66 (by simp) ?_
  intro X K hX hK
  have hnt : X.nt = 15 := by rw [hX]
  have hwi : X.wi = w := by rw [hX]
  have hP : X.P = Tryz.prog := by rw [hX]
  have hown : X.own = [] := by rw [hX]
  have hbl : X.base.length = 0 := by rw [hX];rfl
  clear hX
  have hT := Ty.T66 hP
  repeat' (first|(refine SX.seqK ?_;intro N hN)|((first | (refine SX.ops ?_));simp only [GA,↓GB,GX,simprocAttr,hnt,hT])|((first | refine SX.skip ?_ | refine SX.exit ?_ | refine SX.label ?_ | refine SX.ret ?_);try simp only [GA,↓GB,GX,simprocAttr])|(refine hN _ ?_;clear hN N)|(refine hK _ _ (Fin.res rfl hown ?_);simp only [GA,↓GB,GX,simprocAttr,f_a,f_b,f_n,f_c,f_B,f_v,f_g,f_0,f_1,f_2,hT,hwi];intro w' hbel;refine Done.out ?_)|(refine bif2.mk (fun hb => ?_) (fun hb => ?_) <;> (try simp only [hb,GA,↓GB,GX,simprocAttr,hnt,hT]) <;> ((first | cases hb | (simp only [HBs] at hb) | skip) <;> (first | (exfalso;omega) | skip)))|((first | (refine CallVC.pv hP (trim_any _ (by omega)) rfl ?_) | (refine CallQ.pv hP (trim_any _ (by omega)) rfl ?_));simp only [GA,↓GB,GX,simprocAttr,hnt,hT])|(refine and_mk ?_ ?_;(focus first | decide | omega | rfl | assumption | (simp only [LBs];omega) | (simp;done)))|(refine And.intro ?_ ?_))
  all_goals (try refine Done.mk ?_)
  all_goals (refine ⟨?_,hbel⟩;simp_all [nameB] <;> (intros;omega))
def keyB (t : Int) (s : List UInt8) : Bool := decide (1 ≤ t) && decide (t ≤ 5) && (s == [42] || nameB s)
theorem key_any (t : Int) (s : List UInt8) (hs : s.length ≤ 9223372036854775807) (w : World) : Calls Tryz.prog 95 #[.agg #[.int .i64 t,.string (B s)]] w fun e w' => e = .returned (.bool (keyB t s)) ∧ Below w.heap.size w w' := by
  refine calls_pureK (args := [.agg #[.int .i64 t,.string (B s)]]) w Tryz.func95 rfl Tryz.ntmps95 (by simp) ?_
  intro X K hX hK
  have hnt : X.nt = 21 := by rw [hX]
  have hwi : X.wi = w := by rw [hX]
  have hP : X.P = Tryz.prog := by rw [hX]
  have hown : X.own = [] := by rw [hX]
  have hbl : X.base.length = 0 := by rw [hX];rfl
  clear hX
  have hT := Ty.T95 hP
  repeat' (first|(refine SX.seqK ?_;intro N hN)|((first | (refine SX.ops ?_));simp only [GA,↓GB,GX,simprocAttr,hnt,hT])|((first | refine SX.skip ?_ | refine SX.exit ?_ | refine SX.label ?_ | refine SX.ret ?_);try simp only [GA,↓GB,GX,simprocAttr])|(refine hN _ ?_;clear hN N)|(refine hK _ _ (Fin.res rfl hown ?_);simp only [GA,↓GB,GX,simprocAttr,f_a,f_b,f_n,f_c,f_B,f_v,f_g,f_0,f_1,f_2,hT,hwi];intro w' hbel;refine Done.out ?_)|(refine bif2.mk (fun hb => ?_) (fun hb => ?_) <;> (try simp only [hb,GA,↓GB,GX,simprocAttr,hnt,hT]) <;> ((first | cases hb | (simp only [HBs] at hb) | skip) <;> (first | (exfalso;omega) | skip)))|((first | (refine CallVC.pv hP (name_any _ hs) rfl ?_) | (refine CallQ.pv hP (name_any _ hs) rfl ?_));simp only [GA,↓GB,GX,simprocAttr,hnt,hT])|(refine and_mk ?_ ?_;(focus first | decide | omega | rfl | assumption | (simp only [LBs];omega) | (simp;done)))|(refine And.intro ?_ ?_))
  all_goals (try refine Done.mk ?_)
  all_goals (refine ⟨?_,hbel⟩;simp_all [keyB] <;> (intros;omega))
def statusB (t : Int) (s : List UInt8) (q : Int) (ok : Bool) (d : List UInt8) : Bool := keyB t s && !(s == [42]) && decide (0 < q) && decide ((d.length : Int) ≤ 256) && (!ok || d == [])
theorem statusRight_any (t : Int) (s : List UInt8) (q : Int) (ok : Bool) (d : List UInt8) (hs : s.length ≤ 9223372036854775807) (w : World) :
    Calls Tryz.prog 69 #[.agg #[.int .i64 t,.string (B s),.int .u64 q,.bool ok,.string (B d)]] w fun e w' => e = .returned (.bool (statusB t s q ok d)) ∧ Below w.heap.size w w' := by
  refine calls_pureK (args := [.agg #[.int .i64 t,.string (B s),.int .u64 q,.bool ok,.string (B d)]]) w Tryz.func69 rfl Tryz.ntmps69 (by simp) ?_
  intro X K hX hK
  have hnt : X.nt = 33 := by rw [hX]
  have hwi : X.wi = w := by rw [hX]
  have hP : X.P = Tryz.prog := by rw [hX]
  have hown : X.own = [] := by rw [hX]
  have hbl : X.base.length = 0 := by rw [hX];rfl
  clear hX
  have hT := Ty.T69 hP
  repeat' (first|(refine SX.seqK ?_;intro N hN)|((first | (refine SX.ops ?_));simp only [GA,↓GB,GX,simprocAttr,hnt,hT])|((first | refine SX.skip ?_ | refine SX.exit ?_ | refine SX.label ?_ | refine SX.ret ?_);try simp only [GA,↓GB,GX,simprocAttr])|(refine hN _ ?_;clear hN N)|(refine hK _ _ (Fin.res rfl hown ?_);simp only [GA,↓GB,GX,simprocAttr,f_a,f_b,f_n,f_c,f_B,f_v,f_g,f_0,f_1,f_2,hT,hwi];intro w' hbel;refine Done.out ?_)|(refine bif2.mk (fun hb => ?_) (fun hb => ?_) <;> (try simp only [hb,GA,↓GB,GX,simprocAttr,hnt,hT]) <;> ((first | cases hb | (simp only [HBs] at hb) | skip) <;> (first | (exfalso;omega) | skip)))|((first | (refine CallVC.pv hP (key_any _ _ hs) rfl ?_) | (refine CallQ.pv hP (key_any _ _ hs) rfl ?_));simp only [GA,↓GB,GX,simprocAttr,hnt,hT])|(refine and_mk ?_ ?_;(focus first | decide | omega | rfl | assumption | (simp only [LBs];omega) | (simp;done)))|(refine And.intro ?_ ?_))
  all_goals (try refine Done.mk ?_)
  all_goals (refine ⟨?_,hbel⟩;simp_all [statusB] <;> (intros;omega))
end Go.Proofs.YtbdacbcpniegiaaGreatDoor
namespace Go.Proofs.YtbdacbcpniegiaaGreatDoor
open Go Go.RowKit Go.Proofs Go.Sx
theorem noEscape_run {P : Program} (hP : P = Tryz.prog) (v : Value) (w : World) : (callFunc 100 #[v]).run P w = .ok (.value v) w := by
  subst hP
  rw [run_callFunc_extern Tryz.func100 (by kernel_rfl) (by kernel_rfl) (by kernel_rfl) (e := Extern.AbiNoEscape.same) (by kernel_rfl),Lib.run_noEscape]
  rfl
theorem writeByte_fresh (b : Int) : Ctr Tryz.prog [] 42 [.cells [.v (.pointer none),.v (.slice none 0 0)] 96] [.one (.c (.loc 0 0)),vv (.int .u8 b)]
    (fun os s => os = [.cells [.loc 0 0,.row 3] 96,.cells [.v (.int .u8 b)] 5,.gone,.row 5 1 1 [.int .u8 b]] ∧ s = vv .nilIface) := by
  intro X0 hP0 hG0 N0 hN0
  refine CallVC.inline (f := 42) (by rw [hP0];exact Tryz.func42) rfl Tryz.ntmps42 rfl (by simp) ?_
  intro X K hU hnt hbl hK
  have hP : X.P = Tryz.prog := hU.P.trans hP0
  have hG := hG0.under hU
  have hT := Ty.T42 hP
  simp only [GA,↓GB,GX,simprocAttr] at hbl ⊢
  have hnt1 := True.intro;have hT1 := True.intro;have hU1P := True.intro
  repeat' (first|(refine SX.seqK ?_;intro N hN)|((first | (refine SX.ops ?_));simp only [GA,↓GB,GX,simprocAttr,hnt,hT,hnt1,hT1,hU1P])|((first | refine SX.skip ?_ | refine SX.exit ?_ | refine SX.label ?_ | refine SX.ret ?_);try simp only [GA,↓GB,GX,simprocAttr])|(refine hN _ ?_;clear hN N)|((first | refine hK1 _ _ (FinI.ret3 ?_) | refine hK1 _ _ (FinI.nrm3 ?_));(repeat (clear hN N));clear hK1 K1;simp only [GA,↓GB,GX,simprocAttr,finP_s,hnt,hT,hnt1,hT1,hU1P])|((first | refine hK _ _ (FinI.ret3 ?_) | refine hK _ _ (FinI.nrm3 ?_));simp only [GA,↓GB,GX,simprocAttr,finP_s,hnt,hT,hnt1,hT1,hU1P];refine Done.out ?_)|((first | refine SX.cond rfl (fun hb => ?_) (fun hb => ?_) | (refine bif2.mk (fun hb => ?_) (fun hb => ?_) <;> (try simp only [hb,GA,↓GB,GX,simprocAttr,hnt,hT,hnt1,hT1,hU1P]))) <;> ((first | cases hb | (simp only [HBs] at hb) | skip) <;> (first | (exfalso;omega) | skip)))|(refine CallVC.inline (f := 81) ?_ rfl Tryz.ntmps81 rfl ?_ ?_;(focus rw [hP];exact Tryz.func81);(focus simp);have hT1 := Ty.T81 hP;intro X1 K1 hU1 hnt1 hbl1 hK1;have hU1P := hU1.P;simp only [GA,↓GB,GX,simprocAttr] at hbl1 ⊢)|(refine VO.toUnsafe (src := 92) (t := 94) rfl (by rw [hU1P,hP];kernel_rfl) (by rw [hU1P,hP];kernel_rfl) (n := 1) (by rw [hU1P,hP];kernel_rfl) rfl (by decide) ?_;simp only [GA,↓GB,GX,simprocAttr,hnt,hnt1,hT,hT1,hU1P])|(refine VO.same rfl (noEscape_run (hU1P.trans hP)) ?_;simp only [GA,↓GB,GX,simprocAttr,hnt,hnt1,hT,hT1,hU1P])|(refine VO.fromUnsafe (src := 165) (u := 94) rfl (by rw [hU1P,hP];kernel_rfl) (by rw [hU1P,hP];kernel_rfl) (n := 2) (by rw [hU1P,hP];kernel_rfl) rfl (by rw [hU1P,hP];kernel_rfl) ?_;simp only [GA,↓GB,GX,simprocAttr,hnt,hnt1,hT,hT1,hU1P])|(refine VO.ptrNil (e := 94) rfl rfl (by rw [hU1P,hP];kernel_rfl) ?_;simp only [GA,↓GB,GX,simprocAttr,hnt,hnt1,hT,hT1,hU1P])|(refine VO.ptrSame (e := 94) (n := 2) rfl rfl (by rw [hU1P,hP];kernel_rfl) (by rw [hU1P,hP];kernel_rfl) ?_;simp only [GA,↓GB,GX,simprocAttr,hnt,hnt1,hT,hT1,hU1P])|(refine and_mk ?_ ?_;(focus first | decide | omega | rfl | assumption | (simp only [LBs];omega) | (simp;done)))|(refine And.intro ?_ ?_))
  all_goals (try refine Done.mk ?_)
  exact hN0 _ _ ⟨rfl,rfl⟩
theorem writeString_used (l s : List UInt8) (n : Nat) (hn : n + s.length ≤ 1152921504606) : Ctr Tryz.prog [] 82 [.cells [.loc 0 0,.row 1] 96,.row 5 1 n (bcells l)] [.one (.c (.loc 0 0)),vv (.string (B s))]
    (fun os r => os = [.cells [.loc 0 0,.row 2] 96,.gone,.row 5 1 (n + s.length) (bcells (l ++ s))] ∧ r = .tup [.c (.v (.int .i64 s.length)),.c (.v .nilIface)]) := by
  intro X0 hP0 hG0 N0 hN0
  refine CallVC.inline (f := 82) (by rw [hP0];exact Tryz.func82) rfl Tryz.ntmps82 rfl (by simp) ?_
  intro X K hU hnt hbl hK
  have hP : X.P = Tryz.prog := hU.P.trans hP0
  have hG := hG0.under hU
  have hT := Ty.T82 hP
  simp only [GA,↓GB,GX,simprocAttr] at hbl ⊢
  have hnt1 := True.intro;have hT1 := True.intro;have hU1P := True.intro
  repeat' (first|(refine SX.seqK ?_;intro N hN)|((first | (refine SX.ops ?_));simp only [GA,↓GB,GX,simprocAttr,hnt,hT,hnt1,hT1,hU1P,bcells_append])|((first | refine SX.skip ?_ | refine SX.exit ?_ | refine SX.label ?_ | refine SX.ret ?_);try simp only [GA,↓GB,GX,simprocAttr])|(refine hN _ ?_;clear hN N)|((first | refine hK1 _ _ (FinI.ret3 ?_) | refine hK1 _ _ (FinI.nrm3 ?_));(repeat (clear hN N));clear hK1 K1;simp only [GA,↓GB,GX,simprocAttr,finP_s,hnt,hT,hnt1,hT1,hU1P,bcells_append])|((first | refine hK _ _ (FinI.ret3 ?_) | refine hK _ _ (FinI.nrm3 ?_));simp only [GA,↓GB,GX,simprocAttr,finP_s,hnt,hT,hnt1,hT1,hU1P,bcells_append];refine Done.out ?_)|((first | refine SX.cond rfl (fun hb => ?_) (fun hb => ?_) | (refine bif2.mk (fun hb => ?_) (fun hb => ?_) <;> (try simp only [hb,GA,↓GB,GX,simprocAttr,hnt,hT,hnt1,hT1,hU1P,bcells_append]))) <;> ((first | cases hb | (simp only [HBs] at hb) | skip) <;> (first | (exfalso;omega) | skip)))|(refine CallVC.inline (f := 81) ?_ rfl Tryz.ntmps81 rfl ?_ ?_;(focus rw [hP];exact Tryz.func81);(focus simp);have hT1 := Ty.T81 hP;intro X1 K1 hU1 hnt1 hbl1 hK1;have hU1P := hU1.P;simp only [GA,↓GB,GX,simprocAttr] at hbl1 ⊢)|(refine VO.toUnsafe (src := 92) (t := 94) rfl (by rw [hU1P,hP];kernel_rfl) (by rw [hU1P,hP];kernel_rfl) (n := 1) (by rw [hU1P,hP];kernel_rfl) rfl (by decide) ?_;simp only [GA,↓GB,GX,simprocAttr,hnt,hnt1,hT,hT1,hU1P])|(refine VO.same rfl (noEscape_run (hU1P.trans hP)) ?_;simp only [GA,↓GB,GX,simprocAttr,hnt,hnt1,hT,hT1,hU1P])|(refine VO.fromUnsafe (src := 165) (u := 94) rfl (by rw [hU1P,hP];kernel_rfl) (by rw [hU1P,hP];kernel_rfl) (n := 2) (by rw [hU1P,hP];kernel_rfl) rfl (by rw [hU1P,hP];kernel_rfl) ?_;simp only [GA,↓GB,GX,simprocAttr,hnt,hnt1,hT,hT1,hU1P])|(refine VO.ptrNil (e := 94) rfl rfl (by rw [hU1P,hP];kernel_rfl) ?_;simp only [GA,↓GB,GX,simprocAttr,hnt,hnt1,hT,hT1,hU1P])|(refine VO.ptrSame (e := 94) (n := 2) rfl rfl (by rw [hU1P,hP];kernel_rfl) (by rw [hU1P,hP];kernel_rfl) ?_;simp only [GA,↓GB,GX,simprocAttr,hnt,hnt1,hT,hT1,hU1P])|(refine and_mk ?_ ?_;(focus first | decide | omega | rfl | assumption | (simp only [LBs];omega) | (simp;done)))|(refine And.intro ?_ ?_))
  all_goals (try refine Done.mk ?_)
  all_goals (rw [← bcells_append];exact hN0 _ _ ⟨rfl,rfl⟩)
end Go.Proofs.YtbdacbcpniegiaaGreatDoor
namespace Go.Proofs.YtbdacbcpniegiaaGreatDoor
open Go Go.RowKit Go.Proofs Go.Sx
def numB (num n : Nat) : List UInt8 := NW.varint (num * 8) ++ NW.varint n
def textB (num : Nat) (s : List UInt8) : List UInt8 := NW.varint (num * 8 + 2) ++ NW.varint s.length ++ s
theorem put_num (num n : Nat) (h1 : 1 ≤ num) (h2 : num < 536870912) (hn : n < 18446744073709551616) (w : World) :
    Calls Tryz.prog 80 #[.agg #[.int .i64 num,.int .i64 0,.int .u64 n,.string (B [])]] w fun e w' => e = .returned (.tuple #[.string (B (numB num n)),.bool true]) ∧ Below w.heap.size w w' := by
  have g1 : decide ((num : Int) < 1) = false := by simp;omega
  have g2 : decide ((536870912 : Int) ≤ num) = false := by simp;omega
  have hl1 := NW.varint_len10 (n := num * 8) (by omega)
  have hl2 := NW.varint_len10 (n := n) (by omega)
  have e1 : IntKind.u64.wrap (IntKind.i64.wrap (IntKind.i64.wrap ((num : Int) * 8) + 0)) = ((num * 8 : Nat) : Int) := by
    rw [wI64 (x := (num : Int) * 8) (by omega) (by omega),wI64 (by omega) (by omega),wU64 (by omega) (by omega)];omega
  refine calls_pureK (args := [.agg #[.int .i64 num,.int .i64 0,.int .u64 n,.string (B [])]]) w Tryz.func80 rfl Tryz.ntmps80 (by simp) ?_
  intro X K hX hK
  have hnt : X.nt = 81 := by rw [hX]
  have hwi : X.wi = w := by rw [hX]
  have hP : X.P = Tryz.prog := by rw [hX]
  have hown : X.own = [] := by rw [hX]
  have hbl : X.base.length = 0 := by rw [hX];rfl
  clear hX
  have hT := Ty.T80 hP
  have hnt1 := True.intro;have hT1 := True.intro;have hU1P := True.intro
  repeat' (first|(refine SX.seqK ?_;intro N hN)|((first | (refine SX.ops ?_));simp only [GA,↓GB,GX,simprocAttr,hnt,hT,hnt1,hT1,hU1P,g1,g2,e1])|((first | refine SX.skip ?_ | refine SX.exit ?_ | refine SX.label ?_ | refine SX.ret ?_);try simp only [GA,↓GB,GX,simprocAttr])|(refine hN _ ?_;clear hN N)|((first | refine hK1 _ _ (FinI.ret3 ?_) | refine hK1 _ _ (FinI.nrm3 ?_));(repeat (clear hN N));clear hK1 K1;simp only [GA,↓GB,GX,simprocAttr,finP_s,hnt,hT,hnt1,hT1,hU1P,g1,g2,e1])|(refine hK _ _ (Fin.res rfl hown ?_);simp only [GA,↓GB,GX,simprocAttr,f_a,f_b,f_n,f_c,f_B,f_v,f_g,f_0,f_1,f_2,hT,hwi,hnt1,hT1,hU1P,g1,g2,e1];intro w' hbel;refine Done.out ?_)|((first | refine SX.cond rfl (fun hb => ?_) (fun hb => ?_) | (refine bif2.mk (fun hb => ?_) (fun hb => ?_) <;> (try simp only [hb,GA,↓GB,GX,simprocAttr,hnt,hT,hnt1,hT1,hU1P,g1,g2,e1]))) <;> ((first | cases hb | (simp only [HBs] at hb) | skip) <;> (first | (exfalso;omega) | skip)))|((first | (refine CallVC.pv hP (varint_any (num * 8) (by omega)) rfl ?_) | (refine CallQ.pv hP (varint_any (num * 8) (by omega)) rfl ?_) | (refine CallVC.pv hP (varint_any n hn) rfl ?_) | (refine CallQ.pv hP (varint_any n hn) rfl ?_));simp only [GA,↓GB,GX,simprocAttr,hnt,hT,hnt1,hT1,hU1P,g1,g2,e1])|(refine CallVC.inline (f := 98) ?_ rfl Tryz.ntmps98 rfl ?_ ?_;(focus rw [hP];exact Tryz.func98);(focus simp);have hT1 := Ty.T98 hP;intro X1 K1 hU1 hnt1 hbl1 hK1;have hU1P := hU1.P;simp only [GA,↓GB,GX,simprocAttr] at hbl1 ⊢)|((first | (refine CallVC.pv (hU1P.trans hP) (varint_any (num * 8) (by omega)) rfl ?_) | (refine CallQ.pv (hU1P.trans hP) (varint_any (num * 8) (by omega)) rfl ?_) | (refine CallVC.pv (hU1P.trans hP) (varint_any n hn) rfl ?_) | (refine CallQ.pv (hU1P.trans hP) (varint_any n hn) rfl ?_));simp only [GA,↓GB,GX,simprocAttr,hnt,hT,hnt1,hT1,hU1P,g1,g2,e1])|(refine SX.block ?_)|(refine and_mk ?_ ?_;(focus first | decide | omega | rfl | assumption | (simp only [LBs];omega) | (simp;done)))|(refine And.intro ?_ ?_))
  all_goals (try refine Done.mk ?_)
  all_goals first | exact hbel | exact ⟨by simp [numB],hbel⟩
theorem put_text (num : Nat) (s : List UInt8) (h1 : 1 ≤ num) (h2 : num < 536870912) (hs : s.length < 1152921504606846976) (w : World) :
    Calls Tryz.prog 80 #[.agg #[.int .i64 num,.int .i64 2,.int .u64 0,.string (B s)]] w fun e w' => e = .returned (.tuple #[.string (B (textB num s)),.bool true]) ∧ Below w.heap.size w w' := by
  have g1 : decide ((num : Int) < 1) = false := by simp;omega
  have g2 : decide ((536870912 : Int) ≤ num) = false := by simp;omega
  have hl1 := NW.varint_len10 (n := num * 8 + 2) (by omega)
  have hl2 := NW.varint_len10 (n := s.length) (by omega)
  have e1 : IntKind.u64.wrap (IntKind.i64.wrap (IntKind.i64.wrap ((num : Int) * 8) + 2)) = ((num * 8 + 2 : Nat) : Int) := by
    rw [wI64 (x := (num : Int) * 8) (by omega) (by omega),wI64 (by omega) (by omega),wU64 (by omega) (by omega)];omega
  have e2 : IntKind.u64.wrap (s.length : Int) = (s.length : Int) := wU64 (by omega) (by omega)
  refine calls_pureK (args := [.agg #[.int .i64 num,.int .i64 2,.int .u64 0,.string (B s)]]) w Tryz.func80 rfl Tryz.ntmps80 (by simp) ?_
  intro X K hX hK
  have hnt : X.nt = 81 := by rw [hX]
  have hwi : X.wi = w := by rw [hX]
  have hP : X.P = Tryz.prog := by rw [hX]
  have hown : X.own = [] := by rw [hX]
  have hbl : X.base.length = 0 := by rw [hX];rfl
  clear hX
  have hT := Ty.T80 hP
  have hnt1 := True.intro;have hT1 := True.intro;have hU1P := True.intro
  repeat' (first|(refine SX.seqK ?_;intro N hN)|((first | (refine SX.ops ?_));simp only [GA,↓GB,GX,simprocAttr,hnt,hT,hnt1,hT1,hU1P,g1,g2,e1,e2])|((first | refine SX.skip ?_ | refine SX.exit ?_ | refine SX.label ?_ | refine SX.ret ?_);try simp only [GA,↓GB,GX,simprocAttr])|(refine hN _ ?_;clear hN N)|((first | refine hK1 _ _ (FinI.ret3 ?_) | refine hK1 _ _ (FinI.nrm3 ?_));(repeat (clear hN N));clear hK1 K1;simp only [GA,↓GB,GX,simprocAttr,finP_s,hnt,hT,hnt1,hT1,hU1P,g1,g2,e1,e2])|(refine hK _ _ (Fin.res rfl hown ?_);simp only [GA,↓GB,GX,simprocAttr,f_a,f_b,f_n,f_c,f_B,f_v,f_g,f_0,f_1,f_2,hT,hwi,hnt1,hT1,hU1P,g1,g2,e1,e2];intro w' hbel;refine Done.out ?_)|((first | refine SX.cond rfl (fun hb => ?_) (fun hb => ?_) | (refine bif2.mk (fun hb => ?_) (fun hb => ?_) <;> (try simp only [hb,GA,↓GB,GX,simprocAttr,hnt,hT,hnt1,hT1,hU1P,g1,g2,e1,e2]))) <;> ((first | cases hb | (simp only [HBs] at hb) | skip) <;> (first | (exfalso;omega) | skip)))|((first | (refine CallVC.pv hP (varint_any (num * 8 + 2) (by omega)) rfl ?_) | (refine CallQ.pv hP (varint_any (num * 8 + 2) (by omega)) rfl ?_) | (refine CallVC.pv hP (varint_any s.length (by omega)) rfl ?_) | (refine CallQ.pv hP (varint_any s.length (by omega)) rfl ?_));simp only [GA,↓GB,GX,simprocAttr,hnt,hT,hnt1,hT1,hU1P,g1,g2,e1,e2])|(refine CallVC.inline (f := 98) ?_ rfl Tryz.ntmps98 rfl ?_ ?_;(focus rw [hP];exact Tryz.func98);(focus simp);have hT1 := Ty.T98 hP;intro X1 K1 hU1 hnt1 hbl1 hK1;have hU1P := hU1.P;simp only [GA,↓GB,GX,simprocAttr] at hbl1 ⊢)|((first | (refine CallVC.pv (hU1P.trans hP) (varint_any (num * 8 + 2) (by omega)) rfl ?_) | (refine CallQ.pv (hU1P.trans hP) (varint_any (num * 8 + 2) (by omega)) rfl ?_) | (refine CallVC.pv (hU1P.trans hP) (varint_any s.length (by omega)) rfl ?_) | (refine CallQ.pv (hU1P.trans hP) (varint_any s.length (by omega)) rfl ?_));simp only [GA,↓GB,GX,simprocAttr,hnt,hT,hnt1,hT1,hU1P,g1,g2,e1,e2])|(refine SX.block ?_)|(refine and_mk ?_ ?_;(focus first | decide | omega | rfl | assumption | (simp only [LBs];omega) | (simp;done)))|(refine And.intro ?_ ?_))
  all_goals (try refine Done.mk ?_)
  all_goals first | exact hbel | exact ⟨by simp [textB],hbel⟩
theorem number_any (num n : Nat) (h1 : 1 ≤ num) (h2 : num < 536870912) (hn : n < 18446744073709551616) (w : World) :
    Calls Tryz.prog 39 #[.int .i64 num,.int .u64 n] w fun e w' => e = .returned (.string (B (numB num n))) ∧ Below w.heap.size w w' := by
  refine calls_pureK (args := [.int .i64 num,.int .u64 n]) w Tryz.func39 rfl Tryz.ntmps39 (by simp) ?_
  intro X K hX hK
  have hnt : X.nt = 15 := by rw [hX]
  have hwi : X.wi = w := by rw [hX]
  have hP : X.P = Tryz.prog := by rw [hX]
  have hown : X.own = [] := by rw [hX]
  have hbl : X.base.length = 0 := by rw [hX];rfl
  clear hX
  have hT := Ty.T39 hP
  repeat' (first|(refine SX.seqK ?_;intro N hN)|((first | (refine SX.ops ?_));simp only [GA,↓GB,GX,simprocAttr,hnt,hT])|((first | refine SX.skip ?_ | refine SX.exit ?_ | refine SX.label ?_ | refine SX.ret ?_);try simp only [GA,↓GB,GX,simprocAttr])|(refine hN _ ?_;clear hN N)|(refine hK _ _ (Fin.res rfl hown ?_);simp only [GA,↓GB,GX,simprocAttr,f_a,f_b,f_n,f_c,f_B,f_v,f_g,f_0,f_1,f_2,hT,hwi];intro w' hbel;refine Done.out ?_)|(refine bif2.mk (fun hb => ?_) (fun hb => ?_) <;> (try simp only [hb,GA,↓GB,GX,simprocAttr,hnt,hT]) <;> ((first | cases hb | (simp only [HBs] at hb) | skip) <;> (first | (exfalso;omega) | skip)))|((first | (refine CallVC.pt (l := [_,_]) hP (put_num num n h1 h2 hn) rfl ?_) | (refine CallQ.pt (l := [_,_]) hP (put_num num n h1 h2 hn) rfl ?_));simp only [GA,↓GB,GX,simprocAttr,hnt,hT])|(refine and_mk ?_ ?_;(focus first | decide | omega | rfl | assumption | (simp only [LBs];omega) | (simp;done)))|(refine And.intro ?_ ?_))
  all_goals (try refine Done.mk ?_)
  all_goals first | exact hbel | exact ⟨rfl,hbel⟩
theorem text_any (num : Nat) (s : List UInt8) (h1 : 1 ≤ num) (h2 : num < 536870912) (hs : s.length < 1152921504606846976) (w : World) :
    Calls Tryz.prog 83 #[.int .i64 num,.string (B s)] w fun e w' => e = .returned (.string (B (textB num s))) ∧ Below w.heap.size w w' := by
  refine calls_pureK (args := [.int .i64 num,.string (B s)]) w Tryz.func83 rfl Tryz.ntmps83 (by simp) ?_
  intro X K hX hK
  have hnt : X.nt = 13 := by rw [hX]
  have hwi : X.wi = w := by rw [hX]
  have hP : X.P = Tryz.prog := by rw [hX]
  have hown : X.own = [] := by rw [hX]
  have hbl : X.base.length = 0 := by rw [hX];rfl
  clear hX
  have hT := Ty.T83 hP
  repeat' (first|(refine SX.seqK ?_;intro N hN)|((first | (refine SX.ops ?_));simp only [GA,↓GB,GX,simprocAttr,hnt,hT])|((first | refine SX.skip ?_ | refine SX.exit ?_ | refine SX.label ?_ | refine SX.ret ?_);try simp only [GA,↓GB,GX,simprocAttr])|(refine hN _ ?_;clear hN N)|(refine hK _ _ (Fin.res rfl hown ?_);simp only [GA,↓GB,GX,simprocAttr,f_a,f_b,f_n,f_c,f_B,f_v,f_g,f_0,f_1,f_2,hT,hwi];intro w' hbel;refine Done.out ?_)|(refine bif2.mk (fun hb => ?_) (fun hb => ?_) <;> (try simp only [hb,GA,↓GB,GX,simprocAttr,hnt,hT]) <;> ((first | cases hb | (simp only [HBs] at hb) | skip) <;> (first | (exfalso;omega) | skip)))|((first | (refine CallVC.pt (l := [_,_]) hP (put_text num s h1 h2 hs) rfl ?_) | (refine CallQ.pt (l := [_,_]) hP (put_text num s h1 h2 hs) rfl ?_));simp only [GA,↓GB,GX,simprocAttr,hnt,hT])|(refine and_mk ?_ ?_;(focus first | decide | omega | rfl | assumption | (simp only [LBs];omega) | (simp;done)))|(refine And.intro ?_ ?_))
  all_goals (try refine Done.mk ?_)
  all_goals first | exact hbel | exact ⟨rfl,hbel⟩
end Go.Proofs.YtbdacbcpniegiaaGreatDoor
namespace Go.Proofs.YtbdacbcpniegiaaGreatDoor
open Go Go.RowKit Go.Proofs Go.Sx
abbrev bldr (l : List UInt8) : List LO := [.cells [.loc 0 0,.row 1] 96,.row 5 1 l.length (bcells l)]
abbrev bldr' (l : List UInt8) : List LO := [.cells [.loc 0 0,.row 2] 96,.gone,.row 5 1 l.length (bcells l)]
theorem writeString_ctr (l s : List UInt8) (hn : l.length + s.length ≤ 1152921504606) : Ctr Tryz.prog [] 82 (bldr l) [.one (.c (.loc 0 0)),vv (.string (B s))]
    (fun os r => os = bldr' (l ++ s) ∧ r = .tup [.c (.v (.int .i64 s.length)),.c (.v .nilIface)]) :=
  (writeString_used l s l.length hn).mono (fun os r h => ⟨by rw [h.1];simp,h.2⟩)
theorem string_ctr (l : List UInt8) (h0 : 0 < l.length) (hn : l.length ≤ 1152921504606) : Ctr Tryz.prog [] 46 (bldr l) [.one (.c (.loc 0 0))]
    (fun os r => os = [.cells [.loc 0 0,.row 1] 96,.gone] ∧ r = vv (.string (B l))) := by
  intro X0 hP0 hG0 N0 hN0
  refine CallVC.inline (f := 46) (by rw [hP0];exact Tryz.func46) rfl Tryz.ntmps46 rfl (by simp) ?_
  intro X K hU hnt hbl hK
  have hP : X.P = Tryz.prog := hU.P.trans hP0
  have hG := hG0.under hU
  have hT := Ty.T46 hP
  simp only [GA,↓GB,GX,simprocAttr] at hbl ⊢
  repeat' (first|(refine SX.seqK ?_;intro N hN)|((first | (refine SX.ops ?_) | (refine SX.planT (id := 1) [.q [(0,[0]),(1,[3]),(2,[4]),(3,[5]),(4,[6]),(5,[0]),(6,[8]),(7,[9]),(8,[10]),(9,[11])] none,.s 10,.s 11] ?_ ?_ ?_;(focus first | (rw [hP];kernel_rfl) | (rw [hU1P,hP];kernel_rfl));(focus kernel_rfl)));simp only [GA,↓GB,GX,simprocAttr,hnt,hT])|((first | refine SX.skip ?_ | refine SX.exit ?_ | refine SX.label ?_ | refine SX.ret ?_);try simp only [GA,↓GB,GX,simprocAttr])|(refine hN _ ?_;clear hN N)|((first | refine hK _ _ (FinI.ret3 ?_) | refine hK _ _ (FinI.nrm3 ?_));simp only [GA,↓GB,GX,simprocAttr,finP_s,hnt,hT];refine Done.out ?_)|(refine bif2.mk (fun hb => ?_) (fun hb => ?_) <;> (try simp only [hb,GA,↓GB,GX,simprocAttr,hnt,hT]) <;> ((first | cases hb | (simp only [HBs] at hb) | skip) <;> (first | (exfalso;omega) | skip)))|(show VO X _ _ _;refine VO.unsafeString (k := .i64) (l := l) (pt := 149) (e := 5) rfl rfl rfl (by rw [hP];kernel_rfl) (by rw [hP];kernel_rfl) (by intro e;subst e;simp at h0) (by omega) ?_;simp only [GA,↓GB,GX,simprocAttr,hnt,hT])|(refine and_mk ?_ ?_;(focus first | decide | omega | rfl | assumption | (simp only [LBs];omega) | (simp;done)))|(refine And.intro ?_ ?_))
  all_goals (try refine Done.mk ?_)
  exact hN0 _ _ ⟨rfl,rfl⟩
theorem wnumber_ctr (l : List UInt8) (num n : Nat) (h1 : 1 ≤ num) (h2 : num < 536870912) (h0 : 0 < n) (hn : n < 18446744073709551616) (hl : l.length ≤ 1152921504000) :
    Ctr Tryz.prog [] 43 (bldr l) [.one (.c (.loc 0 0)),vv (.int .i64 num),vv (.int .u64 n)]
    (fun os r => os = bldr' (l ++ numB num n) ∧ r = .tup []) := by
  have g0 : decide ((0 : Int) < n) = true := by simp;omega
  have hl1 := NW.varint_len10 (n := num * 8) (by omega)
  have hl2 := NW.varint_len10 (n := n) (by omega)
  have hlen : l.length + (numB num n).length ≤ 1152921504606 := by simp [numB];omega
  intro X0 hP0 hG0 N0 hN0
  refine CallVC.inline (f := 43) (by rw [hP0];exact Tryz.func43) rfl Tryz.ntmps43 rfl (by simp) ?_
  intro X K hU hnt hbl hK
  have hP : X.P = Tryz.prog := hU.P.trans hP0
  have hG := hG0.under hU
  have hT := Ty.T43 hP
  simp only [GA,↓GB,GX,simprocAttr] at hbl ⊢
  repeat' (first|(refine SX.seqK ?_;intro N hN)|((first | (refine SX.ops ?_) | (refine SX.planT (id := 1) [.q [(0,[0]),(1,[8]),(2,[9]),(3,[1]),(4,[2]),(5,[11,12])] none,.s 6] ?_ ?_ ?_;(focus first | (rw [hP];kernel_rfl) | (rw [hU1P,hP];kernel_rfl));(focus kernel_rfl)));simp only [GA,↓GB,GX,simprocAttr,hnt,hT,g0])|((first | refine SX.skip ?_ | refine SX.exit ?_ | refine SX.label ?_ | refine SX.ret ?_);try simp only [GA,↓GB,GX,simprocAttr])|(refine hN _ ?_;clear hN N)|((first | refine hK _ _ (FinI.ret3 ?_) | refine hK _ _ (FinI.nrm3 ?_));simp only [GA,↓GB,GX,simprocAttr,finP_s,hnt,hT,g0];refine Done.out ?_)|((first | refine SX.cond rfl (fun hb => ?_) (fun hb => ?_) | (refine bif2.mk (fun hb => ?_) (fun hb => ?_) <;> (try simp only [hb,GA,↓GB,GX,simprocAttr,hnt,hT,g0]))) <;> ((first | cases hb | (simp only [HBs] at hb) | skip) <;> (first | (exfalso;omega) | skip)))|((first | (refine CallVC.pv hP (number_any num n h1 h2 hn) rfl ?_) | (refine CallQ.pv hP (number_any num n h1 h2 hn) rfl ?_) | (refine Ctr.use (writeString_ctr l (numB num n) hlen) hP ?_ [0,1] ?_ rfl rfl ?_;(focus (intro p hp;cases hp));(focus (refine LeR.of rfl trivial ?_ ?_ ?_ ?_ ?_ <;> first | decide | (simp only [GA,↓GB,GX,simprocAttr,GDs];done)));intro os' s hR;obtain ⟨rfl,rfl⟩ := hR));simp only [GA,↓GB,GX,simprocAttr,hnt,hT,g0])|(refine and_mk ?_ ?_;(focus first | decide | omega | rfl | assumption | (simp only [LBs];omega) | (simp;done)))|(refine And.intro ?_ ?_))
  all_goals (try refine Done.mk ?_)
  all_goals exact hN0 _ _ ⟨rfl,rfl⟩
end Go.Proofs.YtbdacbcpniegiaaGreatDoor
namespace Go.Proofs.YtbdacbcpniegiaaGreatDoor
open Go Go.RowKit Go.Proofs Go.Sx
theorem writeByte_ctr (b : UInt8) : Ctr Tryz.prog [] 42 [.cells [.v (.pointer none),.v (.slice none 0 0)] 96] [.one (.c (.loc 0 0)),vv (.int .u8 b.toNat)]
    (fun os s => os = [.cells [.loc 0 0,.row 3] 96,.cells [.v (.int .u8 b.toNat)] 5,.gone,.row 5 1 [b].length (bcells [b])] ∧ s = vv .nilIface) :=
  (writeByte_fresh b.toNat).mono (fun os r h => ⟨by rw [h.1];rfl,h.2⟩)
theorem wlist1_ctr (l s : List UInt8) (num : Nat) (h1 : 1 ≤ num) (h2 : num < 536870912) (hs : s.length < 4294967296) (hl : l.length ≤ 1148000000000) :
    Ctr Tryz.prog [] 45 (bldr l ++ [.cells [.v (.string (B s))] 9]) [.one (.c (.loc 0 0)),vv (.int .i64 num),.one (.c (.sl 2 0 1 1))]
    (fun os r => os = [.cells [.loc 0 0,.row 3] 96,.gone,.cells [.v (.string (B s))] 9,.row 5 1 (l ++ textB num s).length (bcells (l ++ textB num s))] ∧ r = .tup []) := by
  have hl1 := NW.varint_len10 (n := num * 8 + 2) (by omega)
  have hl2 := NW.varint_len10 (n := s.length) (by omega)
  have hlen : l.length + (textB num s).length ≤ 1152921504606 := by simp [textB];omega
  intro X0 hP0 hG0 N0 hN0
  refine CallVC.inline (f := 45) (by rw [hP0];exact Tryz.func45) rfl Tryz.ntmps45 rfl (by simp) ?_
  intro X K hU hnt hbl hK
  have hP : X.P = Tryz.prog := hU.P.trans hP0
  have hG := hG0.under hU
  have hT := Ty.T45 hP
  simp only [GA,↓GB,GX,simprocAttr] at hbl ⊢
  repeat' (first|(refine SX.seqK ?_;intro N hN)|((first | (refine SX.ops ?_) | (refine SX.planT (id := 3) [.q [(0,[0]),(1,[14]),(2,[15]),(3,[1]),(4,[7]),(5,[17,18])] none,.s 6] ?_ ?_ ?_;(focus first | (rw [hP];kernel_rfl) | (rw [hU1P,hP];kernel_rfl));(focus kernel_rfl)));simp only [GA,↓GB,GX,simprocAttr,hnt,hT])|((first | refine SX.skip ?_ | refine SX.exit ?_ | refine SX.label ?_ | refine SX.ret ?_);try simp only [GA,↓GB,GX,simprocAttr])|(refine hN _ ?_;clear hN N)|((first | refine hK _ _ (FinI.ret3 ?_) | refine hK _ _ (FinI.nrm3 ?_));simp only [GA,↓GB,GX,simprocAttr,finP_s,hnt,hT];refine Done.out ?_)|(clear hN N;first | (refine hN _ ?_;clear hN N) | (clear hN N;refine hN _ ?_;clear hN N))|((first | refine SX.cond rfl (fun hb => ?_) (fun hb => ?_) | (refine bif2.mk (fun hb => ?_) (fun hb => ?_) <;> (try simp only [hb,GA,↓GB,GX,simprocAttr,hnt,hT]))) <;> ((first | cases hb | (simp only [HBs] at hb) | skip) <;> (first | (exfalso;omega) | skip)))|((first | (refine CallVC.pv hP (text_any num s h1 h2 (by omega)) rfl ?_) | (refine CallQ.pv hP (text_any num s h1 h2 (by omega)) rfl ?_) | (refine Ctr.use (writeString_ctr l (textB num s) hlen) hP ?_ [0,1] ?_ rfl rfl ?_;(focus (intro p hp;cases hp));(focus (refine LeR.of rfl trivial ?_ ?_ ?_ ?_ ?_ <;> first | decide | (simp only [GA,↓GB,GX,simprocAttr,GDs];done)));intro os' s hR;obtain ⟨rfl,rfl⟩ := hR));simp only [GA,↓GB,GX,simprocAttr,hnt,hT])|(refine SX.loopN 2 ?_)|(refine SXr.stepK ?_;intro N hN)|(refine SX.block ?_)|(refine and_mk ?_ ?_;(focus first | decide | omega | rfl | assumption | (simp only [LBs];omega) | (simp;done)))|(refine And.intro ?_ ?_))
  all_goals (try refine Done.mk ?_)
  all_goals exact hN0 _ _ ⟨rfl,rfl⟩
theorem wflag_yes (l : List UInt8) (num : Nat) (h1 : 1 ≤ num) (h2 : num < 536870912) (hl : l.length ≤ 1152921504000) :
    Ctr Tryz.prog [] 44 (bldr l) [.one (.c (.loc 0 0)),vv (.int .i64 num),vv (.bool true)] (fun os r => os = bldr' (l ++ numB num 1) ∧ r = .tup []) := by
  intro X0 hP0 hG0 N0 hN0
  refine CallVC.inline (f := 44) (by rw [hP0];exact Tryz.func44) rfl Tryz.ntmps44 rfl (by simp) ?_
  intro X K hU hnt hbl hK
  have hP : X.P = Tryz.prog := hU.P.trans hP0
  have hG := hG0.under hU
  have hT := Ty.T44 hP
  simp only [GA,↓GB,GX,simprocAttr] at hbl ⊢
  repeat' (first|(refine SX.seqK ?_;intro N hN)|((first | (refine SX.ops ?_));simp only [GA,↓GB,GX,simprocAttr,hnt,hT])|((first | refine SX.skip ?_ | refine SX.exit ?_ | refine SX.label ?_ | refine SX.ret ?_);try simp only [GA,↓GB,GX,simprocAttr])|(refine hN _ ?_;clear hN N)|((first | refine hK _ _ (FinI.ret3 ?_) | refine hK _ _ (FinI.nrm3 ?_));simp only [GA,↓GB,GX,simprocAttr,finP_s,hnt,hT];refine Done.out ?_)|((first | refine SX.cond rfl (fun hb => ?_) (fun hb => ?_) | (refine bif2.mk (fun hb => ?_) (fun hb => ?_) <;> (try simp only [hb,GA,↓GB,GX,simprocAttr,hnt,hT]))) <;> ((first | cases hb | (simp only [HBs] at hb) | skip) <;> (first | (exfalso;omega) | skip)))|((first | (refine Ctr.use (wnumber_ctr l num 1 h1 h2 (by decide) (by decide) hl) hP ?_ [0,1] ?_ rfl rfl ?_;(focus (intro p hp;cases hp));(focus (refine LeR.of rfl trivial ?_ ?_ ?_ ?_ ?_ <;> first | decide | (simp only [GA,↓GB,GX,simprocAttr,GDs];done)));intro os' s hR;obtain ⟨rfl,rfl⟩ := hR));simp only [GA,↓GB,GX,simprocAttr,hnt,hT])|(refine and_mk ?_ ?_;(focus first | decide | omega | rfl | assumption | (simp only [LBs];omega) | (simp;done)))|(refine And.intro ?_ ?_))
  all_goals (try refine Done.mk ?_)
  all_goals exact hN0 _ _ ⟨rfl,rfl⟩
theorem wflag_no (l : List UInt8) (num : Nat) : Ctr Tryz.prog [] 44 (bldr l) [.one (.c (.loc 0 0)),vv (.int .i64 num),vv (.bool false)] (fun os r => os = bldr l ∧ r = .tup []) := by
  intro X0 hP0 hG0 N0 hN0
  refine CallVC.inline (f := 44) (by rw [hP0];exact Tryz.func44) rfl Tryz.ntmps44 rfl (by simp) ?_
  intro X K hU hnt hbl hK
  have hP : X.P = Tryz.prog := hU.P.trans hP0
  have hG := hG0.under hU
  have hT := Ty.T44 hP
  simp only [GA,↓GB,GX,simprocAttr] at hbl ⊢
  repeat' (first|(refine SX.seqK ?_;intro N hN)|((first | (refine SX.ops ?_));simp only [GA,↓GB,GX,simprocAttr,hnt,hT])|((first | refine SX.skip ?_ | refine SX.exit ?_ | refine SX.label ?_ | refine SX.ret ?_);try simp only [GA,↓GB,GX,simprocAttr])|(refine hN _ ?_;clear hN N)|((first | refine hK _ _ (FinI.ret3 ?_) | refine hK _ _ (FinI.nrm3 ?_));simp only [GA,↓GB,GX,simprocAttr,finP_s,hnt,hT];refine Done.out ?_)|((first | refine SX.cond rfl (fun hb => ?_) (fun hb => ?_) | (refine bif2.mk (fun hb => ?_) (fun hb => ?_) <;> (try simp only [hb,GA,↓GB,GX,simprocAttr,hnt,hT]))) <;> ((first | cases hb | (simp only [HBs] at hb) | skip) <;> (first | (exfalso;omega) | skip)))|(refine and_mk ?_ ?_;(focus first | decide | omega | rfl | assumption | (simp only [LBs];omega) | (simp;done)))|(refine And.intro ?_ ?_))
  all_goals (try refine Done.mk ?_)
  all_goals exact hN0 _ _ ⟨rfl,rfl⟩
end Go.Proofs.YtbdacbcpniegiaaGreatDoor
namespace Go.Proofs.YtbdacbcpniegiaaGreatDoor
open Go Go.RowKit Go.Proofs Go.Sx
def statusBytes (t : Nat) (s : List UInt8) (q : Nat) (ok : Bool) (d : List UInt8) : List UInt8 :=
  [4] ++ numB 1 t ++ textB 2 s ++ numB 3 q ++ (if ok then numB 4 1 else []) ++ (if d = [] then [] else textB 5 d)
theorem putStatus_no (t : Int) (s : List UInt8) (q : Int) (ok : Bool) (d : List UInt8) (hs : s.length ≤ 9223372036854775807) (h : statusB t s q ok d = false) (w : World) :
    Calls Tryz.prog 22 #[.agg #[.int .i64 t,.string (B s),.int .u64 q,.bool ok,.string (B d)]] w fun e w' => e = .returned (.tuple #[.string (B []),.bool false]) ∧ Below w.heap.size w w' := by
  refine calls_pureK (args := [.agg #[.int .i64 t,.string (B s),.int .u64 q,.bool ok,.string (B d)]]) w Tryz.func22 rfl Tryz.ntmps22 (by simp) ?_
  intro X K hX hK
  have hnt : X.nt = 35 := by rw [hX]
  have hwi : X.wi = w := by rw [hX]
  have hP : X.P = Tryz.prog := by rw [hX]
  have hown : X.own = [] := by rw [hX]
  have hbl : X.base.length = 0 := by rw [hX];rfl
  clear hX
  have hT := Ty.T22 hP
  repeat' (first|(refine SX.seqK ?_;intro N hN)|((first | (refine SX.ops ?_));simp only [GA,↓GB,GX,simprocAttr,hnt,hT,h])|((first | refine SX.skip ?_ | refine SX.exit ?_ | refine SX.label ?_ | refine SX.ret ?_);try simp only [GA,↓GB,GX,simprocAttr])|(refine hN _ ?_;clear hN N)|(refine hK _ _ (Fin.res rfl hown ?_);simp only [GA,↓GB,GX,simprocAttr,f_a,f_b,f_n,f_c,f_B,f_v,f_g,f_0,f_1,f_2,hT,hwi,h];intro w' hbel;refine Done.out ?_)|((first | refine SX.cond rfl (fun hb => ?_) (fun hb => ?_) | (refine bif2.mk (fun hb => ?_) (fun hb => ?_) <;> (try simp only [hb,GA,↓GB,GX,simprocAttr,hnt,hT,h]))) <;> ((first | cases hb | (simp only [HBs] at hb) | skip) <;> (first | (exfalso;omega) | skip)))|((first | (refine CallVC.pv hP (statusRight_any _ _ _ _ _ hs) rfl ?_) | (refine CallQ.pv hP (statusRight_any _ _ _ _ _ hs) rfl ?_));simp only [GA,↓GB,GX,simprocAttr,hnt,hT,h])|(refine and_mk ?_ ?_;(focus first | decide | omega | rfl | assumption | (simp only [LBs];omega) | (simp;done)))|(refine And.intro ?_ ?_))
  all_goals (try refine Done.mk ?_)
  all_goals exact hbel
theorem numB_len (num n : Nat) (h1 : num < 536870912) (hn : n < 18446744073709551616) : (numB num n).length ≤ 20 := by
  have hl1 := NW.varint_len10 (n := num * 8) (by omega)
  have hl2 := NW.varint_len10 (n := n) (by omega)
  simp [numB];omega
theorem textB_len (num : Nat) (s : List UInt8) (h1 : num < 536870912) (hs : s.length < 4294967296) : (textB num s).length ≤ 20 + s.length := by
  have hl1 := NW.varint_len10 (n := num * 8 + 2) (by omega)
  have hl2 := NW.varint_len10 (n := s.length) (by omega)
  simp [textB];omega
theorem putStatus_ok (t : Nat) (s : List UInt8) (q : Nat) (hs : s.length < 4294967296) (hq : q < 18446744073709551616) (ht : t ≤ 5) (ht1 : 1 ≤ t) (hq1 : 0 < q) (h : statusB t s q true [] = true) (w : World) :
    Calls Tryz.prog 22 #[.agg #[.int .i64 t,.string (B s),.int .u64 q,.bool true,.string (B [])]] w fun e w' => e = .returned (.tuple #[.string (B (statusBytes t s q true [])),.bool true]) ∧ Below w.heap.size w w' := by
  have e1 : IntKind.u64.wrap (t : Int) = (t : Int) := wU64 (by omega) (by omega)
  have n1 := numB_len 1 t (by decide) (by omega)
  have n2 := textB_len 2 s (by decide) hs
  have n3 := numB_len 3 q (by decide) hq
  have n4 := numB_len 4 1 (by decide) (by decide)
  refine calls_pureK (args := [.agg #[.int .i64 t,.string (B s),.int .u64 q,.bool true,.string (B [])]]) w Tryz.func22 rfl Tryz.ntmps22 (by simp) ?_
  intro X K hX hK
  have hnt : X.nt = 35 := by rw [hX]
  have hwi : X.wi = w := by rw [hX]
  have hP : X.P = Tryz.prog := by rw [hX]
  have hown : X.own = [] := by rw [hX]
  have hbl : X.base.length = 0 := by rw [hX];rfl
  clear hX
  have hT := Ty.T22 hP
  repeat' (first|(refine SX.seqK ?_;intro N hN)|((first | (refine SX.ops ?_));simp only [GA,↓GB,GX,simprocAttr,hnt,hT,h,e1])|((first | refine SX.skip ?_ | refine SX.exit ?_ | refine SX.label ?_ | refine SX.ret ?_);try simp only [GA,↓GB,GX,simprocAttr])|(refine hN _ ?_;clear hN N)|(refine hK _ _ (Fin.res rfl hown ?_);simp only [GA,↓GB,GX,simprocAttr,f_a,f_b,f_n,f_c,f_B,f_v,f_g,f_0,f_1,f_2,hT,hwi,h,e1];intro w' hbel;refine Done.out ?_)|((first | refine SX.cond rfl (fun hb => ?_) (fun hb => ?_) | (refine bif2.mk (fun hb => ?_) (fun hb => ?_) <;> (try simp only [hb,GA,↓GB,GX,simprocAttr,hnt,hT,h,e1]))) <;> ((first | cases hb | (simp only [HBs] at hb) | skip) <;> (first | (exfalso;omega) | skip)))|((first | (refine CallVC.pv hP (statusRight_any _ _ _ _ _ (by omega)) rfl ?_) | (refine CallQ.pv hP (statusRight_any _ _ _ _ _ (by omega)) rfl ?_) | (refine Ctr.use (writeByte_ctr 4) hP ?_ [1] ?_ rfl rfl ?_;(focus (intro p hp;cases hp));(focus (refine LeR.of rfl trivial ?_ ?_ ?_ ?_ ?_ <;> first | decide | (simp only [GA,↓GB,GX,simprocAttr,GDs];done)));intro os' s hR;obtain ⟨rfl,rfl⟩ := hR) | (refine Ctr.use (wnumber_ctr [4] 1 t (by decide) (by decide) (by omega) (by omega) (by simp)) hP ?_ [1,4] ?_ rfl rfl ?_;(focus (intro p hp;cases hp));(focus (refine LeR.of rfl trivial ?_ ?_ ?_ ?_ ?_ <;> first | decide | (simp only [GA,↓GB,GX,simprocAttr,GDs];done)));intro os' s hR;obtain ⟨rfl,rfl⟩ := hR) | (refine Ctr.use (wlist1_ctr (4 :: numB 1 t) s 2 (by decide) (by decide) hs (by simp;omega)) hP ?_ [1,5,6] ?_ rfl rfl ?_;(focus (intro p hp;cases hp));(focus (refine LeR.of rfl trivial ?_ ?_ ?_ ?_ ?_ <;> first | decide | (simp only [GA,↓GB,GX,simprocAttr,GDs];done)));intro os' s hR;obtain ⟨rfl,rfl⟩ := hR) | (refine Ctr.use (wnumber_ctr (4 :: (numB 1 t ++ textB 2 s)) 3 q (by decide) (by decide) hq1 hq (by simp;omega)) hP ?_ [1,7] ?_ rfl rfl ?_;(focus (intro p hp;cases hp));(focus (refine LeR.of rfl trivial ?_ ?_ ?_ ?_ ?_ <;> first | decide | (simp only [GA,↓GB,GX,simprocAttr,GDs];done)));intro os' s hR;obtain ⟨rfl,rfl⟩ := hR) | (refine Ctr.use (wflag_yes (4 :: (numB 1 t ++ textB 2 s ++ numB 3 q)) 4 (by decide) (by decide) (by simp;omega)) hP ?_ [1,8] ?_ rfl rfl ?_;(focus (intro p hp;cases hp));(focus (refine LeR.of rfl trivial ?_ ?_ ?_ ?_ ?_ <;> first | decide | (simp only [GA,↓GB,GX,simprocAttr,GDs];done)));intro os' s hR;obtain ⟨rfl,rfl⟩ := hR) | (refine Ctr.use (string_ctr (4 :: (numB 1 t ++ textB 2 s ++ numB 3 q ++ numB 4 1)) (by simp) (by simp;omega)) hP ?_ [1,9] ?_ rfl rfl ?_;(focus (intro p hp;cases hp));(focus (refine LeR.of rfl trivial ?_ ?_ ?_ ?_ ?_ <;> first | decide | (simp only [GA,↓GB,GX,simprocAttr,GDs];done)));intro os' s hR;obtain ⟨rfl,rfl⟩ := hR));simp only [GA,↓GB,GX,simprocAttr,hnt,hT,h,e1])|(refine and_mk ?_ ?_;(focus first | decide | omega | rfl | assumption | (simp only [LBs];omega) | (simp;done)))|(refine And.intro ?_ ?_))
  all_goals (try refine Done.mk ?_)
  all_goals first | exact hbel | exact ⟨by simp [statusBytes],hbel⟩
theorem putStatus_plain (t : Nat) (s : List UInt8) (q : Nat) (hs : s.length < 4294967296) (hq : q < 18446744073709551616) (ht : t ≤ 5) (ht1 : 1 ≤ t) (hq1 : 0 < q) (h : statusB t s q false [] = true) (w : World) :
    Calls Tryz.prog 22 #[.agg #[.int .i64 t,.string (B s),.int .u64 q,.bool false,.string (B [])]] w fun e w' => e = .returned (.tuple #[.string (B (statusBytes t s q false [])),.bool true]) ∧ Below w.heap.size w w' := by
  have e1 : IntKind.u64.wrap (t : Int) = (t : Int) := wU64 (by omega) (by omega)
  have n1 := numB_len 1 t (by decide) (by omega)
  have n2 := textB_len 2 s (by decide) hs
  have n3 := numB_len 3 q (by decide) hq
  have n4 := numB_len 4 1 (by decide) (by decide)
  refine calls_pureK (args := [.agg #[.int .i64 t,.string (B s),.int .u64 q,.bool false,.string (B [])]]) w Tryz.func22 rfl Tryz.ntmps22 (by simp) ?_
  intro X K hX hK
  have hnt : X.nt = 35 := by rw [hX]
  have hwi : X.wi = w := by rw [hX]
  have hP : X.P = Tryz.prog := by rw [hX]
  have hown : X.own = [] := by rw [hX]
  have hbl : X.base.length = 0 := by rw [hX];rfl
  clear hX
  have hT := Ty.T22 hP
  repeat' (first|(refine SX.seqK ?_;intro N hN)|((first | (refine SX.ops ?_));simp only [GA,↓GB,GX,simprocAttr,hnt,hT,h,e1])|((first | refine SX.skip ?_ | refine SX.exit ?_ | refine SX.label ?_ | refine SX.ret ?_);try simp only [GA,↓GB,GX,simprocAttr])|(refine hN _ ?_;clear hN N)|(refine hK _ _ (Fin.res rfl hown ?_);simp only [GA,↓GB,GX,simprocAttr,f_a,f_b,f_n,f_c,f_B,f_v,f_g,f_0,f_1,f_2,hT,hwi,h,e1];intro w' hbel;refine Done.out ?_)|((first | refine SX.cond rfl (fun hb => ?_) (fun hb => ?_) | (refine bif2.mk (fun hb => ?_) (fun hb => ?_) <;> (try simp only [hb,GA,↓GB,GX,simprocAttr,hnt,hT,h,e1]))) <;> ((first | cases hb | (simp only [HBs] at hb) | skip) <;> (first | (exfalso;omega) | skip)))|((first | (refine CallVC.pv hP (statusRight_any _ _ _ _ _ (by omega)) rfl ?_) | (refine CallQ.pv hP (statusRight_any _ _ _ _ _ (by omega)) rfl ?_) | (refine Ctr.use (writeByte_ctr 4) hP ?_ [1] ?_ rfl rfl ?_;(focus (intro p hp;cases hp));(focus (refine LeR.of rfl trivial ?_ ?_ ?_ ?_ ?_ <;> first | decide | (simp only [GA,↓GB,GX,simprocAttr,GDs];done)));intro os' s hR;obtain ⟨rfl,rfl⟩ := hR) | (refine Ctr.use (wnumber_ctr [4] 1 t (by decide) (by decide) (by omega) (by omega) (by simp)) hP ?_ [1,4] ?_ rfl rfl ?_;(focus (intro p hp;cases hp));(focus (refine LeR.of rfl trivial ?_ ?_ ?_ ?_ ?_ <;> first | decide | (simp only [GA,↓GB,GX,simprocAttr,GDs];done)));intro os' s hR;obtain ⟨rfl,rfl⟩ := hR) | (refine Ctr.use (wlist1_ctr (4 :: numB 1 t) s 2 (by decide) (by decide) hs (by simp;omega)) hP ?_ [1,5,6] ?_ rfl rfl ?_;(focus (intro p hp;cases hp));(focus (refine LeR.of rfl trivial ?_ ?_ ?_ ?_ ?_ <;> first | decide | (simp only [GA,↓GB,GX,simprocAttr,GDs];done)));intro os' s hR;obtain ⟨rfl,rfl⟩ := hR) | (refine Ctr.use (wnumber_ctr (4 :: (numB 1 t ++ textB 2 s)) 3 q (by decide) (by decide) hq1 hq (by simp;omega)) hP ?_ [1,7] ?_ rfl rfl ?_;(focus (intro p hp;cases hp));(focus (refine LeR.of rfl trivial ?_ ?_ ?_ ?_ ?_ <;> first | decide | (simp only [GA,↓GB,GX,simprocAttr,GDs];done)));intro os' s hR;obtain ⟨rfl,rfl⟩ := hR) | (refine Ctr.use (wflag_no (4 :: (numB 1 t ++ textB 2 s ++ numB 3 q)) 4) hP ?_ [1,8] ?_ rfl rfl ?_;(focus (intro p hp;cases hp));(focus (refine LeR.of rfl trivial ?_ ?_ ?_ ?_ ?_ <;> first | decide | (simp only [GA,↓GB,GX,simprocAttr,GDs];done)));intro os' s hR;obtain ⟨rfl,rfl⟩ := hR) | (refine Ctr.use (string_ctr (4 :: (numB 1 t ++ textB 2 s ++ numB 3 q)) (by simp) (by simp;omega)) hP ?_ [1,8] ?_ rfl rfl ?_;(focus (intro p hp;cases hp));(focus (refine LeR.of rfl trivial ?_ ?_ ?_ ?_ ?_ <;> first | decide | (simp only [GA,↓GB,GX,simprocAttr,GDs];done)));intro os' s hR;obtain ⟨rfl,rfl⟩ := hR));simp only [GA,↓GB,GX,simprocAttr,hnt,hT,h,e1])|(refine and_mk ?_ ?_;(focus first | decide | omega | rfl | assumption | (simp only [LBs];omega) | (simp;done)))|(refine And.intro ?_ ?_))
  all_goals (try refine Done.mk ?_)
  all_goals first | exact hbel | exact ⟨by simp [statusBytes],hbel⟩
theorem putStatus_detail (t : Nat) (s : List UInt8) (q : Nat) (hs : s.length < 4294967296) (hq : q < 18446744073709551616) (ht : t ≤ 5) (ht1 : 1 ≤ t) (hq1 : 0 < q) (d : List UInt8) (hd : d.length < 4294967296) (hd0 : d ≠ []) (h : statusB t s q false d = true) (w : World) :
    Calls Tryz.prog 22 #[.agg #[.int .i64 t,.string (B s),.int .u64 q,.bool false,.string (B d)]] w fun e w' => e = .returned (.tuple #[.string (B (statusBytes t s q false d)),.bool true]) ∧ Below w.heap.size w w' := by
  have e1 : IntKind.u64.wrap (t : Int) = (t : Int) := wU64 (by omega) (by omega)
  have n1 := numB_len 1 t (by decide) (by omega)
  have n2 := textB_len 2 s (by decide) hs
  have n3 := numB_len 3 q (by decide) hq
  have n4 := numB_len 4 1 (by decide) (by decide)
  have n5 := textB_len 5 d (by decide) hd
  have gd : (d == []) = false := by cases d <;> simp_all
  refine calls_pureK (args := [.agg #[.int .i64 t,.string (B s),.int .u64 q,.bool false,.string (B d)]]) w Tryz.func22 rfl Tryz.ntmps22 (by simp) ?_
  intro X K hX hK
  have hnt : X.nt = 35 := by rw [hX]
  have hwi : X.wi = w := by rw [hX]
  have hP : X.P = Tryz.prog := by rw [hX]
  have hown : X.own = [] := by rw [hX]
  have hbl : X.base.length = 0 := by rw [hX];rfl
  clear hX
  have hT := Ty.T22 hP
  repeat' (first|(refine SX.seqK ?_;intro N hN)|((first | (refine SX.ops ?_));simp only [GA,↓GB,GX,simprocAttr,hnt,hT,h,e1,gd])|((first | refine SX.skip ?_ | refine SX.exit ?_ | refine SX.label ?_ | refine SX.ret ?_);try simp only [GA,↓GB,GX,simprocAttr])|(refine hN _ ?_;clear hN N)|(refine hK _ _ (Fin.res rfl hown ?_);simp only [GA,↓GB,GX,simprocAttr,f_a,f_b,f_n,f_c,f_B,f_v,f_g,f_0,f_1,f_2,hT,hwi,h,e1,gd];intro w' hbel;refine Done.out ?_)|((first | refine SX.cond rfl (fun hb => ?_) (fun hb => ?_) | (refine bif2.mk (fun hb => ?_) (fun hb => ?_) <;> (try simp only [hb,GA,↓GB,GX,simprocAttr,hnt,hT,h,e1,gd]))) <;> ((first | cases hb | (simp only [HBs] at hb) | skip) <;> (first | (exfalso;omega) | skip)))|((first | (refine CallVC.pv hP (statusRight_any _ _ _ _ _ (by omega)) rfl ?_) | (refine CallQ.pv hP (statusRight_any _ _ _ _ _ (by omega)) rfl ?_) | (refine Ctr.use (writeByte_ctr 4) hP ?_ [1] ?_ rfl rfl ?_;(focus (intro p hp;cases hp));(focus (refine LeR.of rfl trivial ?_ ?_ ?_ ?_ ?_ <;> first | decide | (simp only [GA,↓GB,GX,simprocAttr,GDs];done)));intro os' s hR;obtain ⟨rfl,rfl⟩ := hR) | (refine Ctr.use (wnumber_ctr [4] 1 t (by decide) (by decide) (by omega) (by omega) (by simp)) hP ?_ [1,4] ?_ rfl rfl ?_;(focus (intro p hp;cases hp));(focus (refine LeR.of rfl trivial ?_ ?_ ?_ ?_ ?_ <;> first | decide | (simp only [GA,↓GB,GX,simprocAttr,GDs];done)));intro os' s hR;obtain ⟨rfl,rfl⟩ := hR) | (refine Ctr.use (wlist1_ctr (4 :: numB 1 t) s 2 (by decide) (by decide) hs (by simp;omega)) hP ?_ [1,5,6] ?_ rfl rfl ?_;(focus (intro p hp;cases hp));(focus (refine LeR.of rfl trivial ?_ ?_ ?_ ?_ ?_ <;> first | decide | (simp only [GA,↓GB,GX,simprocAttr,GDs];done)));intro os' s hR;obtain ⟨rfl,rfl⟩ := hR) | (refine Ctr.use (wnumber_ctr (4 :: (numB 1 t ++ textB 2 s)) 3 q (by decide) (by decide) hq1 hq (by simp;omega)) hP ?_ [1,7] ?_ rfl rfl ?_;(focus (intro p hp;cases hp));(focus (refine LeR.of rfl trivial ?_ ?_ ?_ ?_ ?_ <;> first | decide | (simp only [GA,↓GB,GX,simprocAttr,GDs];done)));intro os' s hR;obtain ⟨rfl,rfl⟩ := hR) | (refine Ctr.use (wflag_no (4 :: (numB 1 t ++ textB 2 s ++ numB 3 q)) 4) hP ?_ [1,8] ?_ rfl rfl ?_;(focus (intro p hp;cases hp));(focus (refine LeR.of rfl trivial ?_ ?_ ?_ ?_ ?_ <;> first | decide | (simp only [GA,↓GB,GX,simprocAttr,GDs];done)));intro os' s hR;obtain ⟨rfl,rfl⟩ := hR) | (refine Ctr.use (wlist1_ctr (4 :: (numB 1 t ++ textB 2 s ++ numB 3 q)) d 5 (by decide) (by decide) hd (by simp;omega)) hP ?_ [1,8,9] ?_ rfl rfl ?_;(focus (intro p hp;cases hp));(focus (refine LeR.of rfl trivial ?_ ?_ ?_ ?_ ?_ <;> first | decide | (simp only [GA,↓GB,GX,simprocAttr,GDs];done)));intro os' s hR;obtain ⟨rfl,rfl⟩ := hR) | (refine Ctr.use (string_ctr (4 :: (numB 1 t ++ textB 2 s ++ numB 3 q ++ textB 5 d)) (by simp) (by simp;omega)) hP ?_ [1,10] ?_ rfl rfl ?_;(focus (intro p hp;cases hp));(focus (refine LeR.of rfl trivial ?_ ?_ ?_ ?_ ?_ <;> first | decide | (simp only [GA,↓GB,GX,simprocAttr,GDs];done)));intro os' s hR;obtain ⟨rfl,rfl⟩ := hR));simp only [GA,↓GB,GX,simprocAttr,hnt,hT,h,e1,gd])|(refine and_mk ?_ ?_;(focus first | decide | omega | rfl | assumption | (simp only [LBs];omega) | (simp;done)))|(refine And.intro ?_ ?_))
  all_goals (try refine Done.mk ?_)
  all_goals first | exact hbel | exact ⟨by simp [statusBytes,hd0],hbel⟩
end Go.Proofs.YtbdacbcpniegiaaGreatDoor
namespace Go.Proofs.YtbdacbcpniegiaaGreatDoor
open Go Go.RowKit Go.Proofs Go.Sx
theorem nameB_len {s : List UInt8} (h : nameB s = true) : s.length ≤ 64 := by
  simp only [nameB,Bool.and_eq_true,decide_eq_true_eq] at h
  omega
theorem keyB_spec {t : Int} {s : List UInt8} (h : keyB t s = true) : 1 ≤ t ∧ t ≤ 5 ∧ s.length ≤ 64 := by
  simp only [keyB,Bool.and_eq_true,decide_eq_true_eq,Bool.or_eq_true,beq_iff_eq] at h
  refine ⟨h.1.1,h.1.2,?_⟩
  rcases h.2 with h | h
  · subst h;decide
  · exact nameB_len h
theorem statusB_spec {t : Int} {s : List UInt8} {q : Int} {ok : Bool} {d : List UInt8} (h : statusB t s q ok d = true) : 1 ≤ t ∧ t ≤ 5 ∧ s.length ≤ 64 ∧ 0 < q ∧ d.length ≤ 256 ∧ (ok = true → d = []) := by
  simp only [statusB,Bool.and_eq_true,decide_eq_true_eq,Bool.or_eq_true,Bool.not_eq_true',beq_iff_eq] at h
  obtain ⟨⟨⟨⟨h1,_⟩,h3⟩,h4⟩,h5⟩ := h
  obtain ⟨a,b,c⟩ := keyB_spec h1
  refine ⟨a,b,c,h3,by omega,fun e => ?_⟩
  rcases h5 with h5 | h5
  · rw [e] at h5;cases h5
  · exact h5
theorem putStatus_any (t : Int) (s : List UInt8) (q : Nat) (ok : Bool) (d : List UInt8) (hs : s.length ≤ 9223372036854775807) (hq : q < 18446744073709551616) (w : World) :
    Calls Tryz.prog 22 #[.agg #[.int .i64 t,.string (B s),.int .u64 q,.bool ok,.string (B d)]] w fun e w' => e = .returned (.tuple #[.string (B (if statusB t s q ok d then statusBytes t.toNat s q ok d else [])),.bool (statusB t s q ok d)]) ∧ Below w.heap.size w w' := by
  cases h : statusB t s q ok d with
  | false => simpa using putStatus_no t s q ok d hs h w
  | true =>
    obtain ⟨h1,h2,h3,h4,h5,h6⟩ := statusB_spec h
    obtain ⟨n,rfl⟩ : ∃ n : Nat,t = n := ⟨t.toNat,by omega⟩
    simp only [if_true,Int.toNat_natCast]
    cases ok with
    | true =>
      have := h6 rfl;subst this
      exact putStatus_ok n s q (by omega) hq (by omega) (by omega) (by omega) h w
    | false =>
      by_cases hd : d = []
      · subst hd;exact putStatus_plain n s q (by omega) hq (by omega) (by omega) (by omega) h w
      · exact putStatus_detail n s q (by omega) hq (by omega) (by omega) (by omega) d (by omega) hd h w
end Go.Proofs.YtbdacbcpniegiaaGreatDoor
namespace Go.Proofs.YtbdacbcpniegiaaGreatDoor
open Go Go.RowKit Go.Proofs Go.Sx
theorem parse_all_aux (G : Nat → NW.Fld → Prop) (hG : ∀ (p : List UInt8) f r,NW.takeF p = some (f,r) → G p.length f) (hm : ∀ a b f,a ≤ b → G a f → G b f) : ∀ (n : Nat) (s : List UInt8) (l : List NW.Fld),s.length ≤ n → NW.parse s = some l → ∀ f ∈ l,G s.length f
  | n,[],l,_,h => by rw [NW.parse_nil] at h;cases h;intro f hf;simp at hf
  | 0,b :: s,l,hn,h => by simp at hn
  | n + 1,b :: s,l,hn,h => by
    cases ht : NW.takeF (b :: s) with
    | none => rw [NW.parse_none (by simp) ht] at h;cases h
    | some fr =>
      obtain ⟨f,r⟩ := fr
      have hl := NW.takeF_len ht
      rw [NW.parse_some ht] at h
      cases hr : NW.parse r with
      | none => rw [hr] at h;cases h
      | some l' =>
        rw [hr] at h;cases h
        have ih := parse_all_aux G hG hm n r l' (by simp only [List.length_cons] at hl hn;omega) hr
        intro g hg
        rcases List.mem_cons.1 hg with rfl | hg
        · exact hG _ _ _ ht
        · exact hm _ _ _ (Nat.le_of_lt hl) (ih g hg)
theorem parse_slen {s : List UInt8} {l : List NW.Fld} (h : NW.parse s = some l) : ∀ f ∈ l,f.s.length ≤ s.length :=
  parse_all_aux (fun n f => f.s.length ≤ n) (fun p f r h => takeF_slen h) (fun a b f hab h => Nat.le_trans h hab) _ s l (Nat.le_refl _) h
theorem takeG_inv {S : Type} {step : NW.Fld → S → Option S} (G : S → Prop) : ∀ (l : List NW.Fld) (m : S),G m → (∀ f ∈ l,∀ m m',G m → step f m = some m' → G m') → G (takeG step l m).1
  | [],m,h,_ => h
  | f :: l,m,h,hs => by
    rw [takeG]
    cases hf : step f m with
    | none => exact h
    | some m' => exact takeG_inv G l m' (hs f (by simp) m m' h hf) (fun g hg => hs g (by simp [hg]))
theorem takeS_name (s : List UInt8) (m : StS) (n : Nat) (hm : m.name.length ≤ n) (hs : s.length ≤ n) : (takeB stepS s m).1.name.length ≤ n := by
  unfold takeB
  cases hp : NW.parse s with
  | none => exact hm
  | some l =>
    refine takeG_inv (fun m => m.name.length ≤ n) l m hm fun f hf m m' h1 h2 => ?_
    have := parse_slen hp f hf
    unfold stepS at h2
    repeat' split at h2
    all_goals first|(cases h2;done)|(cases h2;exact h1)|(cases h2;show f.s.length ≤ n;omega)
def statR (s : List UInt8) : Option StS := if kindL s = 4 then
    (if (takeB stepS (s.drop 1) ⟨0,[],0,0,[]⟩).2 = true ∧ (takeB stepS (s.drop 1) ⟨0,[],0,0,[]⟩).1.fine ≤ 1 ∧ statusB ((min (takeB stepS (s.drop 1) ⟨0,[],0,0,[]⟩).1.kind 6 : Nat) : Int) (takeB stepS (s.drop 1) ⟨0,[],0,0,[]⟩).1.name (takeB stepS (s.drop 1) ⟨0,[],0,0,[]⟩).1.seq (((takeB stepS (s.drop 1) ⟨0,[],0,0,[]⟩).1.fine : Int) == 1) (takeB stepS (s.drop 1) ⟨0,[],0,0,[]⟩).1.det = true then some (takeB stepS (s.drop 1) ⟨0,[],0,0,[]⟩).1 else none) else none
def statV : Option StS → SV
  | some m => .tup [.agg [.v (.int .i64 ((min m.kind 6 : Nat) : Int)),.v (.string (B m.name)),.v (.int .u64 m.seq),.v (.bool ((m.fine : Int) == 1)),.v (.string (B m.det))],.c (.v (.bool true))]
  | none => .tup [.agg [.v (.int .i64 0),.v (.string (B [])),.v (.int .u64 0),.v (.bool false),.v (.string (B []))],.c (.v (.bool false))]
theorem getStat_no {e : EA} (he : e.Ok) (s : List UInt8) (hk : ¬ kindL s = 4) (m : StS) : Ctr Tryz.prog (GE e) 56 (statO m) [vv (.string (B s)),vv (.int .i64 4),.one (.c (.row 0))] (fun os v => os = statO m ∧ v = vv (errV e.k)) := by
  have hk1 : (kindL s != 4) = true := by simpa using hk
  refine Ctr.less ?_
  intro X0 hP0 hG0 N0 hN0
  refine CallVC.inline (f := 56) (by rw [hP0];exact Tryz.func56) rfl Tryz.ntmps56 rfl (by simp) ?_
  intro X K hU hnt hbl hK
  have hP : X.P = Tryz.prog := hU.P.trans hP0
  have hG := hG0.under hU
  have hT := Ty.T56 hP
  simp only [GA,↓GB,GX,simprocAttr] at hbl ⊢
  repeat' (first|(refine SX.seqK ?_;intro N hN)|((first | (refine SX.ops ?_));simp only [GA,↓GB,GX,simprocAttr,hnt,hT,hk1])|((first | refine SX.skip ?_ | refine SX.exit ?_ | refine SX.label ?_ | refine SX.ret ?_);try simp only [GA,↓GB,GX,simprocAttr])|(refine hN _ ?_;clear hN N)|((first | refine hK _ _ (FinI.ret3 ?_) | refine hK _ _ (FinI.nrm3 ?_));simp only [GA,↓GB,GX,simprocAttr,finP_s,hnt,hT,hk1];refine Done.out ?_)|((first | refine SX.cond rfl (fun hb => ?_) (fun hb => ?_) | (refine bif2.mk (fun hb => ?_) (fun hb => ?_) <;> (try simp only [hb,GA,↓GB,GX,simprocAttr,hnt,hT,hk1]))) <;> ((first | cases hb | (simp only [HBs] at hb) | skip) <;> (first | (exfalso;omega) | skip)))|((first | (refine CallVC.pv hP (kind_any s) rfl ?_) | (refine CallQ.pv hP (kind_any s) rfl ?_));simp only [GA,↓GB,GX,simprocAttr,hnt,hT,hk1])|(refine ldG (p := (⟨1,0,none⟩,errV e.k)) (hG _ (GE0 e)) ?_;simp only [GA,↓GB,GX,simprocAttr,hnt,hT])|(refine and_mk ?_ ?_;(focus first | decide | omega | rfl | assumption | (simp only [LBs];omega) | (simp;done)))|(refine And.intro ?_ ?_))
  all_goals (try refine Done.mk ?_)
  all_goals ((refine hN0 _ _ ⟨[0,1,2,3,4,5,6,7,8],_,_,?_,?_,?_,⟨rfl,rfl⟩⟩;(focus exact LeR.of rfl trivial (by simp only [GA,↓GB,GX,simprocAttr,GDs]) (by decide) rfl rfl rfl);rotate_left;(focus rfl));rfl)
theorem getStat_yes {e : EA} (he : e.Ok) (s : List UInt8) (hs : s.length ≤ 1099511627776) (hk : kindL s = 4) (m : StS) : Ctr Tryz.prog (GE e) 56 (statO m) [vv (.string (B s)),vv (.int .i64 4),.one (.c (.row 0))]
    (fun os v => os = statO (takeB stepS (s.drop 1) m).1 ∧ v = vv (okV e (takeB stepS (s.drop 1) m).2)) := by
  have hd := drop1 s
  have h1 : 1 ≤ s.length := by cases s with | nil => simp [kindL] at hk | cons _ _ => simp
  refine Ctr.less ?_
  intro X0 hP0 hG0 N0 hN0
  refine CallVC.inline (f := 56) (by rw [hP0];exact Tryz.func56) rfl Tryz.ntmps56 rfl (by simp) ?_
  intro X K hU hnt hbl hK
  have hP : X.P = Tryz.prog := hU.P.trans hP0
  have hG := hG0.under hU
  have hT := Ty.T56 hP
  simp only [GA,↓GB,GX,simprocAttr] at hbl ⊢
  repeat' (first|(refine SX.seqK ?_;intro N hN)|((first | (refine SX.ops ?_));simp only [GA,↓GB,GX,simprocAttr,hnt,hT,hk,hd])|((first | refine SX.skip ?_ | refine SX.exit ?_ | refine SX.label ?_ | refine SX.ret ?_);try simp only [GA,↓GB,GX,simprocAttr])|(refine hN _ ?_;clear hN N)|((first | refine hK _ _ (FinI.ret3 ?_) | refine hK _ _ (FinI.nrm3 ?_));simp only [GA,↓GB,GX,simprocAttr,finP_s,hnt,hT,hk,hd];refine Done.out ?_)|((first | refine SX.cond rfl (fun hb => ?_) (fun hb => ?_) | (refine bif2.mk (fun hb => ?_) (fun hb => ?_) <;> (try simp only [hb,GA,↓GB,GX,simprocAttr,hnt,hT,hk,hd]))) <;> ((first | cases hb | (simp only [HBs] at hb) | skip) <;> (first | (exfalso;omega) | skip)))|((first | (refine CallVC.pv hP (kind_any s) rfl ?_) | (refine CallQ.pv hP (kind_any s) rfl ?_) | (refine Ctr.use (takeStat_ctr he (s.drop 1) (by rw [List.length_drop];omega) m) hP hG [0,1,2,3,4,5,6,7,8] ?_ rfl rfl ?_;(focus (refine LeR.of rfl trivial ?_ ?_ ?_ ?_ ?_ <;> first | decide | (simp only [GA,↓GB,GX,simprocAttr,GDs];done)));intro os' s hR;obtain ⟨rfl,rfl⟩ := hR));simp only [GA,↓GB,GX,simprocAttr,hnt,hT,hk,hd])|(refine and_mk ?_ ?_;(focus first | decide | omega | rfl | assumption | (simp only [LBs];omega) | (simp;done)))|(refine And.intro ?_ ?_))
  all_goals (try refine Done.mk ?_)
  all_goals ((refine hN0 _ _ ⟨[0,1,2,3,4,5,6,7,8],_,_,?_,?_,?_,⟨rfl,rfl⟩⟩;(focus exact LeR.of rfl trivial (by simp only [GA,↓GB,GX,simprocAttr,GDs]) (by decide) rfl rfl rfl);rotate_left;(focus rfl));rfl)
end Go.Proofs.YtbdacbcpniegiaaGreatDoor
namespace Go.Proofs.YtbdacbcpniegiaaGreatDoor
open Go Go.RowKit Go.Proofs Go.Sx
theorem min6 (k : Nat) : (if (6 : Int) < (k : Int) then (6 : Int) else (k : Int)) = ((min k 6 : Nat) : Int) := by split <;> omega
theorem min6w (k : Nat) : IntKind.i64.wrap ((min k 6 : Nat) : Int) = ((min k 6 : Nat) : Int) := wI64 (by omega) (by omega)
theorem getStatus_ctr {e : EA} (he : e.Ok) (s : List UInt8) (hs : s.length ≤ 1099511627776) : Ctr Tryz.prog (GE e) 25 [] [vv (.string (B s))] (fun os v => os = [] ∧ v = statV (statR s)) := by
  refine Ctr.less ?_
  by_cases hk : kindL s = 4
  · obtain ⟨m,hm⟩ : ∃ m,(takeB stepS (s.drop 1) ⟨0,[],0,0,[]⟩).1 = m := ⟨_,rfl⟩
    have hg := getStat_yes he s hs hk ⟨0,[],0,0,[]⟩
    have hn : m.name.length ≤ 9223372036854775807 := by rw [← hm];exact takeS_name _ _ _ (by simp) (by rw [List.length_drop];omega)
    have h6 := min6 m.kind
    have h7 := min6w m.kind
    unfold statR
    rw [if_pos hk,hm]
    rw [hm] at hg
    cases hr : (takeB stepS (s.drop 1) ⟨0,[],0,0,[]⟩).2 with
    | true =>
      rw [hr] at hg
      have hb := bad_nil he
      intro X0 hP0 hG0 N0 hN0
      refine CallVC.inline (f := 25) (by rw [hP0];exact Tryz.func25) rfl Tryz.ntmps25 rfl (by simp) ?_
      intro X K hU hnt hbl hK
      have hP : X.P = Tryz.prog := hU.P.trans hP0
      have hG := hG0.under hU
      have hT := Ty.T25 hP
      simp only [GA,↓GB,GX,simprocAttr] at hbl ⊢
      have hk8 : aggOf X.P 113 = some true := by rw [hP];kernel_rfl
      have hnt1 := True.intro;have hT1 := True.intro;have hU1P := True.intro
      repeat' (first|(refine SX.seqK ?_;intro N hN)|((first | (refine SX.ops ?_));simp only [GA,↓GB,GX,simprocAttr,hnt,hT,hnt1,hT1,hU1P,hk8,h6,h7])|((first | refine SX.skip ?_ | refine SX.exit ?_ | refine SX.label ?_ | refine SX.ret ?_);try simp only [GA,↓GB,GX,simprocAttr])|(refine hN _ ?_;clear hN N)|((first | refine hK1 _ _ (FinI.ret3 ?_) | refine hK1 _ _ (FinI.nrm3 ?_));(repeat (clear hN N));clear hK1 K1;simp only [GA,↓GB,GX,simprocAttr,finP_s,hnt,hT,hnt1,hT1,hU1P,hk8,h6,h7])|((first | refine hK _ _ (FinI.ret3 ?_) | refine hK _ _ (FinI.nrm3 ?_));simp only [GA,↓GB,GX,simprocAttr,finP_s,hnt,hT,hnt1,hT1,hU1P,hk8,h6,h7];refine Done.out ?_)|((first | refine SX.cond rfl (fun hb => ?_) (fun hb => ?_) | (refine bif2.mk (fun hb => ?_) (fun hb => ?_) <;> (try simp only [hb,GA,↓GB,GX,simprocAttr,hnt,hT,hnt1,hT1,hU1P,hk8,h6,h7]))) <;> ((first | cases hb | (simp only [HBs] at hb) | skip) <;> (first | (exfalso;omega) | skip)))|((first | (refine Ctr.use (hg) hP hG [4,5,7,9,11,13,2,3,1] ?_ rfl rfl ?_;(focus (refine LeR.of rfl trivial ?_ ?_ ?_ ?_ ?_ <;> first | decide | (simp only [GA,↓GB,GX,simprocAttr,GDs];done)));intro os' s hR;obtain ⟨rfl,rfl⟩ := hR) | (refine Ctr.use (hb) hP hG [] ?_ rfl rfl ?_;(focus (refine LeR.of rfl trivial ?_ ?_ ?_ ?_ ?_ <;> first | decide | (simp only [GA,↓GB,GX,simprocAttr,GDs];done)));intro os' s hR;obtain ⟨rfl,rfl⟩ := hR) | (refine CallVC.pv hP (statusRight_any _ _ _ _ _ hn) rfl ?_) | (refine CallQ.pv hP (statusRight_any _ _ _ _ _ hn) rfl ?_));simp only [GA,↓GB,GX,simprocAttr,hnt,hT,hnt1,hT1,hU1P,hk8,h6,h7])|(refine CallVC.inline (f := 54) ?_ rfl Tryz.ntmps54 rfl ?_ ?_;(focus rw [hP];exact Tryz.func54);(focus simp);have hT1 := Ty.T54 hP;intro X1 K1 hU1 hnt1 hbl1 hK1;have hU1P := hU1.P;simp only [GA,↓GB,GX,simprocAttr] at hbl1 ⊢)|(refine CallVC.inline (f := 53) ?_ rfl Tryz.ntmps53 rfl ?_ ?_;(focus rw [hP];exact Tryz.func53);(focus simp);have hT1 := Ty.T53 hP;intro X1 K1 hU1 hnt1 hbl1 hK1;have hU1P := hU1.P;simp only [GA,↓GB,GX,simprocAttr] at hbl1 ⊢)|((first | (refine Ctr.use (hg) (hU1P.trans hP) (hG.under hU1) [4,5,7,9,11,13,2,3,1] ?_ rfl rfl ?_;(focus (refine LeR.of rfl trivial ?_ ?_ ?_ ?_ ?_ <;> first | decide | (simp only [GA,↓GB,GX,simprocAttr,GDs];done)));intro os' s hR;obtain ⟨rfl,rfl⟩ := hR) | (refine Ctr.use (hb) (hU1P.trans hP) (hG.under hU1) [] ?_ rfl rfl ?_;(focus (refine LeR.of rfl trivial ?_ ?_ ?_ ?_ ?_ <;> first | decide | (simp only [GA,↓GB,GX,simprocAttr,GDs];done)));intro os' s hR;obtain ⟨rfl,rfl⟩ := hR) | (refine CallVC.pv (hU1P.trans hP) (statusRight_any _ _ _ _ _ hn) rfl ?_) | (refine CallQ.pv (hU1P.trans hP) (statusRight_any _ _ _ _ _ hn) rfl ?_));simp only [GA,↓GB,GX,simprocAttr,hnt,hT,hnt1,hT1,hU1P,hk8,h6,h7])|(refine and_mk ?_ ?_;(focus first | decide | omega | rfl | assumption | (simp only [LBs];omega) | (simp;done)))|(refine And.intro ?_ ?_))
      all_goals (try refine Done.mk ?_)
      · rw [if_neg (fun h => by have := h.2.1;omega)] at hN0
        (refine hN0 _ _ ⟨[],_,_,?_,?_,?_,⟨rfl,rfl⟩⟩;(focus exact LeR.of rfl trivial (by simp only [GA,↓GB,GX,simprocAttr,GDs]) (by decide) rfl rfl rfl);rotate_left;(focus rfl))
        rfl
      · rw [if_neg (fun h => by have := h.2.2;rw [hb] at this;cases this)] at hN0
        (refine hN0 _ _ ⟨[],_,_,?_,?_,?_,⟨rfl,rfl⟩⟩;(focus exact LeR.of rfl trivial (by simp only [GA,↓GB,GX,simprocAttr,GDs]) (by decide) rfl rfl rfl);rotate_left;(focus rfl))
        rfl
      · rw [if_pos ⟨rfl,by omega,hb⟩] at hN0
        (refine hN0 _ _ ⟨[],_,_,?_,?_,?_,⟨rfl,rfl⟩⟩;(focus exact LeR.of rfl trivial (by simp only [GA,↓GB,GX,simprocAttr,GDs]) (by decide) rfl rfl rfl);rotate_left;(focus rfl))
        rfl
    | false =>
      rw [hr] at hg
      have hb := bad_form he
      intro X0 hP0 hG0 N0 hN0
      refine CallVC.inline (f := 25) (by rw [hP0];exact Tryz.func25) rfl Tryz.ntmps25 rfl (by simp) ?_
      intro X K hU hnt hbl hK
      have hP : X.P = Tryz.prog := hU.P.trans hP0
      have hG := hG0.under hU
      have hT := Ty.T25 hP
      simp only [GA,↓GB,GX,simprocAttr] at hbl ⊢
      have hk8 : aggOf X.P 113 = some true := by rw [hP];kernel_rfl
      have hnt1 := True.intro;have hT1 := True.intro;have hU1P := True.intro
      repeat' (first|(refine SX.seqK ?_;intro N hN)|((first | (refine SX.ops ?_));simp only [GA,↓GB,GX,simprocAttr,hnt,hT,hnt1,hT1,hU1P,hk8,h6,h7])|((first | refine SX.skip ?_ | refine SX.exit ?_ | refine SX.label ?_ | refine SX.ret ?_);try simp only [GA,↓GB,GX,simprocAttr])|(refine hN _ ?_;clear hN N)|((first | refine hK1 _ _ (FinI.ret3 ?_) | refine hK1 _ _ (FinI.nrm3 ?_));(repeat (clear hN N));clear hK1 K1;simp only [GA,↓GB,GX,simprocAttr,finP_s,hnt,hT,hnt1,hT1,hU1P,hk8,h6,h7])|((first | refine hK _ _ (FinI.ret3 ?_) | refine hK _ _ (FinI.nrm3 ?_));simp only [GA,↓GB,GX,simprocAttr,finP_s,hnt,hT,hnt1,hT1,hU1P,hk8,h6,h7];refine Done.out ?_)|((first | refine SX.cond rfl (fun hb => ?_) (fun hb => ?_) | (refine bif2.mk (fun hb => ?_) (fun hb => ?_) <;> (try simp only [hb,GA,↓GB,GX,simprocAttr,hnt,hT,hnt1,hT1,hU1P,hk8,h6,h7]))) <;> ((first | cases hb | (simp only [HBs] at hb) | skip) <;> (first | (exfalso;omega) | skip)))|((first | (refine Ctr.use (hg) hP hG [4,5,7,9,11,13,2,3,1] ?_ rfl rfl ?_;(focus (refine LeR.of rfl trivial ?_ ?_ ?_ ?_ ?_ <;> first | decide | (simp only [GA,↓GB,GX,simprocAttr,GDs];done)));intro os' s hR;obtain ⟨rfl,rfl⟩ := hR) | (refine Ctr.use (hb) hP hG [] ?_ rfl rfl ?_;(focus (refine LeR.of rfl trivial ?_ ?_ ?_ ?_ ?_ <;> first | decide | (simp only [GA,↓GB,GX,simprocAttr,GDs];done)));intro os' s hR;obtain ⟨rfl,rfl⟩ := hR));simp only [GA,↓GB,GX,simprocAttr,hnt,hT,hnt1,hT1,hU1P,hk8,h6,h7])|(refine CallVC.inline (f := 54) ?_ rfl Tryz.ntmps54 rfl ?_ ?_;(focus rw [hP];exact Tryz.func54);(focus simp);have hT1 := Ty.T54 hP;intro X1 K1 hU1 hnt1 hbl1 hK1;have hU1P := hU1.P;simp only [GA,↓GB,GX,simprocAttr] at hbl1 ⊢)|(refine CallVC.inline (f := 53) ?_ rfl Tryz.ntmps53 rfl ?_ ?_;(focus rw [hP];exact Tryz.func53);(focus simp);have hT1 := Ty.T53 hP;intro X1 K1 hU1 hnt1 hbl1 hK1;have hU1P := hU1.P;simp only [GA,↓GB,GX,simprocAttr] at hbl1 ⊢)|((first | (refine Ctr.use (hg) (hU1P.trans hP) (hG.under hU1) [4,5,7,9,11,13,2,3,1] ?_ rfl rfl ?_;(focus (refine LeR.of rfl trivial ?_ ?_ ?_ ?_ ?_ <;> first | decide | (simp only [GA,↓GB,GX,simprocAttr,GDs];done)));intro os' s hR;obtain ⟨rfl,rfl⟩ := hR) | (refine Ctr.use (hb) (hU1P.trans hP) (hG.under hU1) [] ?_ rfl rfl ?_;(focus (refine LeR.of rfl trivial ?_ ?_ ?_ ?_ ?_ <;> first | decide | (simp only [GA,↓GB,GX,simprocAttr,GDs];done)));intro os' s hR;obtain ⟨rfl,rfl⟩ := hR));simp only [GA,↓GB,GX,simprocAttr,hnt,hT,hnt1,hT1,hU1P,hk8,h6,h7])|(refine and_mk ?_ ?_;(focus first | decide | omega | rfl | assumption | (simp only [LBs];omega) | (simp;done)))|(refine And.intro ?_ ?_))
      all_goals (try refine Done.mk ?_)
      all_goals (rw [if_neg (fun h => by cases h.1)] at hN0;(refine hN0 _ _ ⟨[],_,_,?_,?_,?_,⟨rfl,rfl⟩⟩;(focus exact LeR.of rfl trivial (by simp only [GA,↓GB,GX,simprocAttr,GDs]) (by decide) rfl rfl rfl);rotate_left;(focus rfl));rfl)
  · have hg := getStat_no he s hk ⟨0,[],0,0,[]⟩
    have hb := bad_kind he
    have h6 := min6 0
    have h7 := min6w 0
    rw [show statR s = none by rw [statR,if_neg hk]]
    intro X0 hP0 hG0 N0 hN0
    refine CallVC.inline (f := 25) (by rw [hP0];exact Tryz.func25) rfl Tryz.ntmps25 rfl (by simp) ?_
    intro X K hU hnt hbl hK
    have hP : X.P = Tryz.prog := hU.P.trans hP0
    have hG := hG0.under hU
    have hT := Ty.T25 hP
    simp only [GA,↓GB,GX,simprocAttr] at hbl ⊢
    have hk8 : aggOf X.P 113 = some true := by rw [hP];kernel_rfl
    have hnt1 := True.intro;have hT1 := True.intro;have hU1P := True.intro
    repeat' (first|(refine SX.seqK ?_;intro N hN)|((first | (refine SX.ops ?_));simp only [GA,↓GB,GX,simprocAttr,hnt,hT,hnt1,hT1,hU1P,hk8,h6,h7])|((first | refine SX.skip ?_ | refine SX.exit ?_ | refine SX.label ?_ | refine SX.ret ?_);try simp only [GA,↓GB,GX,simprocAttr])|(refine hN _ ?_;clear hN N)|((first | refine hK1 _ _ (FinI.ret3 ?_) | refine hK1 _ _ (FinI.nrm3 ?_));(repeat (clear hN N));clear hK1 K1;simp only [GA,↓GB,GX,simprocAttr,finP_s,hnt,hT,hnt1,hT1,hU1P,hk8,h6,h7])|((first | refine hK _ _ (FinI.ret3 ?_) | refine hK _ _ (FinI.nrm3 ?_));simp only [GA,↓GB,GX,simprocAttr,finP_s,hnt,hT,hnt1,hT1,hU1P,hk8,h6,h7];refine Done.out ?_)|((first | refine SX.cond rfl (fun hb => ?_) (fun hb => ?_) | (refine bif2.mk (fun hb => ?_) (fun hb => ?_) <;> (try simp only [hb,GA,↓GB,GX,simprocAttr,hnt,hT,hnt1,hT1,hU1P,hk8,h6,h7]))) <;> ((first | cases hb | (simp only [HBs] at hb) | skip) <;> (first | (exfalso;omega) | skip)))|((first | (refine Ctr.use (hg) hP hG [4,5,7,9,11,13,2,3,1] ?_ rfl rfl ?_;(focus (refine LeR.of rfl trivial ?_ ?_ ?_ ?_ ?_ <;> first | decide | (simp only [GA,↓GB,GX,simprocAttr,GDs];done)));intro os' s hR;obtain ⟨rfl,rfl⟩ := hR) | (refine Ctr.use (hb) hP hG [] ?_ rfl rfl ?_;(focus (refine LeR.of rfl trivial ?_ ?_ ?_ ?_ ?_ <;> first | decide | (simp only [GA,↓GB,GX,simprocAttr,GDs];done)));intro os' s hR;obtain ⟨rfl,rfl⟩ := hR));simp only [GA,↓GB,GX,simprocAttr,hnt,hT,hnt1,hT1,hU1P,hk8,h6,h7])|(refine CallVC.inline (f := 54) ?_ rfl Tryz.ntmps54 rfl ?_ ?_;(focus rw [hP];exact Tryz.func54);(focus simp);have hT1 := Ty.T54 hP;intro X1 K1 hU1 hnt1 hbl1 hK1;have hU1P := hU1.P;simp only [GA,↓GB,GX,simprocAttr] at hbl1 ⊢)|(refine CallVC.inline (f := 53) ?_ rfl Tryz.ntmps53 rfl ?_ ?_;(focus rw [hP];exact Tryz.func53);(focus simp);have hT1 := Ty.T53 hP;intro X1 K1 hU1 hnt1 hbl1 hK1;have hU1P := hU1.P;simp only [GA,↓GB,GX,simprocAttr] at hbl1 ⊢)|((first | (refine Ctr.use (hg) (hU1P.trans hP) (hG.under hU1) [4,5,7,9,11,13,2,3,1] ?_ rfl rfl ?_;(focus (refine LeR.of rfl trivial ?_ ?_ ?_ ?_ ?_ <;> first | decide | (simp only [GA,↓GB,GX,simprocAttr,GDs];done)));intro os' s hR;obtain ⟨rfl,rfl⟩ := hR) | (refine Ctr.use (hb) (hU1P.trans hP) (hG.under hU1) [] ?_ rfl rfl ?_;(focus (refine LeR.of rfl trivial ?_ ?_ ?_ ?_ ?_ <;> first | decide | (simp only [GA,↓GB,GX,simprocAttr,GDs];done)));intro os' s hR;obtain ⟨rfl,rfl⟩ := hR));simp only [GA,↓GB,GX,simprocAttr,hnt,hT,hnt1,hT1,hU1P,hk8,h6,h7])|(refine and_mk ?_ ?_;(focus first | decide | omega | rfl | assumption | (simp only [LBs];omega) | (simp;done)))|(refine And.intro ?_ ?_))
    all_goals (try refine Done.mk ?_)
    all_goals ((refine hN0 _ _ ⟨[],_,_,?_,?_,?_,⟨rfl,rfl⟩⟩;(focus exact LeR.of rfl trivial (by simp only [GA,↓GB,GX,simprocAttr,GDs]) (by decide) rfl rfl rfl);rotate_left;(focus rfl));rfl)
end Go.Proofs.YtbdacbcpniegiaaGreatDoor
namespace Go.Proofs.YtbdacbcpniegiaaGreatDoor
open Go Go.RowKit Go.Proofs Go.Sx
theorem numBlk2 {X : Ctx} {code : Code} {c : Cfg} {K : Exit → Cfg → Prop} {id : Nat} (x : Nat) (h1 : (x : Int) = 1 → SX X code c (bx id K)) (h2 : (x : Int) = 2 → SX X code c (bx id K))
    (h0 : ((x : Int) == 1) = false ∧ ((x : Int) == 2) = false → SX X code c (bx id K)) : SX X (.block id code) c K := by
  refine SX.block ?_
  by_cases e1 : (x : Int) = 1
  · exact h1 e1
  by_cases e2 : (x : Int) = 2
  · exact h2 e2
  exact h0 ⟨by simpa using e1,by simpa using e2⟩
abbrev HvS := List UInt8 × Nat
def stepH (f : NW.Fld) (m : HvS) : Option HvS :=
  if f.num = 1 then (if f.kind = 2 then some (f.s,m.2) else none)
  else if f.num = 2 then (if f.kind = 0 then some (m.1,f.n) else none)
  else some m
@[reducible] def haveMap : LO := .map [(.int .i64 1,.agg [.v (.int .i64 2),.clo 87 [] [.loc 1 0]]),(.int .i64 2,.agg [.v (.int .i64 0),.clo 88 [] [.loc 2 0]])]
@[reducible] def haveO (m : HvS) : List LO := [haveMap,.cells [.loc 3 0] 115,.cells [.loc 3 1] 117,.cells [.v (.string (B m.1)),.v (.int .u64 m.2)] 91]
theorem takeHave_ctr {e : EA} (he : e.Ok) (s : List UInt8) (hs : s.length ≤ 1099511627776) (m0 : HvS) : Ctr Tryz.prog (GE e) 52 (haveO m0) [vv (.string (B s)),.one (.c (.row 0))]
    (fun os v => os = haveO (takeB stepH s m0).1 ∧ v = vv (okV e (takeB stepH s m0).2)) := by
  have hk1 := True.intro
  have hpc := parse_ctr he s hs
  refine Ctr.less ?_
  cases hp : NW.parse s with
  | none =>
    rw [show takeB stepH s m0 = (m0,false) by rw [takeB,hp]]
    rw [hp] at hpc;simp only [parsedO,parsedV] at hpc
    intro X0 hP0 hG0 N0 hN0
    refine CallVC.inline (f := 52) (by rw [hP0];exact Tryz.func52) rfl Tryz.ntmps52 rfl (by simp) ?_
    intro X K hU hnt hbl hK
    have hP : X.P = Tryz.prog := hU.P.trans hP0
    have hG := hG0.under hU
    have hT := Ty.T52 hP
    simp only [GA,↓GB,GX,simprocAttr] at hbl ⊢
    repeat' (first|(refine SX.seqK ?_;intro N hN)|((first | (refine SX.ops ?_));simp only [GA,↓GB,GX,simprocAttr,hnt,hT])|((first | refine SX.skip ?_ | refine SX.exit ?_ | refine SX.label ?_ | refine SX.ret ?_);try simp only [GA,↓GB,GX,simprocAttr])|(refine hN _ ?_;clear hN N)|((first | refine hK _ _ (FinI.ret3 ?_) | refine hK _ _ (FinI.nrm3 ?_));simp only [GA,↓GB,GX,simprocAttr,finP_s,hnt,hT];refine Done.out ?_)|(clear hN N;first | (refine hN _ ?_;clear hN N) | (clear hN N;refine hN _ ?_;clear hN N))|((first | refine SX.cond rfl (fun hb => ?_) (fun hb => ?_) | (refine bif2.mk (fun hb => ?_) (fun hb => ?_) <;> (try simp only [hb,GA,↓GB,GX,simprocAttr,hnt,hT]))) <;> ((first | cases hb | (simp only [HBs] at hb) | skip) <;> (first | (exfalso;omega) | skip)))|((first | (refine Ctr.use (hpc) hP hG [] ?_ rfl rfl ?_;(focus (refine LeR.of rfl trivial ?_ ?_ ?_ ?_ ?_ <;> first | decide | (simp only [GA,↓GB,GX,simprocAttr,GDs];done)));intro os' s hR;obtain ⟨rfl,rfl⟩ := hR));simp only [GA,↓GB,GX,simprocAttr,hnt,hT])|(refine ldG (p := (⟨0,0,none⟩,errV e.f)) (hG _ (GE1 e)) ?_;simp only [GA,↓GB,GX,simprocAttr,hnt,hT])|(refine SX.block ?_)|(refine and_mk ?_ ?_;(focus first | decide | omega | rfl | assumption | (simp only [LBs];omega) | (simp;done)))|(refine And.intro ?_ ?_))
    all_goals (try refine Done.mk ?_)
    all_goals ((refine hN0 _ _ ⟨[0,1,2,3],_,_,?_,?_,?_,⟨rfl,rfl⟩⟩;(focus exact LeR.of rfl trivial (by simp only [GA,↓GB,GX,simprocAttr,GDs]) (by decide) rfl rfl rfl);rotate_left;(focus rfl));rfl)
  | some l =>
    rw [show takeB stepH s m0 = takeG stepH l m0 by rw [takeB,hp]]
    have hll := parse_len hp
    rw [hp] at hpc;simp only [parsedO,parsedV] at hpc
    intro X0 hP0 hG0 N0 hN0
    refine CallVC.inline (f := 52) (by rw [hP0];exact Tryz.func52) rfl Tryz.ntmps52 rfl (by simp) ?_
    intro X K hU hnt hbl hK
    have hP : X.P = Tryz.prog := hU.P.trans hP0
    have hG := hG0.under hU
    have hT := Ty.T52 hP
    simp only [GA,↓GB,GX,simprocAttr] at hbl ⊢
    have hk9 : calleeOk X.P 88 = true := by rw [hP];kernel_rfl
    have hk8 : calleeOk X.P 87 = true := by rw [hP];kernel_rfl
    have hnt1 := True.intro;have hT1 := True.intro;have hU1P := True.intro
    repeat' (first|(refine numBlk2 (id := 1) (l.getD i default).num (fun hk1 => ?_) (fun hk1 => ?_) (fun hk1 => ?_))|(refine SX.seqK ?_;intro N hN)|((first | (refine SX.ops ?_));simp only [GA,↓GB,GX,simprocAttr,hnt,hT,hnt1,hT1,hU1P,hk1,hk9,hk8])|((first | refine SX.skip ?_ | refine SX.exit ?_ | refine SX.label ?_ | refine SX.ret ?_);try simp only [GA,↓GB,GX,simprocAttr])|(refine hN _ ?_;clear hN N)|((first | refine hK1 _ _ (FinI.ret3 ?_) | refine hK1 _ _ (FinI.nrm3 ?_));(repeat (clear hN N));clear hK1 K1;simp only [GA,↓GB,GX,simprocAttr,finP_s,hnt,hT,hnt1,hT1,hU1P,hk1,hk9,hk8])|((first | refine hK _ _ (FinI.ret3 ?_) | refine hK _ _ (FinI.nrm3 ?_));simp only [GA,↓GB,GX,simprocAttr,finP_s,hnt,hT,hnt1,hT1,hU1P,hk1,hk9,hk8];refine Done.out ?_)|(clear hN N;first | (refine hN _ ?_;clear hN N) | (clear hN N;refine hN _ ?_;clear hN N))|((first | refine SX.cond rfl (fun hb => ?_) (fun hb => ?_) | (refine bif2.mk (fun hb => ?_) (fun hb => ?_) <;> (try simp only [hb,GA,↓GB,GX,simprocAttr,hnt,hT,hnt1,hT1,hU1P,hk1,hk9,hk8]))) <;> ((first | cases hb | (simp only [HBs] at hb) | skip) <;> (first | (exfalso;omega) | skip)))|((first | (refine Ctr.use (hpc) hP hG [] ?_ rfl rfl ?_;(focus (refine LeR.of rfl trivial ?_ ?_ ?_ ?_ ?_ <;> first | decide | (simp only [GA,↓GB,GX,simprocAttr,GDs];done)));intro os' s hR;obtain ⟨rfl,rfl⟩ := hR));simp only [GA,↓GB,GX,simprocAttr,hnt,hT,hnt1,hT1,hU1P,hk1,hk9,hk8])|(refine CallVC.inline (f := 88) ?_ rfl Tryz.ntmps88 rfl ?_ ?_;(focus rw [hP];exact Tryz.func88);(focus simp);have hT1 := Ty.T88 hP;intro X1 K1 hU1 hnt1 hbl1 hK1;have hU1P := hU1.P;simp only [GA,↓GB,GX,simprocAttr] at hbl1 ⊢)|(refine CallVC.inline (f := 87) ?_ rfl Tryz.ntmps87 rfl ?_ ?_;(focus rw [hP];exact Tryz.func87);(focus simp);have hT1 := Ty.T87 hP;intro X1 K1 hU1 hnt1 hbl1 hK1;have hU1P := hU1.P;simp only [GA,↓GB,GX,simprocAttr] at hbl1 ⊢)|(refine ldG (p := (⟨0,0,none⟩,errV e.f)) (hG _ (GE1 e)) ?_;simp only [GA,↓GB,GX,simprocAttr,hnt,hT])|(refine ⟨fcells (l.getD i default),rfl,flds_cell _ _ (by omega),?_⟩ <;> simp only [fcells,GA,↓GB,GX,simprocAttr,hnt,hT,hk1])|(refine SX.loop (ι := { p : Nat × HvS // p.1 ≤ l.length ∧ takeG stepH l m0 = takeG stepH (l.drop p.1) p.2 }) (fun p => ⟨[(1,.one (.c (.row 0))),(19,.one (.c (.row 4))),(20,vv (.int .i64 l.length)),(21,vv (.int .i64 p.1.1))],[haveMap,.cells [.loc 3 0] 115,.cells [.loc 3 1] 117,.cells [.v (.string (B p.1.2.1)),.v (.int .u64 p.1.2.2)] 91,frow l]⟩) (fun p => l.length - p.1.1) ⟨(0,m0),Nat.zero_le _,rfl⟩ ⟨[0,1,2,3,4],by (refine LeR.of ?_ ?_ ?_ ?_ ?_ ?_ ?_ <;> first | (rw [hbl];decide) | decide | (simp only [GA,↓GB,GX,simprocAttr,GDs];done) | (simp only [GA,↓GB,GX,simprocAttr,GDs];rfl;done))⟩ ?_ <;> rintro ⟨⟨i,m⟩,hi,hm⟩ <;> simp only [] at hi hm ⊢)|((first | (refine Ctr.use (hpc) (hU1P.trans hP) (hG.under hU1) [] ?_ rfl rfl ?_;(focus (refine LeR.of rfl trivial ?_ ?_ ?_ ?_ ?_ <;> first | decide | (simp only [GA,↓GB,GX,simprocAttr,GDs];done)));intro os' s hR;obtain ⟨rfl,rfl⟩ := hR));simp only [GA,↓GB,GX,simprocAttr,hnt,hT,hnt1,hT1,hU1P,hk1,hk9,hk8])|(refine SX.block ?_)|(refine and_mk ?_ ?_;(focus first | decide | omega | rfl | assumption | (simp only [LBs];omega) | (simp;done)))|(refine And.intro ?_ ?_))
    all_goals (try refine Done.mk ?_)
    · have hj : (l.getD i default).num = 1 := by omega
      have hq : ¬ (l.getD i default).kind = 2 := by omega
      rw [takeG_no hm (by omega) (by simp [-List.getD_eq_getElem?_getD,stepH,hj,hq])] at hN0
      (refine hN0 _ _ ⟨[0,1,2,3],_,_,?_,?_,?_,⟨rfl,rfl⟩⟩;(focus exact LeR.of rfl trivial (by simp only [GA,↓GB,GX,simprocAttr,GDs]) (by decide) rfl rfl rfl);rotate_left;(focus rfl))
      rfl
    · have hj : (l.getD i default).num = 1 := by omega
      have hq : (l.getD i default).kind = 2 := by have := bne_eq_false_iff_eq.1 hb;omega
      exact ⟨⟨(i + 1,((l.getD i default).s,m.2)),by show i + 1 ≤ l.length;omega,takeG_go hm (by omega) (by simp [-List.getD_eq_getElem?_getD,stepH,hj,hq])⟩,[0,1,2,3,4],by (refine LeR.of ?_ ?_ ?_ ?_ ?_ ?_ ?_ <;> first | (rw [hbl];decide) | decide | (simp only [GA,↓GB,GX,simprocAttr,GDs];done) | (simp only [GA,↓GB,GX,simprocAttr,GDs];first | (rw [wI64 (by omega) (by omega)];rfl) | rfl;done)),by show l.length - (i + 1) < l.length - i;omega⟩
    · have hj : (l.getD i default).num = 2 := by omega
      have hq : ¬ (l.getD i default).kind = 0 := by omega
      rw [takeG_no hm (by omega) (by simp [-List.getD_eq_getElem?_getD,stepH,hj,hq])] at hN0
      (refine hN0 _ _ ⟨[0,1,2,3],_,_,?_,?_,?_,⟨rfl,rfl⟩⟩;(focus exact LeR.of rfl trivial (by simp only [GA,↓GB,GX,simprocAttr,GDs]) (by decide) rfl rfl rfl);rotate_left;(focus rfl))
      rfl
    · have hj : (l.getD i default).num = 2 := by omega
      have hq : (l.getD i default).kind = 0 := by have := bne_eq_false_iff_eq.1 hb;omega
      exact ⟨⟨(i + 1,(m.1,(l.getD i default).n)),by show i + 1 ≤ l.length;omega,takeG_go hm (by omega) (by simp [-List.getD_eq_getElem?_getD,stepH,hj,hq])⟩,[0,1,2,3,4],by (refine LeR.of ?_ ?_ ?_ ?_ ?_ ?_ ?_ <;> first | (rw [hbl];decide) | decide | (simp only [GA,↓GB,GX,simprocAttr,GDs];done) | (simp only [GA,↓GB,GX,simprocAttr,GDs];first | (rw [wI64 (by omega) (by omega)];rfl) | rfl;done)),by show l.length - (i + 1) < l.length - i;omega⟩
    · obtain ⟨g1,g2⟩ := hk1
      have k1 : ¬ (l.getD i default).num = 1 := fun h => by rw [h] at g1;cases g1
      have k2 : ¬ (l.getD i default).num = 2 := fun h => by rw [h] at g2;cases g2
      exact ⟨⟨(i + 1,m),by show i + 1 ≤ l.length;omega,takeG_go hm (by omega) (by simp [-List.getD_eq_getElem?_getD,stepH,k1,k2])⟩,[0,1,2,3,4],by (refine LeR.of ?_ ?_ ?_ ?_ ?_ ?_ ?_ <;> first | (rw [hbl];decide) | decide | (simp only [GA,↓GB,GX,simprocAttr,GDs];done) | (simp only [GA,↓GB,GX,simprocAttr,GDs];first | (rw [wI64 (by omega) (by omega)];rfl) | rfl;done)),by show l.length - (i + 1) < l.length - i;omega⟩
    · rw [takeG_end hm (by omega)] at hN0
      (refine hN0 _ _ ⟨[0,1,2,3],_,_,?_,?_,?_,⟨rfl,rfl⟩⟩;(focus exact LeR.of rfl trivial (by simp only [GA,↓GB,GX,simprocAttr,GDs]) (by decide) rfl rfl rfl);rotate_left;(focus rfl))
      rfl
end Go.Proofs.YtbdacbcpniegiaaGreatDoor
namespace Go.Sx
open Go Go.RowKit
theorem All2.perm {α β : Type} {R : α → β → Prop} {l l' : List α} (h : l.Perm l') : ∀ {m : List β},All2 R l m → ∃ m',m.Perm m' ∧ All2 R l' m' := by
  induction h with
  | nil => intro m h;exact ⟨m,.refl _,h⟩
  | cons x h ih =>
    intro m hm
    cases m with
    | nil => exact hm.elim
    | cons y m =>
      obtain ⟨m',h1,h2⟩ := ih hm.2
      exact ⟨y :: m',h1.cons y,hm.1,h2⟩
  | swap x y l =>
    intro m hm
    match m,hm with
    | a :: b :: m,hm => exact ⟨b :: a :: m,List.Perm.swap b a m,hm.2.1,hm.1,hm.2.2⟩
    | [_],hm => exact hm.2.elim
    | [],hm => exact hm.elim
  | trans h1 h2 ih1 ih2 =>
    intro m hm
    obtain ⟨m1,h3,h4⟩ := ih1 hm
    obtain ⟨m2,h5,h6⟩ := ih2 h4
    exact ⟨m2,h3.trans h5,h6⟩
def upd (M : Nat → Bool) (i : Nat) : Nat → Bool := fun k => if k = i then true else M k
def Imp (X : Ctx) (c' d : Cfg) : Prop := ∀ ρ σ a w,Rel X c' ρ σ a w → ∃ ρ' σ',Rel X d ρ' σ' a w
theorem Imp.refl {X : Ctx} {c : Cfg} : Imp X c c := fun ρ σ a w h => ⟨ρ,σ,h⟩
theorem Imp.trans {X : Ctx} {c d e : Cfg} (h : Imp X c d) (k : Imp X d e) : Imp X c e := fun ρ σ a w hr => let ⟨ρ',σ',h'⟩ := h ρ σ a w hr;k ρ' σ' a w h'
theorem Imp.le {X : Ctx} {c d : Cfg} (sel : List Nat) (h : LeR X.base.length sel d c) : Imp X c d := fun ρ σ a w hr => ⟨_,_,hr.leR h⟩
def DStep (X : Ctx) (ops : Array Oper) (C : (Nat → Bool) → Cfg) (D : List Nat) (M : Nat → Bool) (i : Nat) : Prop :=
  ∃ o,ops[i]? = some o ∧ o.guard = none ∧ VO X o (C M) (fun c' => Imp X c' (C (upd M i)))
structure DOk (ops : Array Oper) (M : Nat → Bool) (i : Nat) : Prop where
  un : M i = false
  dep : ∀ o,ops[i]? = some o → ∀ e ∈ o.after,Region.binds .any e = true → M e.on = true
  cl : ∀ j oj,ops[j]? = some oj → M j = true → ∀ e ∈ oj.after,Region.binds .any e = true → M e.on = true
section
variable {X : Ctx} {ops : Array Oper}
theorem dia_sound {A : Act → World → Prop} {C : (Nat → Bool) → Cfg} {D : List Nat} {L : Array Bool} {f : Nat} (hL : L.size = ops.size)
    (hLl : ∀ j oj,ops[j]? = some oj → L.getD j false = true → ∀ e ∈ oj.after,Region.binds .any e = true → L.getD e.on false = true)
    (hq : (inOK ops L [] D && outOK ops L D) = true) (hstep : ∀ M i,i ∈ D → DOk ops M i → DStep X ops C D M i)
    (hnext : ∀ ρ σ a w,Rel X (C fun k => (setL L D).getD k false) ρ σ a w → wpAny X.P .any ops (QN A) f (setL L D) a w) :
    ∀ (n : Nat) (listed : Array Bool) (ρ : List (List Nat)) (σ : List Value) (a : Act) (w : World),cntU listed D = n → listed.size = ops.size → (∀ j,j ∉ D → ∀ d,listed.getD j d = L.getD j d) →
      (∀ j oj,ops[j]? = some oj → listed.getD j false = true → ∀ e ∈ oj.after,Region.binds .any e = true → listed.getD e.on false = true) → (∀ j,L.getD j false = true → listed.getD j false = true) →
      Rel X (C fun k => listed.getD k false) ρ σ a w → wpAny X.P .any ops (QN A) (n + f) listed a w := by
  simp only [Bool.and_eq_true] at hq
  obtain ⟨hin,hout⟩ := hq
  have hnd := inOK_nodup hin
  have hLun : ∀ i ∈ D,L.getD i true = false := fun i hi => by
    obtain ⟨k,hk⟩ := List.mem_iff_getElem?.1 hi
    exact (inOK_spec hin hk).1
  have hop : ∀ i ∈ D,∃ o,ops[i]? = some o := fun i hi => by
    obtain ⟨k,hk⟩ := List.mem_iff_getElem?.1 hi
    obtain ⟨_,_,_,o,h1,_⟩ := inOK_spec hin hk
    exact ⟨o,h1⟩
  intro n
  induction n with
  | zero =>
    intro listed ρ σ a w hc hsz hoth hcl hmono hR
    have hall := cntU_zero hc
    have heq : listed = setL L D := by
      refine getD_ext (by rw [hsz,setL_size,hL]) (fun j => ?_)
      by_cases hj : j ∈ D
      · obtain ⟨o,ho⟩ := hop j hj
        rw [hall j hj,setL_true (.inl ⟨hj,by rw [hL];exact (Array.getElem?_eq_some_iff.1 ho).1⟩)]
      · rw [setL_getD hj,hoth j hj]
    rw [Nat.zero_add,heq]
    rw [heq] at hR
    exact hnext ρ σ a w hR
  | succ n ih =>
    intro listed ρ σ a w hc hsz hoth hcl hmono hR
    have hlt : ∀ i ∈ D,i < listed.size := fun i hi => by
      obtain ⟨o,ho⟩ := hop i hi
      rw [hsz];exact (Array.getElem?_eq_some_iff.1 ho).1
    rw [show n + 1 + f = (n + f) + 1 by omega]
    refine ⟨fun hnil => ?_,fun i hi => ?_⟩
    · obtain ⟨k,i,h1,h2,h3⟩ := cntU_first (listed := listed) (is := D) (by omega)
      obtain ⟨g1,g2,g3,o,g4,g5⟩ := inOK_spec hin h1
      have hmem : i ∈ D := List.mem_of_getElem? h1
      have : i ∈ Region.ready .any ops listed := by
        refine mem_ready.2 ⟨getD_in (hlt i hmem) h2,o,g4,fun e he hbd => ?_⟩
        rcases g5 e he hbd with h5 | h5 | ⟨k',h6,h7⟩
        · exact hmono _ h5
        · simp at h5
        · exact h3 k' _ h6 h7
      rw [hnil] at this
      cases this
    · obtain ⟨hun,o,ho,hready⟩ := mem_ready.1 hi
      have hilt : i < ops.size := (Array.getElem?_eq_some_iff.1 ho).1
      have hmem : i ∈ D := by
        refine Classical.byContradiction (fun hnm => ?_)
        have h1 := List.all_eq_true.1 hout i (List.mem_range.2 hilt)
        have hLi : L.getD i true = false := by rw [← hoth i hnm];exact hun
        simp only [hLi,Bool.false_or,Bool.or_eq_true] at h1
        rcases h1 with (h1 | h1) | h1
        · exact hnm (by simpa using h1)
        · obtain ⟨u,hu,hu2⟩ := List.any_eq_true.1 h1
          simp only [Bool.and_eq_true,Bool.not_eq_true',List.contains_eq_mem,decide_eq_false_iff_not] at hu2
          obtain ⟨ou,hou,e,he,hbd,hon⟩ := Region.waitsFor_spec hu2.2
          rw [ho] at hou;cases hou
          have h2 := hready e he hbd
          rw [hon,hoth u hu2.1.2,getD_both hu2.1.1] at h2
          cases h2
        · have hne : cntU listed D ≠ 0 := by omega
          obtain ⟨k,j,h2,h3,_⟩ := cntU_first hne
          obtain ⟨j',h4,h5,h6⟩ := sinkT_spec hcl hmono h1 ⟨j,List.mem_of_getElem? h2,h3⟩
          obtain ⟨ou,hou,e,he,hbd,hon⟩ := Region.waitsFor_spec h6
          rw [ho] at hou;cases hou
          have h7 := hready e he hbd
          rw [hon,h5] at h7
          cases h7
      have hunf := getD_both hun
      have hset : ∀ j,j ≠ i → (listed.setIfInBounds i true).getD j false = listed.getD j false := fun j hj => getD_set_ne false (fun e => hj e.symm)
      have hseti : (listed.setIfInBounds i true).getD i false = true := by simp [hlt i hmem]
      have hupd : (fun k => (listed.setIfInBounds i true).getD k false) = upd (fun k => listed.getD k false) i := by
        funext k
        unfold upd
        split
        · rename_i e;rw [e];exact hseti
        · rename_i e;exact hset k e
      have hcnt : cntU (listed.setIfInBounds i true) D = n := by
        have := cntU_set (hlt i hmem) hunf hnd hmem
        omega
      obtain ⟨o',ho',hg,hv⟩ := hstep (fun k => listed.getD k false) i hmem ⟨hunf,fun o1 h1 e he hb => by rw [ho] at h1;cases h1;exact hready e he hb,hcl⟩
      rw [ho] at ho';cases ho'
      unfold wpOp
      simp only [ho]
      rw [if_pos (by simp [Region.wanted,hg])]
      refine .inl (Oper.wp_mono3 (fun a' w' h => ?_) (fun e a w he h => h.elim) (hv ρ σ a w hR))
      obtain ⟨c',ρ1,σ1,hr1,himp⟩ := h
      obtain ⟨ρ2,σ2,hr2⟩ := himp ρ1 σ1 a' w' hr1
      refine ih (listed.setIfInBounds i true) ρ2 σ2 a' w' hcnt (by simp [hsz]) (fun j hj d => ?_) (fun j oj hj hl e he hbd => ?_) (fun j hj => getD_set_true (hmono j hj)) (by rw [hupd];exact hr2)
      · rw [getD_set_ne d (show i ≠ j from fun e => hj (by rw [← e];exact hmem))];exact hoth j hj d
      · by_cases hji : j = i
        · subst hji
          rw [ho] at hj;cases hj
          exact getD_set_true (hready e he hbd)
        · rw [hset j hji] at hl
          exact getD_set_true (hcl j oj hj hl e he hbd)
def diaB (l : List Oper) (D : List Nat) (pl : List PlT) : Bool :=
  Region.noSelect l.toArray && (decide (D.length + cntP (pl.map PlT.pl) = l.length) && (inOK l.toArray (Array.replicate l.length false) [] D && outOK l.toArray (Array.replicate l.length false) D)
    && planOK l.toArray (pl.map PlT.pl) (setL (Array.replicate l.length false) D) && pl.all (PlT.lk l.toArray))
theorem SX.dia {c : Cfg} {id : Nat} {l : List Oper} {K : Exit → Cfg → Prop} (D : List Nat) (C : (Nat → Bool) → Cfg) (pl : List PlT) (c1 : Cfg) (hm : X.P.follows .mixedOrders = true) (hB : diaB l D pl = true)
    (h0 : Imp X c (C fun _ => false)) (hstep : ∀ M i,i ∈ D → DOk l.toArray M i → DStep X l.toArray C D M i) (h1 : C (fun k => (setL (Array.replicate l.length false) D).getD k false) = c1)
    (hN : vplT X l.toArray pl c1 (K .normal)) : SX X (.region id l.toArray true) c K := fun ρ σ a w hr => by
  simp only [diaB,Bool.and_eq_true,decide_eq_true_eq] at hB
  obtain ⟨b1,⟨⟨b2,b3⟩,b4⟩,b5⟩ := hB
  rw [vplT_eq b5] at hN
  obtain ⟨ρ1,σ1,hr1⟩ := h0 ρ σ a w hr
  have hr' : Rel X (C fun _ => false) ρ1 σ1 a { w with drawn := w.drawn + 1 } := hr1.below ⟨rfl,rfl,rfl,Nat.le_refl _,fun _ _ => rfl⟩
  have hf : ∀ k d,(Array.replicate l.length false).getD k false = d → d = false := fun k d h => by
    rw [← h,Array.getD_eq_getD_getElem?,Array.getElem?_replicate]
    split <;> rfl
  have hC : (fun k => (Array.replicate l.length false).getD k false) = fun _ => false := funext fun k => hf k _ rfl
  have h2 := dia_sound (X := X) (ops := l.toArray) (A := fun a w => Post X K .normal a w) (C := C) (D := D) (L := Array.replicate l.length false) (f := cntP (pl.map PlT.pl) + 0) (by simp)
    (fun j oj hj hl => by have := hf j _ hl;cases this) (by simpa using b3) hstep
    (fun ρ σ a w hr => by
      rw [h1] at hr
      exact plan_sound (A := fun a w => Post X K .normal a w) b1 (pl.map PlT.pl) c1 (K .normal) (setL (Array.replicate l.length false) D) 0 hN b4 (by rw [setL_size];simp) (fun c3 ρ3 σ3 a3 w3 hr3 hk => ⟨c3,ρ3,σ3,hr3,hk⟩) ρ σ a w hr)
    (cntU (Array.replicate l.length false) D) (Array.replicate l.length false) ρ1 σ1 a _ rfl (by simp) (fun j hj d => rfl) (fun j oj hj hl => by have := hf j _ hl;cases this) (fun j hj => hj) (by rw [hC];exact hr')
  have hcn : cntU (Array.replicate l.length false) D = D.length := cntU_all fun i _ => hf i _ rfl
  rw [hcn,Nat.add_zero,b2] at h2
  have h3 : (Code.region id l.toArray true).wp X.P (QN fun a w => Post X K .normal a w) a w := wp_region_any hm (by simpa using h2)
  exact Go.wp_mono h3 (fun e a w h => by obtain ⟨rfl,h⟩ := h;exact h)
theorem Imp.gone {c : Cfg} : Imp X c { c with loc := c.loc ++ [.gone] } := fun ρ σ a w hr => by
  have h1 := hr.nilRow 0 0
  refine ⟨_,_,⟨h1.env,by rw [h1.len];simp,by rw [h1.lenS];simp,fun i o fp v ho hb hv => ?_,h1.inj,h1.lt,h1.fresh,h1.low,h1.defers,h1.size,h1.one,h1.pin⟩⟩
  rcases Nat.lt_or_ge i c.loc.length with hi | hi
  · rw [List.getElem?_append_left hi] at ho
    exact h1.loc i o fp v (by rw [List.getElem?_append_left hi];exact ho) hb hv
  · rw [List.getElem?_append_right hi] at ho
    cases hq : i - c.loc.length with
    | zero => rw [hq] at ho;simp at ho;subst ho;trivial
    | succ n => rw [hq] at ho;simp at ho
theorem Imp.dead {c : Cfg} {t : Nat} (ht : t < X.nt) : Imp X c { c with env := (t,.one (.c .dead)) :: c.env } := fun ρ σ a w hr => by
  refine ⟨ρ,σ,⟨fun t' s he => ?_,hr.len,hr.lenS,hr.loc,hr.inj,hr.lt,hr.fresh,hr.low,hr.defers,hr.size,hr.one,hr.pin⟩⟩
  simp only [List.lookup_cons] at he
  split at he
  · rename_i h
    cases he
    have h : t' = t := by simpa using h
    subst h
    have : t' < a.tmps.size := by rw [hr.size];exact ht
    exact ⟨a.tmps[t'],by simp [this],trivial⟩
  · exact hr.env t' s he
theorem Imp.perm {c : Cfg} {i : Nat} {es es' : List (Value × S1)} (hi : c.loc[i]? = some (.map es)) (hp : es.Perm es') : Imp X c { c with loc := c.loc.set i (.map es') } := fun ρ σ a w hr => by
  refine ⟨ρ,σ,⟨hr.env,by simp [hr.len],by simp [hr.lenS],fun j o fp v ho hb hv => ?_,hr.inj,hr.lt,hr.fresh,hr.low,hr.defers,hr.size,hr.one,hr.pin⟩⟩
  by_cases e : i = j
  · subst e
    rw [List.getElem?_set_self (List.getElem?_eq_some_iff.1 hi).1] at ho
    cases ho
    obtain ⟨b,ms,clock,ms',e1,h2,h3,⟨h4,h5⟩,h6⟩ := hr.loc i _ fp v hi hb hv
    obtain ⟨ms2,h7,h8⟩ := All2.perm hp h6
    exact ⟨b,ms,clock,ms2,e1,h2,h3,⟨h7.symm.trans h4,(h7.map _).nodup_iff.1 h5⟩,h8⟩
  · rw [List.getElem?_set_ne e] at ho
    exact hr.loc j o fp v ho hb hv
end
end Go.Sx
